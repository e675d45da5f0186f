/- Marking and holding parts and paths: the contracts of the laws' helper functions. No condition but the bounds that each theorem names. -/
import Derived.Test.YtjjoijidlgkimaaTyPart
import Derived.Deep.LoopGhost
namespace Go.Proofs.Ytjjoijidlgkimaa
open Go.ChangeShapes Go.WideShapes Go.ChangeAt Go.RowKit Go.Deep

section
variable {α β : Type} {n : Nat} {c : α → Value → List Value} {hc : ∀ a v, (c a v).length = n} {sub : α → List β} {e : TypeId} {I : Own β}
/-- Plain cells of the kth element are written; its inner slice stays. -/
theorem nest_row {S : Nat → Prop} {w w2 : World} {g m cap : Nat} {l : List α} (h : (Own.nest n c hc sub e I).own S w (.slice (some ⟨g, 0, none⟩) m cap) l) (k : Nat) (hk : k < l.length) (x : α) (hsub : sub x = sub l[k]) (hg : w.grownBy w2 (some g))
    (hrow : ∀ (qs : List (Cap α)) (_ : qs.map (·.dat) = l) (hk' : k < qs.length), OwnF (capF c) n 0 e w (.slice (some ⟨g, 0, none⟩) m cap) qs → OwnF (capF c) n 0 e w2 (.slice (some ⟨g, 0, none⟩) m cap) (qs.set k ⟨x, qs[k].val, qs[k].set⟩)) :
    (Own.nest n c hc sub e I).own S w2 (.slice (some ⟨g, 0, none⟩) m cap) (l.set k x) := by
  obtain ⟨qs, rfl, ho, hS, hq, hd⟩ := h
  have hk' : k < qs.length := by simpa using hk
  have hch : Chg (fun b => b = g) w w2 := Chg.ofGrown hg (fun k hk => by cases hk; rfl)
  have hne : ∀ b, (Value.slice (some ⟨g, 0, none⟩) m cap).ownBlock ≠ some b → ¬ b = g := fun b h e => h (by rw [e]; rfl)
  refine ⟨qs.set k ⟨x, qs[k].val, qs[k].set⟩, by simp [List.map_set], hrow qs rfl hk' ho, hS, fun q hqm => ?_, fun i j hi hj hne' b hbi => ?_⟩
  · obtain ⟨i, hi, rfl⟩ := List.getElem_of_mem hqm
    have hi' : i < qs.length := by simpa using hi
    rw [List.getElem_set]
    by_cases hki : k = i
    · subst hki
      simp only [if_pos]
      obtain ⟨a1, a2⟩ := hq qs[k] (List.getElem_mem _)
      refine ⟨?_, fun b hb => ⟨(a2 b hb).1, (a2 b hb).2.1, Nat.lt_of_lt_of_le (a2 b hb).2.2 hch.size⟩⟩
      have := I.kept a1 hch (fun b hb => hne b (a2 b hb).2.1)
      rw [hsub]
      simpa using this
    · rw [if_neg hki]
      obtain ⟨a1, a2⟩ := hq qs[i] (List.getElem_mem _)
      exact ⟨I.kept a1 hch (fun b hb => hne b (a2 b hb).2.1), fun b hb => ⟨(a2 b hb).1, (a2 b hb).2.1, Nat.lt_of_lt_of_le (a2 b hb).2.2 hch.size⟩⟩
  · have hi' : i < qs.length := by simpa using hi
    have hj' : j < qs.length := by simpa using hj
    rw [List.getElem_set] at hbi ⊢
    have s1 : qs[i].set b := by
      by_cases e1 : k = i
      · subst e1; simpa using hbi
      · rw [if_neg e1] at hbi; exact hbi
    have s2 := hd i j hi' hj' hne' b s1
    by_cases e2 : k = j
    · subst e2; simpa using s2
    · rw [if_neg e2]; exact s2
end

theorem Chg.blk {lo hi : Nat} {w w' : World} (c : Chg (rng lo hi) w w') {b : Nat} {o : Obj} (h : w.heap[b]? = some o) (hb : b < lo ∨ hi ≤ b) : w'.heap[b]? = some o :=
  (c.block b (blk_lt h) (fun hs => by rcases hb with hb | hb <;> have := hs.1 <;> have := hs.2 <;> omega)).trans h
theorem rng_apart {a b c d : Nat} (h : b ≤ c ∨ d ≤ a) : ∀ x, rng a b x → ¬ rng c d x := by
  intro x h1 h2
  have := h1.1; have := h1.2; have := h2.1; have := h2.2
  omega

def markPart (k : Int) (x : Part) : Part := ⟨k, k + 1, k + 1 + 1, markL Hop.mk' 5 (k + 1 + 1 + 1) x.hops.length⟩
def markParts (k : Int) : List Part → List Part
  | [] => []
  | x :: l => markPart k x :: markParts (k + 3 + 5 * x.hops.length) l
def markN (l : List Part) : Int := 3 * l.length + 5 * hopsN l
theorem markParts_len (k : Int) (l : List Part) : (markParts k l).length = l.length := by
  induction l generalizing k with
  | nil => rfl
  | cons x l ih => simp [markParts, ih]
theorem hopsN_cons (x : Part) (l : List Part) : hopsN (x :: l) = x.hops.length + hopsN l := by simp [hopsN, Part.size]
theorem markParts_at (k : Int) (l : List Part) (j : Nat) (hj : j < l.length) : (markParts k l)[j]'(by rw [markParts_len]; exact hj) = markPart (k + 3 * j + 5 * hopsN (l.take j)) l[j] := by
  induction l generalizing k j with
  | nil => simp at hj
  | cons x l ih =>
    cases j with
    | zero => simp [markParts, hopsN]
    | succ j =>
      have h := ih (k + 3 + 5 * x.hops.length) j (by simpa using hj)
      have e1 : k + 3 + 5 * (x.hops.length : Int) + 3 * (j : Int) + 5 * ((hopsN (l.take j) : Nat) : Int) = k + 3 * ((j + 1 : Nat) : Int) + 5 * ((hopsN ((x :: l).take (j + 1)) : Nat) : Int) := by
        rw [List.take_succ_cons, hopsN_cons]; omega
      rw [e1] at h
      simpa [markParts] using h
theorem markParts_hops (k : Int) (l : List Part) : hopsN (markParts k l) = hopsN l := by
  induction l generalizing k with
  | nil => rfl
  | cons x l ih => rw [markParts, hopsN_cons, hopsN_cons, ih]; simp [markPart, markL]
theorem take_snocM {α : Type} {xs ms : List α} {j : Nat} (h : xs.take j = ms.take j) (hj : j < xs.length) (hm : j < ms.length) (y : α) (hy : ms[j] = y) : (xs.set j y).take (j + 1) = ms.take (j + 1) := by
  rw [List.take_succ_eq_append_getElem (by simpa using hj), List.take_succ_eq_append_getElem hm, List.take_set_of_le (Nat.le_refl _), h]
  simp [hy]
theorem drop_snocM {α : Type} {xs l : List α} {j : Nat} (h : xs.drop j = l.drop j) (y : α) : (xs.set j y).drop (j + 1) = l.drop (j + 1) := by
  rw [List.drop_set_of_lt (by omega), ← List.drop_drop, h, List.drop_drop]
theorem drop_getM {α : Type} {xs l : List α} {j : Nat} (h : xs.drop j = l.drop j) (h1 : j < xs.length) (h2 : j < l.length) : xs[j] = l[j] := by
  rw [List.drop_eq_getElem_cons h1, List.drop_eq_getElem_cons h2] at h
  exact (List.cons.inj h).1
def Hop.ownS : Own Hop := Own.flat Hop.f 5 Hop.flen 136
theorem lm_HopS (l : List Hop) (v : Value) (k : Int) (S : Nat → Prop) (w : World) (o : Hop.ownS.own S w v l) (h0 : 0 ≤ k) (h1 : k + 5 * l.length ≤ 4611686018427387904) :
    Calls Try.prog 166 #[v, .int .i64 k] w fun e w' => e = .returned (.int .i64 (k + 5 * l.length)) ∧ Hop.ownS.own S w' v (markL Hop.mk' 5 k l.length) ∧ Chg S w w' :=
  (l_markHopS l v k 0 w o.1 h0 h1).mono fun _ _ ⟨he, ho, hg⟩ => ⟨he, ⟨ho, o.2⟩, Chg.ofGrown hg o.2⟩
set_option maxHeartbeats 1000000 in
theorem l_markPathPartS (l : List Part) (v : Value) (k : Int) (S : Nat → Prop) (w : World) (o : Part.own.own S w v l) (h0 : 0 ≤ k) (h1 : k + markN l ≤ 4611686018427387904) :
    Calls Try.prog 150 #[v, .int .i64 k] w fun e w' => e = .returned (.int .i64 (k + markN l)) ∧ Part.own.own S w' v (markParts k l) ∧ Chg S w w' := by
  unfold markN at h1
  by_cases hl : 0 < l.length
  · obtain ⟨g, cap, rfl, hSg, hgs⟩ := nest_shape o hl
    have hfin : k + markN l = k + 3 * l.length + 5 * hopsN l := by unfold markN; omega
    have HF := Lib.hid hfin; clear hfin
    go_enter Try.func150, Try.ntmps150
    go_wp2
    go_loopg [1, 5] l.length (fun gk kk i wr => ∃ (j : Nat) (xs : List Part), gk + j = l.length ∧ i = .int .i64 j ∧ kk = .int .i64 (k + 3 * j + 5 * hopsN (l.take j)) ∧ xs.length = l.length ∧ Part.own.own S wr (.slice (some ⟨g, 0, none⟩) l.length cap) xs ∧ xs.take j = (markParts k l).take j ∧ xs.drop j = l.drop j ∧ Chg S w wr)
    case atStart => exact ⟨0, l, rfl, rfl, by simp [hopsN], rfl, o, rfl, rfl, Chg.refl _ _⟩
    case round =>
      obtain ⟨j, xs, hgk, rfl, rfl, hxl, hown, htk, hdr, hch⟩ := hrel
      have Htk := Lib.hid htk; clear htk
      have Hxl := Lib.hid hxl; clear hxl
      have Hdr := Lib.hid hdr; clear hdr
      have hht := hopsN_take_le l (j + 1)
      by_cases hlt : j < l.length
      · have hsn := hopsN_snoc hlt
        have hjx : j < xs.length := by rw [Hxl.out]; exact hlt
        have hxj := drop_getM Hdr.out hjx hlt
        have hg' : gk - 1 + (j + 1) = l.length ∧ gk - 1 < gk := by omega
        have HG := Lib.hid hg'; clear hg' hgk
        have hbd : k + 3 * j + 5 * hopsN (l.take j) + 3 + 5 * l[j].hops.length ≤ 4611686018427387904 := by omega
        have hnk : k + 3 * ((j + 1 : Nat) : Int) + 5 * hopsN (l.take (j + 1)) = k + 3 * j + 5 * hopsN (l.take j) + 1 + 1 + 1 + 5 * l[j].hops.length := by omega
        have HNK := Lib.hid hnk; clear hnk hsn hht
        have hma := markParts_at k l j hlt
        have HMA := Lib.hid hma; clear hma
        have hk0 : 0 ≤ k + 3 * j + 5 * hopsN (l.take j) := by omega
        generalize k + 3 * (j : Int) + 5 * ((hopsN (l.take j) : Nat) : Int) = kj at *
        obtain ⟨hv0, T0, hcells, _⟩ := nest_at hown j hjx
        have d0 := hcells 0 _ rfl
        have d1 := hcells 1 _ rfl
        have d2 := hcells 2 _ rfl
        have d3 := hcells 3 _ rfl
        simp only [Nat.add_zero] at d0
        have f0 := nest_free hown (j * 4)
        have f1 := nest_free hown (j * 4 + 1)
        have f2 := nest_free hown (j * 4 + 2)
        clear hcells
        have hrow : ∀ (qs : List (Cap Part)) (_ : qs.map (·.dat) = xs) (hk' : j < qs.length), OwnF (capF Part.c) 4 0 134 wr (.slice (some ⟨g, 0, none⟩) l.length cap) qs →
            OwnF (capF Part.c) 4 0 134 (((wr.setCell ⟨g, j * 4, none⟩ (.int .i64 kj)).setCell ⟨g, j * 4 + 1, none⟩ (.int .i64 (kj + 1))).setCell ⟨g, j * 4 + 2, none⟩ (.int .i64 (kj + 1 + 1))) (.slice (some ⟨g, 0, none⟩) l.length cap) (qs.set j ⟨⟨kj, kj + 1, kj + 1 + 1, xs[j].hops⟩, qs[j].val, qs[j].set⟩) ∧
            wr.grownBy (((wr.setCell ⟨g, j * 4, none⟩ (.int .i64 kj)).setCell ⟨g, j * 4 + 1, none⟩ (.int .i64 (kj + 1))).setCell ⟨g, j * 4 + 2, none⟩ (.int .i64 (kj + 1 + 1))) (some g) := by
          intro qs hq hk' ho
          have hf : ∀ q : Cap Part, (capF Part.c q).length = 4 := fun _ => rfl
          have hdat : qs[j].dat = xs[j] := by simp [← hq]
          obtain ⟨p0, g0⟩ := OwnF.put1 hf ho j hk' 0 (by decide) (.int .i64 kj) ⟨{ qs[j].dat with kind := kj }, qs[j].val, qs[j].set⟩ rfl
          have e0 : j < (qs.set j ⟨{ qs[j].dat with kind := kj }, qs[j].val, qs[j].set⟩).length := by simpa using hk'
          obtain ⟨p1, g1⟩ := OwnF.put1 hf p0 j e0 1 (by decide) (.int .i64 (kj + 1)) ⟨{ qs[j].dat with kind := kj, ts := kj + 1 }, qs[j].val, qs[j].set⟩ (by simp [capF, Part.c])
          rw [List.set_set] at p1
          have e1 : j < (qs.set j ⟨{ qs[j].dat with kind := kj, ts := kj + 1 }, qs[j].val, qs[j].set⟩).length := by simpa using hk'
          obtain ⟨p2, g2⟩ := OwnF.put1 hf p1 j e1 2 (by decide) (.int .i64 (kj + 1 + 1)) ⟨⟨kj, kj + 1, kj + 1 + 1, xs[j].hops⟩, qs[j].val, qs[j].set⟩ (by simp [capF, Part.c])
          rw [List.set_set] at p2
          exact ⟨p2, (g0.trans g1).trans g2⟩
        have hg3 : wr.grownBy (((wr.setCell ⟨g, j * 4, none⟩ (.int .i64 kj)).setCell ⟨g, j * 4 + 1, none⟩ (.int .i64 (kj + 1))).setCell ⟨g, j * 4 + 2, none⟩ (.int .i64 (kj + 1 + 1))) (some g) := by
          obtain ⟨qs, hq, ho, _⟩ := hown
          exact (hrow qs hq (by rw [← List.length_map (f := fun q : Cap Part => q.dat), hq]; exact hjx) ho).2
        have hown3 := nest_row hown j hjx ⟨kj, kj + 1, kj + 1 + 1, xs[j].hops⟩ rfl hg3 (fun qs hq hk' ho => (hrow qs hq hk' ho).1)
        have hc3 : Chg S wr (((wr.setCell ⟨g, j * 4, none⟩ (.int .i64 kj)).setCell ⟨g, j * 4 + 1, none⟩ (.int .i64 (kj + 1))).setCell ⟨g, j * 4 + 2, none⟩ (.int .i64 (kj + 1 + 1))) := Chg.ofGrown hg3 (fun q hq => by cases hq; exact hSg)
        clear hrow hg3
        have hjx3 : j < (xs.set j ⟨kj, kj + 1, kj + 1 + 1, xs[j].hops⟩).length := by simpa using hjx
        obtain ⟨hv, T, hcells, hin, hT, hnext⟩ := nest_at hown3 j hjx3
        have d3' := hcells 3 _ rfl
        simp only [List.getElem_set_self] at hin hnext d3'
        have hlen : xs[j].hops.length = l[j].hops.length := by rw [hxj]
        have HLEN := Lib.hid hlen; clear hlen hxj
        have HIN := Lib.hid hin; have HNX := Lib.hid hnext; have HC3 := Lib.hid hc3
        clear hin hnext hc3 hcells hown3 hown
        go_wp2_with fail
        refine (lm_HopS xs[j].hops hv (kj + 1 + 1 + 1) T _ HIN.out (by omega) (by rw [HLEN.out]; omega)).mono ?_
        rintro e w4 ⟨rfl, o4, c4⟩
        have hfin := HNX.out w4 ⟨kj, kj + 1, kj + 1 + 1, markL Hop.mk' 5 (kj + 1 + 1 + 1) xs[j].hops.length⟩ c4 o4 rfl
        rw [List.set_set, HLEN.out] at hfin
        rw [HLEN.out, ← HNK.out]
        have hch4 := (hch.trans HC3.out).trans (c4.mono (fun b hb => (hT b hb).1))
        clear hT
        go_wp2_with fail
        go_roundg (gk - 1)
        case measure => exact HG.out.2
        case rel => exact ⟨j + 1, _, HG.out.1, by go_num, rfl, by simpa using Hxl.out, hfin, take_snocM Htk.out hjx (by rw [markParts_len]; exact hlt) _ HMA.out, drop_snocM Hdr.out _, hch4⟩
      · obtain rfl : j = l.length := by omega
        have hxs : xs = markParts k l := by
          have := Htk.out
          rwa [List.take_of_length_le (by rw [Hxl.out]; exact Nat.le_refl _), List.take_of_length_le (by rw [markParts_len]; exact Nat.le_refl _)] at this
        subst hxs
        rw [List.take_length]
        go_wp2
        go_ret
        exact ⟨ret_int HF.out.symm, hown, hch⟩
  · have hl0 : l = [] := List.eq_nil_of_length_eq_zero (by omega)
    subst hl0
    obtain ⟨oo, cap, rfl, _⟩ := (Part.ord o).shape
    go_enter Try.func150, Try.ntmps150
    go_wp2
    refine wp_loop_rounds 1 ?_; rw [rounds_succ]
    go_wp2
    go_ret
    exact ⟨by simp [markN, hopsN], o, Chg.refl _ _⟩
set_option maxHeartbeats 1000000 in
theorem l_heldPathPartS (l : List Part) (v : Value) (k : Int) (w : World) (hv : RdS Part.rep w v (markParts k l)) (h0 : 0 ≤ k) (h1 : k + markN l ≤ 4611686018427387904) :
    Calls Try.prog 151 #[v, .int .i64 k] w fun e w' => e = .returned (.int .i64 (k + markN l)) ∧ Ext w w' := by
  have hfin : k + markN l = k + 3 * l.length + 5 * hopsN l := by unfold markN; omega
  have HF := Lib.hid hfin
  rw [hfin] at h1
  clear hfin
  obtain ⟨o, cap, hve, hsm⟩ := hv.shape
  rw [markParts_len] at hve hsm
  subst hve
  go_enter Try.func151, Try.ntmps151
  go_wp2
  go_loopg [1, 5] l.length (fun gk kk i wr => ∃ (j : Nat), gk + j = l.length ∧ i = .int .i64 j ∧ kk = .int .i64 (k + 3 * j + 5 * hopsN (l.take j)) ∧ Ext w wr)
  case atStart => exact ⟨0, rfl, rfl, by simp [hopsN], Ext.refl _⟩
  case round =>
    obtain ⟨j, hgk, rfl, rfl, hx⟩ := hrel
    have hht := hopsN_take_le l (j + 1)
    by_cases hlt : j < l.length
    · obtain ⟨b, off, oh, ch, rfl, hc, hr⟩ := Part.at (hv.ext hx) j (by rw [markParts_len]; exact hlt)
      rw [markParts_at k l j hlt] at hc hr
      have hsn := hopsN_snoc hlt
      have hg' : gk - 1 + (j + 1) = l.length ∧ gk - 1 < gk := by omega
      have HG := Lib.hid hg'; clear hg' hgk
      have hbd : k + 3 * j + 5 * hopsN (l.take j) + 3 + 5 * l[j].hops.length ≤ 4611686018427387904 := by omega
      have hnk : k + 3 * ((j + 1 : Nat) : Int) + 5 * hopsN (l.take (j + 1)) = k + 3 * j + 5 * hopsN (l.take j) + 1 + 1 + 1 + 5 * l[j].hops.length := by omega
      have HNK := Lib.hid hnk; clear hnk hsn hht
      have hk0 : 0 ≤ k + 3 * j + 5 * hopsN (l.take j) := by omega
      generalize k + 3 * (j : Int) + 5 * ((hopsN (l.take j) : Nat) : Int) = kj at *
      simp only [markPart] at hc hr
      rw [markL_len] at hc hr
      have HR := Lib.hid hr; clear hr
      go_wp2_with fail
      refine (l_heldHopS l[j].hops.length _ (kj + 1 + 1 + 1) _ HR.out (by omega) (by omega)).mono ?_
      rintro e w4 ⟨rfl, h4⟩
      have hp : ¬ (kj + 1 + 1 + 1 + 5 * (l[j].hops.length : Int)) < 0 := by omega
      rw [← HNK.out] at hp ⊢
      go_wp2_with fail
      go_roundg (gk - 1)
      case measure => exact HG.out.2
      case rel => exact ⟨j + 1, HG.out.1, by go_num, rfl, hx.trans h4⟩
    · obtain rfl : j = l.length := by omega
      rw [List.take_length]
      go_wp2
      go_ret
      exact ⟨ret_int HF.out.symm, hx⟩
set_option maxHeartbeats 400000 in
theorem l_markPath (l : List Part) (v : Value) (k : Int) (S : Nat → Prop) (w : World) (o : Part.own.own S w v l) (h0 : 0 ≤ k) (h1 : k + markN l ≤ 4611686018427387904) :
    Calls Try.prog 112 #[.agg #[v], .int .i64 k] w fun e w' => e = .returned (.int .i64 (k + markN l)) ∧ Part.own.own S w' v (markParts k l) ∧ Chg S w w' := by
  have hx0 : Ext w (w.alloc (.cells #[v] 76)) := (Ext.refl _).alloc _
  go_enter Try.func112, Try.ntmps112
  go_wp2_with fail
  refine (l_markPathPartS l v k S _ (Own.ext o hx0) h0 h1).mono ?_
  rintro e w1 ⟨rfl, o1, c1⟩
  go_wp2_with fail
  go_ret
  exact ⟨rfl, o1, (Chg.ofExt hx0).trans c1⟩
set_option maxHeartbeats 400000 in
theorem l_heldPath (l : List Part) (v : Value) (k : Int) (w : World) (hv : RdS Part.rep w v (markParts k l)) (h0 : 0 ≤ k) (h1 : k + markN l ≤ 4611686018427387904) :
    Calls Try.prog 114 #[.agg #[v], .int .i64 k] w fun e w' => e = .returned (.int .i64 (k + markN l)) ∧ Ext w w' := by
  have hx0 : Ext w (w.alloc (.cells #[v] 76)) := (Ext.refl _).alloc _
  have hp : ¬ (k + markN l) < 0 := by unfold markN; omega
  go_enter Try.func114, Try.ntmps114
  go_wp2_with fail
  refine (l_heldPathPartS l v k _ (hv.ext hx0) h0 h1).mono ?_
  rintro e w1 ⟨rfl, k1⟩
  go_wp2_with fail
  go_ret
  exact ⟨rfl, hx0.trans k1⟩
end Go.Proofs.Ytjjoijidlgkimaa
