/- Slices of paths: how they read, what they own, and the contracts of the laws' helper functions over them. No condition but the bounds that each theorem names. -/
import Derived.Test.YtpeipodehflmaaaTyPartM
namespace Go.Proofs.Ytpeipodehflmaaa
open Go.ChangeShapes Go.WideShapes Go.ChangeAt Go.RowKit Go.Deep

theorem Pth.clen (x : Pth) (v : Value) : (x.c v).length = 1 := rfl
theorem Pth.at {w : World} {o : Option Addr} {m cap : Nat} {l : List Pth} (h : RdS Pth.rep w (.slice o m cap) l) (k : Nat) (hk : k < l.length) :
    ∃ b off oh ch, o = some ⟨b, off, none⟩ ∧ w.cell? ⟨b, off + k, none⟩ = some (.slice oh l[k].parts.length ch) ∧ RdS Part.rep w (.slice oh l[k].parts.length ch) l[k].parts := by
  obtain ⟨o', cap', hv, h1, h2, hn, h3⟩ := h
  obtain ⟨b, off, cs, ho, hc, v, rfl, hr⟩ := h3 k hk
  cases hv
  obtain ⟨oh, ch, rfl, _⟩ := hr.shape
  have := hc 0 _ rfl
  refine ⟨b, off, oh, ch, ho, ?_, hr⟩
  have e : Pth.rep.cells = 1 := rfl
  simpa [e] using this
def pszN (l : List Pth) : Nat := (l.map Pth.size).sum
def pthsN (l : List Pth) : Nat := l.length + pszN l
theorem pszN_snoc {l : List Pth} {k : Nat} (hk : k < l.length) : pszN (l.take (k + 1)) = pszN (l.take k) + l[k].size := by
  unfold pszN
  rw [List.take_succ_eq_append_getElem hk, List.map_append, List.sum_append]
  simp only [List.map_cons, List.map_nil, List.sum_cons, List.sum_nil]; omega
theorem pszN_take_le (l : List Pth) (k : Nat) : pszN (l.take k) ≤ pszN l := by
  unfold pszN
  have h := List.take_append_drop k l
  have h2 : (l.map Pth.size).sum = ((l.take k ++ l.drop k).map Pth.size).sum := by rw [h]
  rw [List.map_append, List.sum_append] at h2
  omega
theorem pszN_le {l : List Pth} {k : Nat} (hk : k < l.length) : l[k].size ≤ pszN l := by
  have h1 := pszN_snoc hk
  have h2 := pszN_take_le l (k + 1)
  omega
theorem Pth.opensS : Opens Try.prog 98 Pth.rep.slice (fun l => ∀ x ∈ l, Pth.ok x) := opens_slice Try.underlying98 (by kernel_rfl) (by decide) Pth.opens
theorem Try.infoPth : (Try.prog.info? 47).map (fun i => (i.zero, i.size, i.bytes)) = some (some (.agg #[.slice none 0 0]), 1, 24) := by kernel_rfl
theorem elemPth : Nonempty (Elem Try.prog 100 47 1 24) := Elem.mk' Try.underlying100 Try.infoPth rfl (by decide)
def Pth.ownS : Own Pth := Own.nest 1 Pth.c Pth.clen (·.parts) 47 Part.own
theorem Pth.ord {S : Nat → Prop} {w : World} {v : Value} {l : List Pth} (h : Pth.ownS.own S w v l) : RdS Pth.rep w v l := Pth.ownS.rd h
set_option maxHeartbeats 400000 in
theorem l_szPathS (l : List Pth) (v : Value) (left : Int) (w : World) (hv : RdS Pth.rep w v l) (h0 : 0 ≤ left) (h1 : left ≤ 1048576) :
    Calls Try.prog 63 #[v, .int .i64 left] w fun e w' => e = .returned (.int .i64 (szL left (pthsN l))) ∧ Ext w w' := by
  unfold pthsN
  obtain ⟨o, cap, rfl, hsm⟩ := hv.shape
  by_cases hlt0 : left - l.length < 0
  · have hz : szL left (l.length + pszN l) = -1 := if_pos (by omega)
    have HZ := Lib.hid hz; clear hz
    go_enter Try.func63, Try.ntmps63
    go_wp2
    go_ret
    exact ⟨ret_int HZ.out.symm, Ext.refl _⟩
  · go_enter Try.func63, Try.ntmps63
    go_wp2
    go_loopw [1, 5] (fun t i wr => ∃ (k : Nat), k ≤ l.length ∧ i = .int .i64 k ∧ t = .int .i64 (left - l.length - pszN (l.take k)) ∧ 0 ≤ left - l.length - pszN (l.take k) ∧ Ext w wr) (fun _ i _ => l.length - (intOf i).toNat)
    case atStart => exact ⟨0, Nat.zero_le _, rfl, by simp [pszN], by simp [pszN]; omega, Ext.refl _⟩
    case round =>
      obtain ⟨k, hk, rfl, rfl, hle, hx⟩ := hrel
      by_cases hlt : k < l.length
      · obtain ⟨b, off, oh, ch, rfl, hc, hr⟩ := Pth.at (hv.ext hx) k hlt
        have hsn := pszN_snoc hlt
        have htl := pszN_take_le l (k + 1)
        go_wp2_with fail
        refine (l_szPath l[k] _ _ _ hr hle (by omega)).mono ?_
        rintro e w1 ⟨rfl, k1⟩
        have hx1 := hx.trans k1
        by_cases hlt2 : left - l.length - pszN (l.take k) - l[k].size < 0
        · have hz1 : szL (left - l.length - pszN (l.take k)) l[k].size = -1 := if_pos hlt2
          have hz : szL left (l.length + pszN l) = -1 := if_pos (by omega)
          rw [hz1]
          have HZ := Lib.hid hz; clear hz hz1
          have HS := Lib.hid hsn; clear hsn
          go_wp2_with fail
          go_ret
          exact ⟨ret_int HZ.out.symm, hx1⟩
        · have hz1 : szL (left - l.length - pszN (l.take k)) l[k].size = left - l.length - pszN (l.take (k + 1)) := by
            rw [show szL (left - l.length - pszN (l.take k)) l[k].size = left - l.length - pszN (l.take k) - l[k].size from if_neg hlt2]; omega
          have hp : 0 ≤ left - l.length - pszN (l.take (k + 1)) := by omega
          rw [hz1]
          clear hz1 hsn hlt2 htl
          go_wp2_with fail
          go_roundw
          case rel => exact ⟨k + 1, by omega, by go_num, rfl, hp, hx1⟩
          case measure => simp [intOf]; omega
      · have hkl : l.take k = l := List.take_of_length_le (by omega)
        rw [hkl] at hle ⊢
        have hz : szL left (l.length + pszN l) = left - l.length - pszN l := by
          unfold szL; rw [if_neg (by omega)]; omega
        have HZ := Lib.hid hz; clear hz hkl
        go_wp2
        go_ret
        exact ⟨ret_int HZ.out.symm, hx⟩
set_option maxHeartbeats 1000000 in
theorem l_toPathS (l : List Pth) (v : Value) (w : World) (hv : RdS Pth.rep w v l) (hl : pthsN l ≤ 1048576) :
    Calls Try.prog 65 #[v] w fun e w' => ∃ v', e = .returned v' ∧ Pth.ownS.own (rng w.heap.size w'.heap.size) w' v' l ∧ Ext w w' := by
  unfold pthsN at hl
  obtain ⟨o, cap, rfl, hsm⟩ := hv.shape
  obtain ⟨i0, hi, hz0, hz1, hz2⟩ := info_parts Try.infoPth
  have Hi := Lib.hid hi; clear hi
  go_enter Try.func65, Try.ntmps65
  go_wp2_with (with_reducible refine wpList_make_full _ rfl _ _ 100 rfl w.heap.size 47 i0 _ 1 Try.underlying100 Hi.out hz0 hz1 .i64 .i64 _ _ l.length rfl rfl rfl rfl ?_ ?_ ?_ ?_)
  · rw [hz2]; omega
  · unfold maxLen; omega
  · exact Nat.le_refl _
  intro w1 hown hg
  have hx1 : Ext w w1 := (Ext.refl w).grownNone hg
  have hown1 : Pth.ownS.own (rng w.heap.size w1.heap.size) w1 (.slice (some ⟨w.heap.size, 0, none⟩) l.length l.length) (List.replicate l.length ⟨[]⟩) := by
    have := madeCells_flat (n := 1) (f := capF Pth.c) (fun _ => rfl) (by decide) ⟨⟨[]⟩, .slice none 0 0, noB⟩ l.length
    have h2 : OwnF (capF Pth.c) 1 w.heap.size 47 w1 (.slice (some ⟨w.heap.size, 0, none⟩) l.length l.length) (List.replicate l.length ⟨⟨[]⟩, .slice none 0 0, noB⟩) := by
      unfold OwnF
      rw [← this, List.length_replicate]
      simpa [capF, Pth.c] using hown
    exact nest_zero (c := Pth.c) (hc := Pth.clen) (sub := (·.parts)) (I := Part.own) (⟨[]⟩ : Pth) rfl h2.to0 (rng w.heap.size w1.heap.size) (show rng _ _ _ from ⟨Nat.le_refl _, (h2.block _ rfl).2⟩)
  clear hown hg
  go_wp2
  go_loopw [4] (fun i wr => ∃ (k : Nat) (xs : List Pth), k ≤ l.length ∧ i = .int .i64 k ∧ xs.length = l.length ∧ Pth.ownS.own (rng w.heap.size wr.heap.size) wr (.slice (some ⟨w.heap.size, 0, none⟩) l.length l.length) xs ∧ xs.take k = l.take k ∧ Ext w wr) (fun i _ => l.length - (intOf i).toNat)
  case atStart => exact ⟨0, _, Nat.zero_le _, rfl, by simp, hown1, rfl, hx1⟩
  case round =>
    obtain ⟨k, xs, hk, rfl, hxl, hown, htk, hx⟩ := hrel
    have Htk := Lib.hid htk; clear htk
    have Hxl := Lib.hid hxl; clear hxl
    by_cases hlt : k < l.length
    · obtain ⟨b, off, oh, ch, rfl, hcc, hr⟩ := Pth.at (hv.ext hx) k hlt
      have hle := pszN_le hlt
      go_wp2_with fail
      refine (l_toPath l[k] _ _ hr (by omega)).mono ?_
      rintro e w2 ⟨u2, rfl, o2, h2⟩
      obtain ⟨ou, cu, rfl, _⟩ := (Part.ord o2).shape
      have hx2 := hx.trans h2
      have hown2 := Own.ext hown h2
      obtain ⟨hv3, T3, hc3, _⟩ := nest_at hown2 k (by rw [Hxl.out]; exact hlt)
      have d0 := hc3 0 _ rfl
      simp only [Nat.mul_one, Nat.add_zero] at d0
      have f0 := nest_free hown2 k
      have key := fun (w3 : World) => nest_put (w2 := w3) (S' := rng w.heap.size w2.heap.size) hown k (by rw [Hxl.out]; exact hlt) l[k] (.slice ou l[k].parts.length cu) h2 o2 (fun b hb => ⟨⟨Nat.le_trans hx.size hb.1, hb.2⟩, hb.1, hb.2⟩) (fun b hb => ⟨hb.1, Nat.lt_of_lt_of_le hb.2 h2.size⟩)
      have key2 : ∃ w3, w3 = w2.setCell ⟨w.heap.size, k, none⟩ (.slice ou l[k].parts.length cu) ∧ Pth.ownS.own (rng w.heap.size w3.heap.size) w3 (.slice (some ⟨w.heap.size, 0, none⟩) l.length l.length) (xs.set k l[k]) ∧ Ext w w3 := by
        have hrow := fun (qs : List (Cap Pth)) (hq : qs.map (·.dat) = xs) (ho : OwnF (capF Pth.c) 1 0 47 w2 (.slice (some ⟨w.heap.size, 0, none⟩) l.length l.length) qs) => OwnF.put1 (f := capF Pth.c) (fun _ => rfl) ho k (by rw [← List.length_map (f := fun q : Cap Pth => q.dat), hq, Hxl.out]; exact hlt) 0 (by decide) (.slice ou l[k].parts.length cu) ⟨l[k], .slice ou l[k].parts.length cu, rng wr.heap.size w2.heap.size⟩ rfl
        simp only [Nat.mul_one, Nat.add_zero] at hrow
        have hg3 : w2.grownBy (w2.setCell ⟨w.heap.size, k, none⟩ (.slice ou l[k].parts.length cu)) (some w.heap.size) := by
          obtain ⟨qs, hq, ho, _⟩ := hown2
          exact (hrow qs hq ho).2
        exact ⟨_, rfl, Pth.ownS.mono (key _ hg3 (fun qs hq ho => (hrow qs hq ho).1)) (fun b hb => ⟨hb.1, Nat.lt_of_lt_of_le hb.2 hg3.size⟩), hx2.grown hg3 (fun _ e => by cases e; exact Nat.le_refl _)⟩
      obtain ⟨w3, hw3, ho3, hx3⟩ := key2
      have HW3 := Lib.hid hw3; clear hw3 key hc3 hown hown2
      go_wp2_with fail
      rw [← HW3.out]
      go_roundw
      case rel => exact ⟨k + 1, _, by omega, by go_num, by simpa using Hxl.out, ho3, take_set_snoc Htk.out Hxl.out hlt, hx3⟩
      case measure => simp [intOf]; omega
    · go_wp2
      go_ret
      refine ⟨_, rfl, ?_, hx⟩
      obtain rfl : xs = l := by
        have := Htk.out
        rwa [List.take_of_length_le (by rw [Hxl.out]; omega), List.take_of_length_le (by omega)] at this
      exact hown
set_option maxRecDepth 100000 in
set_option maxHeartbeats 1000000 in
theorem l_eqPathS (a b : List Pth) (va vb : Value) (w : World) (ha : RdS Pth.rep w va a) (hb : RdS Pth.rep w vb b) :
    Calls Try.prog 67 #[va, vb] w fun e w' => e = .returned (.bool (decide (a = b))) ∧ Ext w w' := by
  obtain ⟨oa, ca, rfl, hsa⟩ := ha.shape
  obtain ⟨ob, cb, rfl, hsb⟩ := hb.shape
  by_cases hne : a.length = b.length
  · have Hne := Lib.hid hne
    have t1 : ((a.length : Int) != (b.length : Int)) = false := by simp [hne]
    clear hne
    go_enter Try.func67, Try.ntmps67
    go_wp2
    go_loopw [5] (fun i wr => ∃ (k : Nat), k ≤ a.length ∧ i = .int .i64 k ∧ a.take k = b.take k ∧ Ext w wr) (fun i _ => a.length - (intOf i).toNat)
    case atStart => exact ⟨0, Nat.zero_le _, rfl, rfl, Ext.refl _⟩
    case round =>
      obtain ⟨k, hk, rfl, htk, hx⟩ := hrel
      have Htk := Lib.hid htk; clear htk
      by_cases hlt : k < a.length
      · have hlb : k < b.length := by rw [← Hne.out]; exact hlt
        obtain ⟨b1, off1, oh1, ch1, rfl, hc1, hr1⟩ := Pth.at (ha.ext hx) k hlt
        obtain ⟨b2, off2, oh2, ch2, rfl, hc2, hr2⟩ := Pth.at (hb.ext hx) k hlb
        go_wp2_with fail
        refine planStep (.blk [0, 1, 2, 3, 4, 5, 6, 7] (.one 8 (.blk [9] .done))) [] (by kernel_rfl) (by kernel_rfl) ?_
        refine blkStep (fun K HK => ?_)
        simp only [pick, List.filterMap_cons, List.filterMap_nil, List.getElem?_toArray, List.getElem?_cons_zero, List.getElem?_cons_succ]
        go_wp2_with fail
        refine HK.out _ _ ?_
        clear HK K
        refine oneStep (fun K HK => ?_)
        simp only [pick, List.filterMap_cons, List.filterMap_nil, List.getElem?_toArray, List.getElem?_cons_zero, List.getElem?_cons_succ]
        go_wp2_with fail
        refine (l_eqPath a[k] b[k] _ _ _ (hr1.ext (Ext.refl _).drew) (hr2.ext (Ext.refl _).drew)).mono ?_
        rintro e w1 ⟨rfl, h1⟩
        have hx1 := hx.drew.trans h1
        cases hd : decide (a[k] = b[k])
        · have hab : decide (a = b) = false := by
            rw [decide_eq_false_iff_not]; rintro rfl; simp at hd
          have Hab := Lib.hid hab; clear hab
          go_wp2_with fail
          refine HK.out _ _ h1 ?_
          clear HK K
          refine blkStep (fun K HK => ?_)
          simp only [pick, List.filterMap_cons, List.filterMap_nil, List.getElem?_toArray, List.getElem?_cons_zero, List.getElem?_cons_succ]
          go_wp2_with fail
          refine HK.out _ _ ?_
          clear HK K
          refine doneStep (by kernel_rfl) ?_
          go_wp2_with fail
          go_ret
          exact ⟨ret_bool Hab.out.symm, hx1⟩
        · have hd' : a[k] = b[k] := of_decide_eq_true hd
          have HD := Lib.hid hd'; clear hd'
          go_wp2_with fail
          refine HK.out _ _ h1 ?_
          clear HK K
          refine blkStep (fun K HK => ?_)
          simp only [pick, List.filterMap_cons, List.filterMap_nil, List.getElem?_toArray, List.getElem?_cons_zero, List.getElem?_cons_succ]
          go_wp2_with fail
          refine HK.out _ _ ?_
          clear HK K
          refine doneStep (by kernel_rfl) ?_
          go_wp2_with fail
          go_roundw
          case rel => exact ⟨k + 1, by omega, by go_num, take_snoc2 Htk.out hlt hlb HD.out, hx1⟩
          case measure => simp [intOf]; omega
      · have hab : decide (a = b) = true := by
          have := Htk.out
          rw [List.take_of_length_le (by omega), List.take_of_length_le (by rw [← Hne.out]; omega)] at this
          simp [this]
        have Hab := Lib.hid hab; clear hab
        go_wp2
        go_ret
        exact ⟨ret_bool Hab.out.symm, hx⟩
  · have t1 : ((a.length : Int) != (b.length : Int)) = true := by simp [bne_iff_ne]; omega
    have hab : decide (a = b) = false := by
      rw [decide_eq_false_iff_not]; rintro rfl; exact hne rfl
    have Hab := Lib.hid hab; clear hab
    clear hne
    go_enter Try.func67, Try.ntmps67
    go_wp2
    go_ret
    exact ⟨ret_bool Hab.out.symm, Ext.refl _⟩
def markPths (k : Int) : List Pth → List Pth
  | [] => []
  | x :: l => ⟨markParts k x.parts⟩ :: markPths (k + markN x.parts) l
def markPN : List Pth → Int
  | [] => 0
  | x :: l => markN x.parts + markPN l
theorem markN_nn (l : List Part) : 0 ≤ markN l := by unfold markN; omega
theorem markPN_nn (l : List Pth) : 0 ≤ markPN l := by
  induction l with
  | nil => exact Int.le_refl _
  | cons x l ih => have := markN_nn x.parts; unfold markPN; omega
theorem markPN_app (a b : List Pth) : markPN (a ++ b) = markPN a + markPN b := by
  induction a with
  | nil => simp [markPN]
  | cons x a ih => simp only [List.cons_append, markPN, ih]; omega
theorem markPN_snoc {l : List Pth} {k : Nat} (hk : k < l.length) : markPN (l.take (k + 1)) = markPN (l.take k) + markN l[k].parts := by
  rw [List.take_succ_eq_append_getElem hk, markPN_app]
  simp [markPN]
theorem markPN_take_le (l : List Pth) (k : Nat) : markPN (l.take k) ≤ markPN l := by
  have h : markPN l = markPN (l.take k ++ l.drop k) := by rw [List.take_append_drop]
  rw [markPN_app] at h
  have := markPN_nn (l.drop k)
  omega
theorem markPN_le (l : List Pth) : markPN l ≤ 5 * pthsN l := by
  induction l with
  | nil => decide
  | cons x l ih =>
    have e : pthsN (x :: l) = 1 + x.size + pthsN l := by unfold pthsN pszN; simp; omega
    rw [e]
    unfold markPN markN Pth.size
    omega
theorem markPths_len (k : Int) (l : List Pth) : (markPths k l).length = l.length := by
  induction l generalizing k with
  | nil => rfl
  | cons x l ih => simp [markPths, ih]
theorem markPths_at (k : Int) (l : List Pth) (j : Nat) (hj : j < l.length) : (markPths k l)[j]'(by rw [markPths_len]; exact hj) = ⟨markParts (k + markPN (l.take j)) l[j].parts⟩ := by
  induction l generalizing k j with
  | nil => simp at hj
  | cons x l ih =>
    cases j with
    | zero => simp [markPths, markPN]
    | succ j =>
      have h := ih (k + markN x.parts) j (by simpa using hj)
      have e1 : k + markN x.parts + markPN (l.take j) = k + markPN ((x :: l).take (j + 1)) := by
        rw [List.take_succ_cons, markPN]; omega
      rw [e1] at h
      simpa [markPths] using h
set_option maxHeartbeats 1000000 in
theorem l_markPathS (l : List Pth) (v : Value) (k : Int) (S : Nat → Prop) (w : World) (o : Pth.ownS.own S w v l) (h0 : 0 ≤ k) (h1 : k + markPN l ≤ 4611686018427387904) :
    Calls Try.prog 69 #[v, .int .i64 k] w fun e w' => e = .returned (.int .i64 (k + markPN l)) ∧ Pth.ownS.own S w' v (markPths k l) ∧ Chg S w w' := by
  by_cases hl : 0 < l.length
  · have hsm := (Pth.ord o).small
    obtain ⟨g, cap, rfl, hSg, hgs⟩ := nest_shape o hl
    go_enter Try.func69, Try.ntmps69
    go_wp2
    go_loopg [1, 5] l.length (fun gk kk i wr => ∃ (j : Nat) (xs : List Pth), gk + j = l.length ∧ i = .int .i64 j ∧ kk = .int .i64 (k + markPN (l.take j)) ∧ xs.length = l.length ∧ Pth.ownS.own S wr (.slice (some ⟨g, 0, none⟩) l.length cap) xs ∧ xs.take j = (markPths k l).take j ∧ xs.drop j = l.drop j ∧ Chg S w wr)
    case atStart => exact ⟨0, l, rfl, rfl, by simp [markPN], rfl, o, rfl, rfl, Chg.refl _ _⟩
    case round =>
      obtain ⟨j, xs, hgk, rfl, rfl, hxl, hown, htk, hdr, hch⟩ := hrel
      have Htk := Lib.hid htk; clear htk
      have Hxl := Lib.hid hxl; clear hxl
      have Hdr := Lib.hid hdr; clear hdr
      have hht := markPN_take_le l (j + 1)
      have hnn := markPN_nn (l.take j)
      by_cases hlt : j < l.length
      · have hsn := markPN_snoc hlt
        have hmn := markN_nn l[j].parts
        have hjx : j < xs.length := by rw [Hxl.out]; exact hlt
        have hxj := drop_getM Hdr.out hjx hlt
        have hg' : gk - 1 + (j + 1) = l.length ∧ gk - 1 < gk := by omega
        have HG := Lib.hid hg'; clear hg' hgk
        have hbd : k + markPN (l.take j) + markN l[j].parts ≤ 4611686018427387904 := by omega
        have hnk : k + markPN (l.take (j + 1)) = k + markPN (l.take j) + markN l[j].parts := by omega
        have HNK := Lib.hid hnk; clear hnk hsn hht
        have hma := markPths_at k l j hlt
        have HMA := Lib.hid hma; clear hma
        have hk0 : 0 ≤ k + markPN (l.take j) := by omega
        generalize k + markPN (l.take j) = kj at *
        obtain ⟨hv, T, hcells, hin, hT, hnext⟩ := nest_at hown j hjx
        have hsub : Part.own.own T wr hv l[j].parts := by rw [← hxj]; exact hin
        obtain ⟨oh, ch, rfl, _⟩ := (Part.ord hsub).shape
        have d0 := hcells 0 _ rfl
        simp only [Nat.mul_one, Nat.add_zero] at d0
        have HNX := Lib.hid hnext; have HIN := Lib.hid hsub
        clear hin hnext hcells hown hsub hxj
        go_wp2_with fail
        refine (l_markPathPartS l[j].parts _ kj T _ HIN.out hk0 hbd).mono ?_
        rintro e w4 ⟨rfl, o4, c4⟩
        have hfin := HNX.out w4 ⟨markParts kj l[j].parts⟩ c4 o4 rfl
        have hch4 := hch.trans (c4.mono (fun b hb => (hT b hb).1))
        clear hT
        rw [← HNK.out]
        go_wp2_with fail
        go_roundg (gk - 1)
        case measure => exact HG.out.2
        case rel => exact ⟨j + 1, _, HG.out.1, by go_num, rfl, by simpa using Hxl.out, hfin, take_snocM Htk.out hjx (by rw [markPths_len]; exact hlt) _ HMA.out, drop_snocM Hdr.out _, hch4⟩
      · obtain rfl : j = l.length := by omega
        have hxs : xs = markPths k l := by
          have := Htk.out
          rwa [List.take_of_length_le (by rw [Hxl.out]; exact Nat.le_refl _), List.take_of_length_le (by rw [markPths_len]; exact Nat.le_refl _)] at this
        subst hxs
        rw [List.take_length]
        go_wp2
        go_ret
        exact ⟨rfl, hown, hch⟩
  · have hl0 : l = [] := List.eq_nil_of_length_eq_zero (by omega)
    subst hl0
    obtain ⟨oo, cap, rfl, _⟩ := (Pth.ord o).shape
    go_enter Try.func69, Try.ntmps69
    go_wp2
    refine wp_loop_rounds 1 ?_; rw [rounds_succ]
    go_wp2
    go_ret
    exact ⟨by simp [markPN], o, Chg.refl _ _⟩
set_option maxHeartbeats 1000000 in
theorem l_heldPathS (l : List Pth) (v : Value) (k : Int) (w : World) (hv : RdS Pth.rep w v (markPths k l)) (h0 : 0 ≤ k) (h1 : k + markPN l ≤ 4611686018427387904) :
    Calls Try.prog 70 #[v, .int .i64 k] w fun e w' => e = .returned (.int .i64 (k + markPN l)) ∧ Ext w w' := by
  obtain ⟨o, cap, hve, hsm⟩ := hv.shape
  rw [markPths_len] at hve hsm
  subst hve
  go_enter Try.func70, Try.ntmps70
  go_wp2
  go_loopg [1, 5] l.length (fun gk kk i wr => ∃ (j : Nat), gk + j = l.length ∧ i = .int .i64 j ∧ kk = .int .i64 (k + markPN (l.take j)) ∧ Ext w wr)
  case atStart => exact ⟨0, rfl, rfl, by simp [markPN], Ext.refl _⟩
  case round =>
    obtain ⟨j, hgk, rfl, rfl, hx⟩ := hrel
    have hht := markPN_take_le l (j + 1)
    have hnn := markPN_nn (l.take j)
    by_cases hlt : j < l.length
    · obtain ⟨b, off, oh, ch, rfl, hc, hr⟩ := Pth.at (hv.ext hx) j (by rw [markPths_len]; exact hlt)
      rw [markPths_at k l j hlt] at hc hr
      have hsn := markPN_snoc hlt
      have hmn := markN_nn l[j].parts
      have hg' : gk - 1 + (j + 1) = l.length ∧ gk - 1 < gk := by omega
      have HG := Lib.hid hg'; clear hg' hgk
      have hbd : k + markPN (l.take j) + markN l[j].parts ≤ 4611686018427387904 := by omega
      have hnk : k + markPN (l.take (j + 1)) = k + markPN (l.take j) + markN l[j].parts := by omega
      have HNK := Lib.hid hnk; clear hnk hsn hht
      have hk0 : 0 ≤ k + markPN (l.take j) := by omega
      generalize k + markPN (l.take j) = kj at *
      have HR := Lib.hid hr; clear hr
      go_wp2_with fail
      refine (l_heldPathPartS l[j].parts _ kj _ HR.out hk0 hbd).mono ?_
      rintro e w4 ⟨rfl, h4⟩
      have hp : ¬ (kj + markN l[j].parts) < 0 := by omega
      rw [← HNK.out] at hp ⊢
      go_wp2_with fail
      go_roundg (gk - 1)
      case measure => exact HG.out.2
      case rel => exact ⟨j + 1, HG.out.1, by go_num, rfl, hx.trans h4⟩
    · obtain rfl : j = l.length := by omega
      rw [List.take_length]
      go_wp2
      go_ret
      exact ⟨rfl, hx⟩
end Go.Proofs.Ytpeipodehflmaaa
