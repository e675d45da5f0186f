/- The data of path parts and paths, how they read, and the contracts of the laws' helper functions over them. No condition but the bounds that each theorem names. -/
import Derived.Test.YtjjoijidlgkimaaOwn
import Derived.Test.YtjjoijidlgkimaaSeq
import Derived.Test.YtjjoijidlgkimaaTyHop
namespace Go.Proofs.Ytjjoijidlgkimaa
open Go.ChangeShapes Go.WideShapes Go.ChangeAt Go.RowKit Go.Deep

theorem szL_add' {left : Int} {n m : Nat} (_ : ¬ left - n < 0) : szL (left - n) m = szL left (n + m) := by
  unfold szL
  by_cases h2 : left - n - m < 0
  · rw [if_pos h2, if_pos (by omega)]
  · rw [if_neg h2, if_neg (by omega)]; omega
structure Part where
  kind : Int
  ts : Int
  beta : Int
  hops : List Hop
  deriving DecidableEq
def Part.c (x : Part) (v : Value) : List Value := [.int .i64 x.kind, .int .i64 x.ts, .int .i64 x.beta, v]
theorem Part.clen (x : Part) (v : Value) : (x.c v).length = 4 := rfl
def Part.rep : Rep Part where
  cells := 4
  rd w cs x := ∃ v, cs = x.c v ∧ RdS Hop.rep w v x.hops
  len := by rintro w cs a ⟨v, rfl, _⟩; rfl
  ext := by rintro w w' cs a e ⟨v, rfl, h⟩; exact ⟨v, rfl, h.ext e⟩
def Part.ok (x : Part) : Prop := I64 x.kind ∧ I64 x.ts ∧ I64 x.beta ∧ ∀ y ∈ x.hops, Hop.ok y
def Part.size (x : Part) : Nat := x.hops.length
theorem Part.at {w : World} {o : Option Addr} {m cap : Nat} {l : List Part} (h : RdS Part.rep w (.slice o m cap) l) (k : Nat) (hk : k < l.length) :
    ∃ b off oh ch, o = some ⟨b, off, none⟩ ∧ (w.cell? ⟨b, off + k * 4, none⟩ = some (.int .i64 l[k].kind) ∧ w.cell? ⟨b, off + k * 4 + 1, none⟩ = some (.int .i64 l[k].ts) ∧ w.cell? ⟨b, off + k * 4 + 2, none⟩ = some (.int .i64 l[k].beta) ∧
      w.cell? ⟨b, off + k * 4 + 3, none⟩ = some (.slice oh l[k].hops.length ch)) ∧ RdS Hop.rep w (.slice oh l[k].hops.length ch) l[k].hops := by
  obtain ⟨o', cap', hv, h1, h2, hn, h3⟩ := h
  obtain ⟨b, off, cs, ho, hc, v, rfl, hr⟩ := h3 k hk
  cases hv
  obtain ⟨oh, ch, rfl, _⟩ := hr.shape
  exact ⟨b, off, oh, ch, ho, ⟨hc 0 _ rfl, hc 1 _ rfl, hc 2 _ rfl, hc 3 _ rfl⟩, hr⟩
theorem Part.at_ext {w w' : World} {b off k : Nat} {v0 v1 v2 v3 : Value} (x : Ext w w') (h : w.cell? ⟨b, off + k * 4, none⟩ = some v0 ∧ w.cell? ⟨b, off + k * 4 + 1, none⟩ = some v1 ∧ w.cell? ⟨b, off + k * 4 + 2, none⟩ = some v2 ∧ w.cell? ⟨b, off + k * 4 + 3, none⟩ = some v3) :
    w'.cell? ⟨b, off + k * 4, none⟩ = some v0 ∧ w'.cell? ⟨b, off + k * 4 + 1, none⟩ = some v1 ∧ w'.cell? ⟨b, off + k * 4 + 2, none⟩ = some v2 ∧ w'.cell? ⟨b, off + k * 4 + 3, none⟩ = some v3 :=
  ⟨x.cell h.1, x.cell h.2.1, x.cell h.2.2.1, x.cell h.2.2.2⟩
structure Pth where
  parts : List Part
  deriving DecidableEq
def Pth.c (_ : Pth) (v : Value) : List Value := [v]
def Pth.rep : Rep Pth where
  cells := 1
  rd w cs x := ∃ v, cs = x.c v ∧ RdS Part.rep w v x.parts
  len := by rintro w cs a ⟨v, rfl, _⟩; rfl
  ext := by rintro w w' cs a e ⟨v, rfl, h⟩; exact ⟨v, rfl, h.ext e⟩
def Pth.ok (x : Pth) : Prop := ∀ y ∈ x.parts, Part.ok y
/-- The hops of the parts, counted. -/
def hopsN (l : List Part) : Nat := (l.map Part.size).sum
theorem hopsN_snoc {l : List Part} {k : Nat} (hk : k < l.length) : hopsN (l.take (k + 1)) = hopsN (l.take k) + l[k].hops.length := by
  unfold hopsN
  rw [List.take_succ_eq_append_getElem hk, List.map_append, List.sum_append]
  simp only [List.map_cons, List.map_nil, List.sum_cons, List.sum_nil, Part.size]; omega
theorem hopsN_take_le (l : List Part) (k : Nat) : hopsN (l.take k) ≤ hopsN l := by
  unfold hopsN
  have h := List.take_append_drop k l
  have h2 : (l.map Part.size).sum = ((l.take k ++ l.drop k).map Part.size).sum := by rw [h]
  rw [List.map_append, List.sum_append] at h2
  omega
theorem hopsN_le {l : List Part} {k : Nat} (hk : k < l.length) : l[k].hops.length ≤ hopsN l := by
  have h1 := hopsN_snoc hk
  have h2 := hopsN_take_le l (k + 1)
  omega
def Pth.size (x : Pth) : Nat := x.parts.length + hopsN x.parts
def Part.own : Own Part := Own.nest 4 Part.c Part.clen (·.hops) 134 (Own.flat Hop.f 5 Hop.flen 136)
theorem Part.ord {S : Nat → Prop} {w : World} {v : Value} {l : List Part} (h : Part.own.own S w v l) : RdS Part.rep w v l := Part.own.rd h
theorem Try.infoPart : (Try.prog.info? 134).map (fun i => (i.zero, i.size, i.bytes)) = some (some (.agg #[.int .i64 0, .int .i64 0, .int .i64 0, .slice none 0 0]), 4, 48) := by kernel_rfl
theorem Part.row_set {w : World} {g m cap : Nat} {qs : List (Cap Part)} (h : OwnF (capF Part.c) 4 0 134 w (.slice (some ⟨g, 0, none⟩) m cap) qs) (k : Nat) (hk : k < qs.length) (q : Cap Part) :
    OwnF (capF Part.c) 4 0 134 ((((w.setCell ⟨g, k * 4, none⟩ (.int .i64 q.dat.kind)).setCell ⟨g, k * 4 + 1, none⟩ (.int .i64 q.dat.ts)).setCell ⟨g, k * 4 + 2, none⟩ (.int .i64 q.dat.beta)).setCell ⟨g, k * 4 + 3, none⟩ q.val) (.slice (some ⟨g, 0, none⟩) m cap) (qs.set k q) ∧
      w.grownBy ((((w.setCell ⟨g, k * 4, none⟩ (.int .i64 q.dat.kind)).setCell ⟨g, k * 4 + 1, none⟩ (.int .i64 q.dat.ts)).setCell ⟨g, k * 4 + 2, none⟩ (.int .i64 q.dat.beta)).setCell ⟨g, k * 4 + 3, none⟩ q.val) (some g) := by
  have hf : ∀ q : Cap Part, (capF Part.c q).length = 4 := fun _ => rfl
  obtain ⟨h0, g0⟩ := OwnF.put1 hf h k hk 0 (by decide) (.int .i64 q.dat.kind) ⟨{ qs[k].dat with kind := q.dat.kind }, qs[k].val, qs[k].set⟩ rfl
  have e0 : k < (qs.set k ⟨{ qs[k].dat with kind := q.dat.kind }, qs[k].val, qs[k].set⟩).length := by simpa using hk
  obtain ⟨h1, g1⟩ := OwnF.put1 hf h0 k e0 1 (by decide) (.int .i64 q.dat.ts) ⟨{ qs[k].dat with kind := q.dat.kind, ts := q.dat.ts }, qs[k].val, qs[k].set⟩ (by simp [capF, Part.c])
  rw [List.set_set] at h1
  have e1 : k < (qs.set k ⟨{ qs[k].dat with kind := q.dat.kind, ts := q.dat.ts }, qs[k].val, qs[k].set⟩).length := by simpa using hk
  obtain ⟨h2, g2⟩ := OwnF.put1 hf h1 k e1 2 (by decide) (.int .i64 q.dat.beta) ⟨{ qs[k].dat with kind := q.dat.kind, ts := q.dat.ts, beta := q.dat.beta }, qs[k].val, qs[k].set⟩ (by simp [capF, Part.c])
  rw [List.set_set] at h2
  have e2 : k < (qs.set k ⟨{ qs[k].dat with kind := q.dat.kind, ts := q.dat.ts, beta := q.dat.beta }, qs[k].val, qs[k].set⟩).length := by simpa using hk
  obtain ⟨h3, g3⟩ := OwnF.put1 hf h2 k e2 3 (by decide) q.val q (by simp [capF, Part.c])
  rw [List.set_set] at h3
  exact ⟨h3, ((g0.trans g1).trans g2).trans g3⟩
theorem Part.opens : Opens Try.prog 174 Part.rep Part.ok := by
  intro H enc w base spare held fuel cs x h
  obtain ⟨xs, n, _, _, hcl, hxl, hf⟩ := DataW.trod_struct Try.underlying174 h
  have hC : Try.prog.cellsOf 174 = 4 := by kernel_rfl
  have hi1 : Try.prog.cellsOf 3 = 1 := by kernel_rfl
  have hi2 : Try.prog.cellsOf 172 = 1 := by kernel_rfl
  obtain ⟨c0, c1, c2, c3, rfl⟩ := len4 (hcl.trans hC)
  obtain ⟨y0, y1, y2, y3, rfl⟩ := len4 hxl
  have h0 := hf 0 _ rfl
  simp [hi1] at h0
  obtain ⟨n0, r0, k0⟩ := opens_int Try.underlying3 h0
  cases r0
  have h1 := hf 1 _ rfl
  simp [hi1] at h1
  obtain ⟨n1, r1, k1⟩ := opens_int Try.underlying3 h1
  cases r1
  have h2 := hf 2 _ rfl
  simp [hi1] at h2
  obtain ⟨n2, r2, k2⟩ := opens_int Try.underlying3 h2
  cases r2
  have h3 := hf 3 _ rfl
  simp [hi2] at h3
  obtain ⟨l3, ⟨v3, e3, r3⟩, k3⟩ := Hop.opensS h3
  cases e3
  exact ⟨⟨n0, n1, n2, l3⟩, ⟨_, rfl, r3⟩, k0, k1, k2, k3⟩
theorem Part.opensS : Opens Try.prog 58 Part.rep.slice (fun l => ∀ x ∈ l, Part.ok x) := opens_slice Try.underlying58 (by kernel_rfl) (by decide) Part.opens
theorem Pth.opens : Opens Try.prog 60 Pth.rep Pth.ok := by
  intro H enc w base spare held fuel cs x h
  obtain ⟨xs, n, _, _, hcl, hxl, hf⟩ := DataW.trod_struct Try.underlying60 h
  have hC : Try.prog.cellsOf 60 = 1 := by kernel_rfl
  have hi2 : Try.prog.cellsOf 58 = 1 := by kernel_rfl
  obtain ⟨c0, rfl⟩ := len1 (hcl.trans hC)
  obtain ⟨y0, rfl⟩ := len1 hxl
  have h3 := hf 0 _ rfl
  simp [hi2] at h3
  obtain ⟨l3, ⟨v3, e3, r3⟩, k3⟩ := Part.opensS h3
  cases e3
  exact ⟨⟨l3⟩, ⟨_, rfl, r3⟩, k3⟩
set_option maxHeartbeats 400000 in
theorem l_szPathPart (x : Part) (v : Value) (left : Int) (w : World) (r : RdS Hop.rep w v x.hops) (h0 : 0 ≤ left) (h1 : left ≤ 1048576) :
    Calls Try.prog 152 #[.agg #[.int .i64 x.kind, .int .i64 x.ts, .int .i64 x.beta, v], .int .i64 left] w fun e w' => e = .returned (.int .i64 (szL left x.size)) ∧ Ext w w' := by
  go_enter Try.func152, Try.ntmps152
  have hx0 : Ext w (w.alloc (.cells #[.int .i64 x.kind, .int .i64 x.ts, .int .i64 x.beta, v] 174)) := (Ext.refl _).alloc _
  go_wp2_with fail
  refine (l_szHopS x.hops _ _ _ (r.ext hx0) h0 h1).mono ?_
  rintro e w1 ⟨rfl, k1⟩
  have hx1 := hx0.trans k1
  by_cases hlt : left - x.hops.length < 0
  · have hz : szL left x.size = -1 := if_pos hlt
    have hz1 : szL left x.hops.length = -1 := if_pos hlt
    rw [hz1]
    have HZ := Lib.hid hz; clear hz hz1
    go_wp2_with fail
    go_ret
    exact ⟨ret_int HZ.out.symm, hx1⟩
  · have hz : szL left x.size = left - x.hops.length := if_neg hlt
    have hz1 : szL left x.hops.length = left - x.hops.length := if_neg hlt
    rw [hz1]
    have HZ := Lib.hid hz; clear hz hz1
    go_wp2_with fail
    go_ret
    exact ⟨ret_int HZ.out.symm, hx1⟩
set_option maxHeartbeats 400000 in
theorem l_szPathPartS (l : List Part) (v : Value) (left : Int) (w : World) (hv : RdS Part.rep w v l) (h0 : 0 ≤ left) (h1 : left ≤ 1048576) :
    Calls Try.prog 116 #[v, .int .i64 left] w fun e w' => e = .returned (.int .i64 (szL left (l.length + hopsN l))) ∧ Ext w w' := by
  obtain ⟨o, cap, rfl, hsm⟩ := hv.shape
  by_cases hlt0 : left - l.length < 0
  · have hz : szL left (l.length + hopsN l) = -1 := if_pos (by omega)
    have HZ := Lib.hid hz; clear hz
    go_enter Try.func116, Try.ntmps116
    go_wp2
    go_ret
    exact ⟨ret_int HZ.out.symm, Ext.refl _⟩
  · go_enter Try.func116, Try.ntmps116
    go_wp2
    go_loopw [1, 5] (fun t i wr => ∃ (k : Nat), k ≤ l.length ∧ i = .int .i64 k ∧ t = .int .i64 (left - l.length - hopsN (l.take k)) ∧ 0 ≤ left - l.length - hopsN (l.take k) ∧ Ext w wr) (fun _ i _ => l.length - (intOf i).toNat)
    case atStart => exact ⟨0, Nat.zero_le _, rfl, by simp [hopsN], by simp [hopsN]; omega, Ext.refl _⟩
    case round =>
      obtain ⟨k, hk, rfl, rfl, hle, hx⟩ := hrel
      by_cases hlt : k < l.length
      · obtain ⟨b, off, oh, ch, rfl, hc, hr⟩ := Part.at (hv.ext hx) k hlt
        have hsn := hopsN_snoc hlt
        have htl := hopsN_take_le l (k + 1)
        go_wp2_with fail
        refine (l_szPathPart l[k] _ _ _ hr hle (by omega)).mono ?_
        rintro e w1 ⟨rfl, k1⟩
        have hx1 := hx.trans k1
        by_cases hlt2 : left - l.length - hopsN (l.take k) - l[k].hops.length < 0
        · have hz1 : szL (left - l.length - hopsN (l.take k)) l[k].size = -1 := if_pos hlt2
          have hz : szL left (l.length + hopsN l) = -1 := if_pos (by omega)
          rw [hz1]
          have HZ := Lib.hid hz; clear hz hz1
          have HS := Lib.hid hsn; clear hsn
          go_wp2_with fail
          go_ret
          exact ⟨ret_int HZ.out.symm, hx1⟩
        · have hz1 : szL (left - l.length - hopsN (l.take k)) l[k].size = left - l.length - hopsN (l.take (k + 1)) := by
            rw [show szL (left - l.length - hopsN (l.take k)) l[k].size = left - l.length - hopsN (l.take k) - l[k].hops.length from if_neg hlt2]; omega
          have hp : 0 ≤ left - l.length - hopsN (l.take (k + 1)) := by omega
          rw [hz1]
          clear hz1 hsn hlt2 htl
          go_wp2_with fail
          go_roundw
          case rel => exact ⟨k + 1, by omega, by go_num, rfl, hp, hx1⟩
          case measure => simp [intOf]; omega
      · have hkl : l.take k = l := List.take_of_length_le (by omega)
        rw [hkl] at hle ⊢
        have hz : szL left (l.length + hopsN l) = left - l.length - hopsN l := by
          unfold szL; rw [if_neg (by omega)]; omega
        have HZ := Lib.hid hz; clear hz hkl
        go_wp2
        go_ret
        exact ⟨ret_int HZ.out.symm, hx⟩
set_option maxHeartbeats 400000 in
theorem l_szPath (x : Pth) (v : Value) (left : Int) (w : World) (r : RdS Part.rep w v x.parts) (h0 : 0 ≤ left) (h1 : left ≤ 1048576) :
    Calls Try.prog 61 #[.agg #[v], .int .i64 left] w fun e w' => e = .returned (.int .i64 (szL left x.size)) ∧ Ext w w' := by
  go_enter Try.func61, Try.ntmps61
  have hx0 : Ext w (w.alloc (.cells #[v] 60)) := (Ext.refl _).alloc _
  go_wp2_with fail
  refine (l_szPathPartS x.parts _ _ _ (r.ext hx0) h0 h1).mono ?_
  rintro e w1 ⟨rfl, k1⟩
  have hx1 := hx0.trans k1
  by_cases hlt : left - (x.parts.length + hopsN x.parts : Nat) < 0
  · have hz : szL left x.size = -1 := if_pos hlt
    have hz1 : szL left (x.parts.length + hopsN x.parts) = -1 := if_pos hlt
    rw [hz1]
    have HZ := Lib.hid hz; clear hz hz1
    go_wp2_with fail
    go_ret
    exact ⟨ret_int HZ.out.symm, hx1⟩
  · have hz : szL left x.size = left - (x.parts.length + hopsN x.parts : Nat) := if_neg hlt
    have hz1 : szL left (x.parts.length + hopsN x.parts) = left - (x.parts.length + hopsN x.parts : Nat) := if_neg hlt
    rw [hz1]
    have HZ := Lib.hid hz; clear hz hz1
    go_wp2_with fail
    go_ret
    exact ⟨ret_int HZ.out.symm, hx1⟩
set_option maxHeartbeats 1000000 in
theorem l_toPathPart (x : Part) (v : Value) (w : World) (r : RdS Hop.rep w v x.hops) (hl : x.size ≤ 1048576) :
    Calls Try.prog 157 #[.agg #[.int .i64 x.kind, .int .i64 x.ts, .int .i64 x.beta, v]] w fun e w' => ∃ u, e = .returned (.agg #[.int .i64 x.kind, .int .i64 x.ts, .int .i64 x.beta, u]) ∧ OwnF Hop.f 5 w.heap.size 136 w' u x.hops ∧ Ext w w' := by
  unfold Part.size at hl
  go_enter Try.func157, Try.ntmps157
  go_wp2_with fail
  refine (l_toHopS x.hops _ _ (r.ext (by repeat (first | exact Ext.refl _ | apply Ext.alloc | (refine Ext.setCell ?_ (by simp) _)))) (by omega)).mono ?_
  rintro e w1 ⟨u1, rfl, o1, k1⟩
  obtain ⟨oo1, cc1, rfl, _⟩ := (OwnF.rd (hf := Hop.flen) o1).shape
  have hb0 := k1.block (al3 w _ _ _).1
  have hb1 := k1.block (al3 w _ _ _).2.1
  have hb2 := k1.block (al3 w _ _ _).2.2
  have hx1 := (ext3 w _ _ _).trans k1
  have hs1 := k1.size
  simp only [nblk_alloc] at hs1
  have c1 := blk4 hb1
  have c2 := blk4 hb2
  have g1 := fr_of hb1 0
  have g11 := fr_of hb1 1
  have g12 := fr_of hb1 2
  have g13 := fr_of hb1 3
  have g2 := fr_of hb2 3
  clear hb0 hb1 hb2
  go_wp2_with fail
  refine bodyPost_ret (v := .agg #[.int .i64 x.kind, .int .i64 x.ts, .int .i64 x.beta, .slice oo1 x.hops.length cc1]) (by simp [results, Try.results157, go_sem, c1]) rfl ⟨_, rfl, ?_, ?_⟩
  · exact (((((o1.set (by simp) _).set (by simp) _).set (by simp) _).set (by simp) _).set (by simp) _).mono (by simp; omega)
  · exact ((((hx1.setCell (by simp; omega) _).setCell (by simp) _).setCell (by simp) _).setCell (by simp) _).setCell (by simp) _
set_option maxHeartbeats 1000000 in
theorem l_toPathPartS (l : List Part) (v : Value) (w : World) (hv : RdS Part.rep w v l) (hl : l.length + hopsN l ≤ 1048576) :
    Calls Try.prog 119 #[v] w fun e w' => ∃ v', e = .returned v' ∧ Part.own.own (rng w.heap.size w'.heap.size) w' v' l ∧ Ext w w' := by
  obtain ⟨o, cap, rfl, hsm⟩ := hv.shape
  obtain ⟨i0, hi, hz0, hz1, hz2⟩ := info_parts Try.infoPart
  have Hi := Lib.hid hi; clear hi
  go_enter Try.func119, Try.ntmps119
  go_wp2_with (with_reducible refine wpList_make_full _ rfl _ _ 74 rfl w.heap.size 134 i0 _ 4 Try.underlying74 Hi.out hz0 hz1 .i64 .i64 _ _ l.length rfl rfl rfl rfl ?_ ?_ ?_ ?_)
  · rw [hz2]; omega
  · unfold maxLen; omega
  · exact Nat.le_refl _
  intro w1 hown hg
  have hx1 : Ext w w1 := (Ext.refl w).grownNone hg
  have hown1 : Part.own.own (rng w.heap.size w1.heap.size) w1 (.slice (some ⟨w.heap.size, 0, none⟩) l.length l.length) (List.replicate l.length ⟨0, 0, 0, []⟩) := by
    have := madeCells_flat (n := 4) (f := capF Part.c) (fun _ => rfl) (by decide) ⟨⟨0, 0, 0, []⟩, .slice none 0 0, noB⟩ l.length
    have h2 : OwnF (capF Part.c) 4 w.heap.size 134 w1 (.slice (some ⟨w.heap.size, 0, none⟩) l.length l.length) (List.replicate l.length ⟨⟨0, 0, 0, []⟩, .slice none 0 0, noB⟩) := by
      unfold OwnF
      rw [← this, List.length_replicate]
      exact hown
    exact nest_zero (c := Part.c) (hc := Part.clen) (sub := (·.hops)) (I := Own.flat Hop.f 5 Hop.flen 136) (⟨0, 0, 0, []⟩ : Part) rfl h2.to0 (rng w.heap.size w1.heap.size) (show rng _ _ _ from ⟨Nat.le_refl _, (h2.block _ rfl).2⟩)
  clear hown hg
  go_wp2
  go_loopw [4] (fun i wr => ∃ (k : Nat) (xs : List Part), k ≤ l.length ∧ i = .int .i64 k ∧ xs.length = l.length ∧ Part.own.own (rng w.heap.size wr.heap.size) wr (.slice (some ⟨w.heap.size, 0, none⟩) l.length l.length) xs ∧ xs.take k = l.take k ∧ Ext w wr) (fun i _ => l.length - (intOf i).toNat)
  case atStart => exact ⟨0, _, Nat.zero_le _, rfl, by simp, hown1, rfl, hx1⟩
  case round =>
    obtain ⟨k, xs, hk, rfl, hxl, hown, htk, hx⟩ := hrel
    have Htk := Lib.hid htk; clear htk
    have Hxl := Lib.hid hxl; clear hxl
    by_cases hlt : k < l.length
    · obtain ⟨b, off, oh, ch, rfl, hcc, hr⟩ := Part.at (hv.ext hx) k hlt
      have hle := hopsN_le hlt
      go_wp2_with fail
      refine (l_toPathPart l[k] _ _ hr (by unfold Part.size; omega)).mono ?_
      rintro e w2 ⟨u2, rfl, o2, h2⟩
      obtain ⟨ou, cu, rfl, _⟩ := (OwnF.rd (hf := Hop.flen) o2).shape
      have hx2 := hx.trans h2
      have hown2 := Own.ext hown h2
      obtain ⟨hv3, T3, hc3, _⟩ := nest_at hown2 k (by rw [Hxl.out]; exact hlt)
      have d0 := hc3 0 _ rfl
      have d1 := hc3 1 _ rfl
      have d2 := hc3 2 _ rfl
      have d3 := hc3 3 _ rfl
      simp only [Nat.add_zero] at d0
      have f0 := nest_free hown2 (k * 4)
      have f1 := nest_free hown2 (k * 4 + 1)
      have f2 := nest_free hown2 (k * 4 + 2)
      have f3 := nest_free hown2 (k * 4 + 3)
      have key := fun (w3 : World) => nest_put (w2 := w3) (S' := rng w.heap.size w2.heap.size) hown k (by rw [Hxl.out]; exact hlt) l[k] (.slice ou l[k].hops.length cu) h2 (Own.ofF (hf := Hop.flen) o2) (fun b hb => ⟨⟨Nat.le_trans hx.size hb.1, hb.2⟩, hb.1, hb.2⟩) (fun b hb => ⟨hb.1, Nat.lt_of_lt_of_le hb.2 h2.size⟩)
      have key2 : ∃ w3, w3 = ((((w2.setCell ⟨w.heap.size, k * 4, none⟩ (.int .i64 l[k].kind)).setCell ⟨w.heap.size, k * 4 + 1, none⟩ (.int .i64 l[k].ts)).setCell ⟨w.heap.size, k * 4 + 2, none⟩ (.int .i64 l[k].beta)).setCell ⟨w.heap.size, k * 4 + 3, none⟩ (.slice ou l[k].hops.length cu)) ∧ Part.own.own (rng w.heap.size w3.heap.size) w3 (.slice (some ⟨w.heap.size, 0, none⟩) l.length l.length) (xs.set k l[k]) ∧ Ext w w3 := by
        have hrow := fun (qs : List (Cap Part)) (hq : qs.map (·.dat) = xs) (ho : OwnF (capF Part.c) 4 0 134 w2 (.slice (some ⟨w.heap.size, 0, none⟩) l.length l.length) qs) => Part.row_set ho k (by rw [← List.length_map (f := fun q : Cap Part => q.dat), hq, Hxl.out]; exact hlt) ⟨l[k], .slice ou l[k].hops.length cu, rng wr.heap.size w2.heap.size⟩
        have hg3 : w2.grownBy ((((w2.setCell ⟨w.heap.size, k * 4, none⟩ (.int .i64 l[k].kind)).setCell ⟨w.heap.size, k * 4 + 1, none⟩ (.int .i64 l[k].ts)).setCell ⟨w.heap.size, k * 4 + 2, none⟩ (.int .i64 l[k].beta)).setCell ⟨w.heap.size, k * 4 + 3, none⟩ (.slice ou l[k].hops.length cu)) (some w.heap.size) := by
          obtain ⟨qs, hq, ho, _⟩ := hown2
          exact (hrow qs hq ho).2
        exact ⟨_, rfl, Part.own.mono (key _ hg3 (fun qs hq ho => (hrow qs hq ho).1)) (fun b hb => ⟨hb.1, Nat.lt_of_lt_of_le hb.2 hg3.size⟩), hx2.grown hg3 (fun _ e => by cases e; exact Nat.le_refl _)⟩
      obtain ⟨w3, hw3, ho3, hx3⟩ := key2
      have HW3 := Lib.hid hw3; clear hw3 key hc3 hown hown2
      go_wp2_with fail
      rw [← HW3.out]
      go_roundw
      case rel => exact ⟨k + 1, _, by omega, by go_num, by simpa using Hxl.out, ho3, take_set_snoc Htk.out Hxl.out hlt, hx3⟩
      case measure => simp [intOf]; omega
    · go_wp2
      go_ret
      refine ⟨_, rfl, ?_, hx⟩
      obtain rfl : xs = l := by
        have := Htk.out
        rwa [List.take_of_length_le (by rw [Hxl.out]; omega), List.take_of_length_le (by omega)] at this
      exact hown
set_option maxHeartbeats 1000000 in
theorem l_toPath (x : Pth) (v : Value) (w : World) (r : RdS Part.rep w v x.parts) (hl : x.size ≤ 1048576) :
    Calls Try.prog 63 #[.agg #[v]] w fun e w' => ∃ u, e = .returned (.agg #[u]) ∧ Part.own.own (rng w.heap.size w'.heap.size) w' u x.parts ∧ Ext w w' := by
  unfold Pth.size at hl
  go_enter Try.func63, Try.ntmps63
  go_wp2_with fail
  refine (l_toPathPartS x.parts _ _ (r.ext (by repeat (first | exact Ext.refl _ | apply Ext.alloc | (refine Ext.setCell ?_ (by simp) _)))) (by omega)).mono ?_
  rintro e w1 ⟨u1, rfl, o1, k1⟩
  obtain ⟨oo1, cc1, rfl, _⟩ := (Part.ord o1).shape
  have hb1 := k1.block (al3 w _ _ _).2.1
  have hb2 := k1.block (al3 w _ _ _).2.2
  have hx1 := (ext3 w _ _ _).trans k1
  have hs1 := k1.size
  simp only [nblk_alloc] at hs1
  have c1 := blk1 hb1
  have c2 := blk1 hb2
  have g1 := fr_of hb1 0
  have g2 := fr_of hb2 0
  clear hb1 hb2
  go_wp2_with fail
  refine bodyPost_ret (v := .agg #[.slice oo1 x.parts.length cc1]) (by simp [results, Try.results63, go_sem, c1]) rfl ⟨_, rfl, ?_, ?_⟩
  · have hch : Chg (fun b => b < w.heap.size + 3) w1 ((w1.setCell ⟨w.heap.size + 1 + 1, 0, none⟩ (.slice oo1 x.parts.length cc1)).setCell ⟨w.heap.size + 1, 0, none⟩ (.slice oo1 x.parts.length cc1)) := by
      refine ⟨rfl, rfl, rfl, by simp, fun k hk hn => ?_⟩
      rw [Below.heap_setCell _ _ _ _ (by simp only; omega), Below.heap_setCell _ _ _ _ (by simp only; omega)]
    refine Own.mono _ (Own.kept _ o1 hch (fun b hb h => by have := hb.1; simp only [nblk_alloc] at this; omega)) (fun b hb => ⟨?_, ?_⟩)
    · have := hb.1; simp only [nblk_alloc] at this; omega
    · have := hb.2; simpa using this
  · exact ((hx1.setCell (by simp; omega) _).setCell (by simp) _)
set_option maxHeartbeats 1000000 in
theorem l_eqPathPart (x y : Part) (v u : Value) (w : World) (r : RdS Hop.rep w v x.hops) (s : RdS Hop.rep w u y.hops) :
    Calls Try.prog 162 #[.agg #[.int .i64 x.kind, .int .i64 x.ts, .int .i64 x.beta, v], .agg #[.int .i64 y.kind, .int .i64 y.ts, .int .i64 y.beta, u]] w fun e w' => e = .returned (.bool (decide (x = y))) ∧ Ext w w' := by
  have heq : decide (x = y) = (!(x.kind != y.kind) && (!(x.ts != y.ts) && (!(x.beta != y.beta) && decide (x.hops = y.hops)))) := by
    cases x; cases y; simp only [nbne, Part.mk.injEq, Bool.decide_and]
  have HEQ := Lib.hid heq; clear heq
  go_enter Try.func162, Try.ntmps162
  have hx0 := ext2 w (.cells #[.int .i64 x.kind, .int .i64 x.ts, .int .i64 x.beta, v] 134) (.cells #[.int .i64 y.kind, .int .i64 y.ts, .int .i64 y.beta, u] 134)
  cases hc : (x.kind != y.kind)
  · cases hc2 : (x.ts != y.ts)
    · cases hc3 : (x.beta != y.beta)
      · rw [hc, hc2, hc3] at HEQ
        go_wp2_with fail
        refine (l_eqHopS x.hops y.hops _ _ _ (r.ext hx0) (s.ext hx0)).mono ?_
        rintro e w1 ⟨rfl, k1⟩
        have hx1 := hx0.trans k1
        cases hr : decide (x.hops = y.hops)
        · rw [hr] at HEQ
          go_wp2_with fail
          go_ret
          exact ⟨ret_bool HEQ.out.symm, hx1⟩
        · rw [hr] at HEQ
          go_wp2_with fail
          go_ret
          exact ⟨ret_bool HEQ.out.symm, hx1⟩
      · rw [hc, hc2, hc3] at HEQ
        go_wp2_with fail
        go_ret
        exact ⟨ret_bool HEQ.out.symm, hx0⟩
    · rw [hc, hc2] at HEQ
      go_wp2_with fail
      go_ret
      exact ⟨ret_bool HEQ.out.symm, hx0⟩
  · rw [hc] at HEQ
    go_wp2_with fail
    go_ret
    exact ⟨ret_bool HEQ.out.symm, hx0⟩
set_option maxRecDepth 100000 in
set_option maxHeartbeats 1000000 in
theorem l_eqPathPartS (a b : List Part) (va vb : Value) (w : World) (ha : RdS Part.rep w va a) (hb : RdS Part.rep w vb b) :
    Calls Try.prog 122 #[va, vb] w fun e w' => e = .returned (.bool (decide (a = b))) ∧ Ext w w' := by
  obtain ⟨oa, ca, rfl, hsa⟩ := ha.shape
  obtain ⟨ob, cb, rfl, hsb⟩ := hb.shape
  by_cases hne : a.length = b.length
  · have Hne := Lib.hid hne
    have t1 : ((a.length : Int) != (b.length : Int)) = false := by simp [hne]
    clear hne
    go_enter Try.func122, Try.ntmps122
    go_wp2
    go_loopw [5] (fun i wr => ∃ (k : Nat), k ≤ a.length ∧ i = .int .i64 k ∧ a.take k = b.take k ∧ Ext w wr) (fun i _ => a.length - (intOf i).toNat)
    case atStart => exact ⟨0, Nat.zero_le _, rfl, rfl, Ext.refl _⟩
    case round =>
      obtain ⟨k, hk, rfl, htk, hx⟩ := hrel
      have Htk := Lib.hid htk; clear htk
      by_cases hlt : k < a.length
      · have hlb : k < b.length := by rw [← Hne.out]; exact hlt
        obtain ⟨b1, off1, oh1, ch1, rfl, hc1, hr1⟩ := Part.at (ha.ext hx) k hlt
        obtain ⟨b2, off2, oh2, ch2, rfl, hc2, hr2⟩ := Part.at (hb.ext hx) k hlb
        go_wp2_with fail
        refine planStep (.blk [0, 1, 2, 3, 4, 5, 6, 7] (.one 8 (.blk [9] .done))) [] (by kernel_rfl) (by kernel_rfl) ?_
        refine blkStep (fun K HK => ?_)
        simp only [pick, List.filterMap_cons, List.filterMap_nil, List.getElem?_toArray, List.getElem?_cons_zero, List.getElem?_cons_succ]
        go_wp2_with fail
        refine HK.out _ _ ?_
        clear HK K
        refine oneStep (fun K HK => ?_)
        simp only [pick, List.filterMap_cons, List.filterMap_nil, List.getElem?_toArray, List.getElem?_cons_zero, List.getElem?_cons_succ]
        go_wp2_with fail
        refine (l_eqPathPart a[k] b[k] _ _ _ (hr1.ext (Ext.refl _).drew) (hr2.ext (Ext.refl _).drew)).mono ?_
        rintro e w1 ⟨rfl, h1⟩
        have hx1 := hx.drew.trans h1
        cases hd : decide (a[k] = b[k])
        · have hab : decide (a = b) = false := by
            rw [decide_eq_false_iff_not]; rintro rfl; simp at hd
          have Hab := Lib.hid hab; clear hab
          go_wp2_with fail
          refine HK.out _ _ h1 ?_
          clear HK K
          refine blkStep (fun K HK => ?_)
          simp only [pick, List.filterMap_cons, List.filterMap_nil, List.getElem?_toArray, List.getElem?_cons_zero, List.getElem?_cons_succ]
          go_wp2_with fail
          refine HK.out _ _ ?_
          clear HK K
          refine doneStep (by kernel_rfl) ?_
          go_wp2_with fail
          go_ret
          exact ⟨ret_bool Hab.out.symm, hx1⟩
        · have hd' : a[k] = b[k] := of_decide_eq_true hd
          have HD := Lib.hid hd'; clear hd'
          go_wp2_with fail
          refine HK.out _ _ h1 ?_
          clear HK K
          refine blkStep (fun K HK => ?_)
          simp only [pick, List.filterMap_cons, List.filterMap_nil, List.getElem?_toArray, List.getElem?_cons_zero, List.getElem?_cons_succ]
          go_wp2_with fail
          refine HK.out _ _ ?_
          clear HK K
          refine doneStep (by kernel_rfl) ?_
          go_wp2_with fail
          go_roundw
          case rel => exact ⟨k + 1, by omega, by go_num, take_snoc2 Htk.out hlt hlb HD.out, hx1⟩
          case measure => simp [intOf]; omega
      · have hab : decide (a = b) = true := by
          have := Htk.out
          rw [List.take_of_length_le (by omega), List.take_of_length_le (by rw [← Hne.out]; omega)] at this
          simp [this]
        have Hab := Lib.hid hab; clear hab
        go_wp2
        go_ret
        exact ⟨ret_bool Hab.out.symm, hx⟩
  · have t1 : ((a.length : Int) != (b.length : Int)) = true := by simp [bne_iff_ne]; omega
    have hab : decide (a = b) = false := by
      rw [decide_eq_false_iff_not]; rintro rfl; exact hne rfl
    have Hab := Lib.hid hab; clear hab
    clear hne
    go_enter Try.func122, Try.ntmps122
    go_wp2
    go_ret
    exact ⟨ret_bool Hab.out.symm, Ext.refl _⟩
set_option maxHeartbeats 1000000 in
theorem l_eqPath (x y : Pth) (v u : Value) (w : World) (r : RdS Part.rep w v x.parts) (s : RdS Part.rep w u y.parts) :
    Calls Try.prog 65 #[.agg #[v], .agg #[u]] w fun e w' => e = .returned (.bool (decide (x = y))) ∧ Ext w w' := by
  have heq : decide (x = y) = decide (x.parts = y.parts) := by
    cases x; cases y; simp only [Pth.mk.injEq]
  have HEQ := Lib.hid heq; clear heq
  go_enter Try.func65, Try.ntmps65
  have hx0 := ext2 w (.cells #[v] 76) (.cells #[u] 76)
  go_wp2_with fail
  refine (l_eqPathPartS x.parts y.parts _ _ _ (r.ext hx0) (s.ext hx0)).mono ?_
  rintro e w1 ⟨rfl, k1⟩
  have hx1 := hx0.trans k1
  cases hr : decide (x.parts = y.parts)
  · rw [hr] at HEQ
    go_wp2_with fail
    go_ret
    exact ⟨ret_bool HEQ.out.symm, hx1⟩
  · rw [hr] at HEQ
    go_wp2_with fail
    go_ret
    exact ⟨ret_bool HEQ.out.symm, hx1⟩
end Go.Proofs.Ytjjoijidlgkimaa
