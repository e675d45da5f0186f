/- The data of the struct Topology, how it reads, and the contracts of the laws' helper functions over it. No condition but the bounds that each theorem names. -/
import Derived.Test.YtjjoijidlgkimaaBlk
import Derived.Test.YtjjoijidlgkimaaTyAS
import Derived.Test.YtjjoijidlgkimaaTyLink
namespace Go.Proofs.Ytjjoijidlgkimaa
open Go.ChangeShapes Go.WideShapes Go.ChangeAt Go.RowKit Go.Deep

structure Topo where
  ases : List ASd
  links : List Lnk
  deriving DecidableEq
def Topo.size (x : Topo) : Nat := x.ases.length + x.links.length
def Topo.rep : Rep Topo where
  cells := 2
  rd w cs x := ∃ v1 v2, cs = [v1, v2] ∧ RdS ASd.rep w v1 x.ases ∧ RdS Lnk.rep w v2 x.links
  len := by rintro w cs a ⟨v1, v2, rfl, _⟩; rfl
  ext := by rintro w w' cs a e ⟨v1, v2, rfl, h1, h2⟩; exact ⟨v1, v2, rfl, h1.ext e, h2.ext e⟩
def Topo.ok (x : Topo) : Prop := (∀ y ∈ x.ases, ASd.ok y) ∧ ∀ y ∈ x.links, Lnk.ok y
theorem Topo.opens : Opens Try.prog 56 Topo.rep Topo.ok := by
  intro H enc w base spare held fuel cs x h
  obtain ⟨xs, n, _, _, hcl, hxl, hf⟩ := DataW.trod_struct Try.underlying56 h
  have hC : Try.prog.cellsOf 56 = 2 := by kernel_rfl
  have hi2 : Try.prog.cellsOf 53 = 1 := by kernel_rfl
  have hi3 : Try.prog.cellsOf 54 = 1 := by kernel_rfl
  obtain ⟨c1, c2, rfl⟩ := len2 (hcl.trans hC)
  obtain ⟨y1, y2, rfl⟩ := len2 hxl
  have h1 := hf 0 _ rfl
  simp [hi2] at h1
  obtain ⟨l1, ⟨v1, e1, r1⟩, k1⟩ := ASd.opensS h1
  cases e1
  have h2 := hf 1 _ rfl
  simp [hi3] at h2
  obtain ⟨l2, ⟨v2, e2, r2⟩, k2⟩ := Lnk.opensS h2
  cases e2
  exact ⟨⟨l1, l2⟩, ⟨_, _, rfl, r1, r2⟩, k1, k2⟩
theorem szL_addT {left : Int} {n m : Nat} (_ : ¬ left - n < 0) : szL (left - n) m = szL left (n + m) := by
  unfold szL
  by_cases h2 : left - n - m < 0
  · rw [if_pos h2, if_pos (by omega)]
  · rw [if_neg h2, if_neg (by omega)]; omega
set_option maxHeartbeats 400000 in
theorem l_szTopology (x : Topo) (v1 v2 : Value) (left : Int) (w : World) (r1 : RdS ASd.rep w v1 x.ases) (r2 : RdS Lnk.rep w v2 x.links) (h0 : 0 ≤ left) (h1 : left ≤ 1048576) :
    Calls Try.prog 45 #[.agg #[v1, v2], .int .i64 left] w fun e w' => e = .returned (.int .i64 (szL left x.size)) ∧ Ext w w' := by
  go_enter Try.func45, Try.ntmps45
  have hx0 : Ext w (w.alloc (.cells #[v1, v2] 56)) := (Ext.refl _).alloc _
  have hB := blk_new w (.cells #[v1, v2] 56)
  have HB := Lib.hid hB; clear hB
  go_wp2_with fail
  refine (l_szASS x.ases _ _ _ (r1.ext hx0) h0 h1).mono ?_
  rintro e w1 ⟨rfl, k1⟩
  have hx1 := hx0.trans k1
  by_cases hlt : left - x.ases.length < 0
  · have hz : szL left x.size = -1 := by unfold szL Topo.size; rw [if_pos (by omega)]
    have hz1 : szL left x.ases.length = -1 := by unfold szL; rw [if_pos hlt]
    rw [hz1]
    have HZ := Lib.hid hz; clear hz hz1
    go_wp2_with fail
    go_ret
    exact ⟨ret_int HZ.out.symm, hx1⟩
  · have hz : szL (left - x.ases.length) x.links.length = szL left x.size := szL_addT hlt
    have hz1 : szL left x.ases.length = left - x.ases.length := by unfold szL; rw [if_neg hlt]
    rw [hz1]
    have HZ := Lib.hid hz; clear hz hz1
    have hc1 := blk2 (k1.block HB.out)
    have hl0 : 0 ≤ left - x.ases.length := by omega
    have hl1 : left - x.ases.length ≤ 1048576 := by omega
    go_wp2_with fail
    refine (l_szLinkS x.links _ _ _ (r2.ext hx1) hl0 hl1).mono ?_
    rintro e w2 ⟨rfl, k2⟩
    by_cases hlt2 : left - x.ases.length - x.links.length < 0
    · have hz1 : szL (left - x.ases.length) x.links.length = -1 := by unfold szL; rw [if_pos hlt2]
      have HZ2 := Lib.hid (hz1.symm.trans HZ.out)
      rw [hz1]
      clear hz1
      go_wp2_with fail
      go_ret
      exact ⟨ret_int HZ2.out, hx1.trans k2⟩
    · have hz1 : szL (left - x.ases.length) x.links.length = left - x.ases.length - x.links.length := by unfold szL; rw [if_neg hlt2]
      have HZ2 := Lib.hid (hz1.symm.trans HZ.out)
      rw [hz1]
      clear hz1
      go_wp2_with fail
      go_ret
      exact ⟨ret_int HZ2.out, hx1.trans k2⟩
set_option maxHeartbeats 1000000 in
theorem l_toTopology (x : Topo) (v1 v2 : Value) (w : World) (r1 : RdS ASd.rep w v1 x.ases) (r2 : RdS Lnk.rep w v2 x.links) (hl : x.size ≤ 1048576) :
    Calls Try.prog 48 #[.agg #[v1, v2]] w fun e w' => ∃ u1 u2, e = .returned (.agg #[u1, u2]) ∧ OwnF ASd.f 3 w.heap.size 155 w' u1 x.ases ∧ OwnF Lnk.f 5 w.heap.size 159 w' u2 x.links ∧ Ext w w' := by
  unfold Topo.size at hl
  go_enter Try.func48, Try.ntmps48
  go_wp2_with fail
  refine (l_toASS x.ases _ _ (r1.ext (by repeat (first | exact Ext.refl _ | apply Ext.alloc | (refine Ext.setCell ?_ (by simp) _)))) (by omega)).mono ?_
  rintro e w1 ⟨u1, rfl, o1, k1⟩
  obtain ⟨oo1, cc1, rfl, _⟩ := (OwnF.rd (hf := ASd.flen) o1).shape
  have hb0 := k1.block (al3 w _ _ _).1
  have hb1 := k1.block (al3 w _ _ _).2.1
  have hb2 := k1.block (al3 w _ _ _).2.2
  have hx1 := (ext3 w _ _ _).trans k1
  have hs1 := k1.size
  simp only [nblk_alloc] at hs1
  have hc0 := blk2 hb0
  have hc2 := blk2 hb2
  have f2 := fr_of hb2 0
  have q2 := blk_set hb2 0 (.slice oo1 x.ases.length cc1)
  have q1 := blk_set_ne hb1 (show w.heap.size + 1 + 1 ≠ w.heap.size + 1 by omega) 0 (.slice oo1 x.ases.length cc1)
  have q0 := blk_set_ne hb0 (show w.heap.size + 1 + 1 ≠ w.heap.size by omega) 0 (.slice oo1 x.ases.length cc1)
  have O1 := Lib.hid (OwnF.set o1 (p := ⟨w.heap.size + 1 + 1, 0, none⟩) (by simp) (.slice oo1 x.ases.length cc1))
  have HX := Lib.hid (hx1.setCell (p := ⟨w.heap.size + 1 + 1, 0, none⟩) (by simp; omega) (.slice oo1 x.ases.length cc1))
  have Q0 := Lib.hid q0; have Q1 := Lib.hid q1; have Q2 := Lib.hid q2
  clear q0 q1 q2 hb0 hb1 hb2 o1 hx1
  go_wp2_with fail
  refine (l_toLinkS x.links _ _ (r2.ext HX.out) (by omega)).mono ?_
  rintro e w2 ⟨u2, rfl, o2, k2⟩
  obtain ⟨oo2, cc2, rfl, _⟩ := (OwnF.rd (hf := Lnk.flen) o2).shape
  have b1 := k2.block Q1.out
  have b2 := k2.block Q2.out
  simp only [List.setIfInBounds_toArray, List.set_cons_zero] at b2
  have hs2 := k2.size
  have hs3 : w.heap.size + 1 + 1 < w2.heap.size := blk_lt b2
  have c1 := blk2 b1
  have c2 := blk2 b2
  have g1 := fr_of b1 0
  have g11 := fr_of b1 1
  have g2 := fr_of b2 1
  clear b1 b2
  go_wp2_with fail
  refine bodyPost_ret (v := .agg #[.slice oo1 x.ases.length cc1, .slice oo2 x.links.length cc2]) (by simp [results, Try.results48, go_sem, c1]) rfl ⟨_, _, rfl, ?_, ?_, ?_⟩
  · exact ((((O1.out.ext k2).set (by simp) _).set (by simp) _).set (by simp) _).mono (by simp; omega)
  · exact (((o2.set (by simp; omega) _).set (by simp; omega) _).set (by simp; omega) _).mono (by simp; omega)
  · exact (((HX.out.trans k2).setCell (by simp; omega) _).setCell (by simp) _).setCell (by simp) _
set_option maxHeartbeats 1000000 in
theorem l_eqTopology (x y : Topo) (v1 v2 u1 u2 : Value) (w : World) (r1 : RdS ASd.rep w v1 x.ases) (r2 : RdS Lnk.rep w v2 x.links) (s1 : RdS ASd.rep w u1 y.ases) (s2 : RdS Lnk.rep w u2 y.links) :
    Calls Try.prog 51 #[.agg #[v1, v2], .agg #[u1, u2]] w fun e w' => e = .returned (.bool (decide (x = y))) ∧ Ext w w' := by
  have heq : decide (x = y) = (decide (x.ases = y.ases) && decide (x.links = y.links)) := by
    cases x; cases y; simp only [Topo.mk.injEq, Bool.decide_and]
  have HEQ := Lib.hid heq; clear heq
  go_enter Try.func51, Try.ntmps51
  have hx0 := ext2 w (.cells #[v1, v2] 71) (.cells #[u1, u2] 71)
  have hB := al2 w (.cells #[v1, v2] 71) (.cells #[u1, u2] 71)
  have HB := Lib.hid hB; clear hB
  go_wp2_with fail
  refine (l_eqASS x.ases y.ases _ _ _ (r1.ext hx0) (s1.ext hx0)).mono ?_
  rintro e w1 ⟨rfl, k1⟩
  have hx1 := hx0.trans k1
  have c0 := blk2 (k1.block HB.out.1)
  have c1 := blk2 (k1.block HB.out.2)
  cases hr : decide (x.ases = y.ases)
  · rw [hr] at HEQ
    go_wp2_with fail
    go_ret
    exact ⟨ret_bool HEQ.out.symm, hx1⟩
  · rw [hr] at HEQ
    go_wp2_with fail
    refine (l_eqLinkS x.links y.links _ _ _ (r2.ext hx1) (s2.ext hx1)).mono ?_
    rintro e w2 ⟨rfl, k2⟩
    cases hu : decide (x.links = y.links)
    · rw [hu] at HEQ
      go_wp2_with fail
      go_ret
      exact ⟨ret_bool HEQ.out.symm, hx1.trans k2⟩
    · rw [hu] at HEQ
      go_wp2_with fail
      go_ret
      exact ⟨ret_bool HEQ.out.symm, hx1.trans k2⟩
end Go.Proofs.Ytjjoijidlgkimaa
