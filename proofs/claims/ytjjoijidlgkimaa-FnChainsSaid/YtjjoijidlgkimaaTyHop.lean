/- The data of the struct Hop (Hop), how a slice of it reads, and the contracts of the laws' helper functions over it. No condition but the bounds that each theorem names. -/
import Derived.Test.YtjjoijidlgkimaaOpen
namespace Go.Proofs.Ytjjoijidlgkimaa
open Go.ChangeShapes Go.WideShapes Go.ChangeAt Go.RowKit Go.Deep

structure Hop where
  asn : Int
  ing : Int
  eg : Int
  exp : Int
  mac : Int
  deriving DecidableEq
def Hop.f (x : Hop) : List Value := [.int .i64 x.asn, .int .i64 x.ing, .int .i64 x.eg, .int .i64 x.exp, .int .i64 x.mac]
theorem Hop.flen (x : Hop) : x.f.length = 5 := rfl
def Hop.rep : Rep Hop := Rep.flat 5 Hop.f Hop.flen
theorem Hop.one (x : Hop) : ∀ u ∈ x.f, u.oneCell' = true := by
  intro u hu
  simp only [Hop.f, List.mem_cons, List.not_mem_nil, or_false] at hu
  rcases hu with rfl | rfl | rfl | rfl | rfl <;> rfl
theorem Hop.at {w : World} {o : Option Addr} {m cap : Nat} {l : List Hop} (h : RdS Hop.rep w (.slice o m cap) l) (k : Nat) (hk : k < l.length) :
    ∃ b off, o = some ⟨b, off, none⟩ ∧ w.cell? ⟨b, off + k * 5, none⟩ = some (.int .i64 l[k].asn) ∧ w.cell? ⟨b, off + k * 5 + 1, none⟩ = some (.int .i64 l[k].ing) ∧ w.cell? ⟨b, off + k * 5 + 2, none⟩ = some (.int .i64 l[k].eg) ∧ w.cell? ⟨b, off + k * 5 + 3, none⟩ = some (.int .i64 l[k].exp) ∧ w.cell? ⟨b, off + k * 5 + 4, none⟩ = some (.int .i64 l[k].mac) := by
  obtain ⟨b, off, ho, hc⟩ := RdS.at_flat h k hk
  exact ⟨b, off, ho, by simpa using hc 0 _ rfl, by simpa using hc 1 _ rfl, by simpa using hc 2 _ rfl, by simpa using hc 3 _ rfl, by simpa using hc 4 _ rfl⟩
theorem Hop.at_ext {w w' : World} {b off k : Nat} {l : List Hop} {hk : k < l.length} (x : Ext w w') (h : w.cell? ⟨b, off + k * 5, none⟩ = some (.int .i64 l[k].asn) ∧ w.cell? ⟨b, off + k * 5 + 1, none⟩ = some (.int .i64 l[k].ing) ∧ w.cell? ⟨b, off + k * 5 + 2, none⟩ = some (.int .i64 l[k].eg) ∧ w.cell? ⟨b, off + k * 5 + 3, none⟩ = some (.int .i64 l[k].exp) ∧ w.cell? ⟨b, off + k * 5 + 4, none⟩ = some (.int .i64 l[k].mac)) :
    w'.cell? ⟨b, off + k * 5, none⟩ = some (.int .i64 l[k].asn) ∧ w'.cell? ⟨b, off + k * 5 + 1, none⟩ = some (.int .i64 l[k].ing) ∧ w'.cell? ⟨b, off + k * 5 + 2, none⟩ = some (.int .i64 l[k].eg) ∧ w'.cell? ⟨b, off + k * 5 + 3, none⟩ = some (.int .i64 l[k].exp) ∧ w'.cell? ⟨b, off + k * 5 + 4, none⟩ = some (.int .i64 l[k].mac) := by
  obtain ⟨h0, h1, h2, h3, h4⟩ := h
  exact ⟨x.cell h0, x.cell h1, x.cell h2, x.cell h3, x.cell h4⟩
theorem Hop.own_at {base : Nat} {e : TypeId} {w : World} {g m cap : Nat} {l : List Hop} (h : OwnF Hop.f 5 base e w (.slice (some ⟨g, 0, none⟩) m cap) l) (k : Nat) (hk : k < l.length) :
    w.cell? ⟨g, k * 5, none⟩ = some (.int .i64 l[k].asn) ∧ w.cell? ⟨g, k * 5 + 1, none⟩ = some (.int .i64 l[k].ing) ∧ w.cell? ⟨g, k * 5 + 2, none⟩ = some (.int .i64 l[k].eg) ∧ w.cell? ⟨g, k * 5 + 3, none⟩ = some (.int .i64 l[k].exp) ∧ w.cell? ⟨g, k * 5 + 4, none⟩ = some (.int .i64 l[k].mac) := by
  have hc := OwnF.cells_flat Hop.flen h k hk
  exact ⟨by simpa using hc 0 _ rfl, by simpa using hc 1 _ rfl, by simpa using hc 2 _ rfl, by simpa using hc 3 _ rfl, by simpa using hc 4 _ rfl⟩
theorem Try.infoHop : (Try.prog.info? 136).map (fun i => (i.zero, i.size, i.bytes)) = some (some (.agg #[.int .i64 0, .int .i64 0, .int .i64 0, .int .i64 0, .int .i64 0]), 5, 40) := by kernel_rfl
theorem Hop.sets {l : List Hop} {k : Nat} (hk : k < l.length) (x : Hop) : ((((((l.flatMap Hop.f).set (k * 5) (.int .i64 x.asn)).set (k * 5 + 1) (.int .i64 x.ing)).set (k * 5 + 2) (.int .i64 x.eg)).set (k * 5 + 3) (.int .i64 x.exp)).set (k * 5 + 4) (.int .i64 x.mac)) = (l.set k x).flatMap Hop.f := by
  induction l generalizing k with
  | nil => simp at hk
  | cons a l ih =>
    cases k with
    | zero => rfl
    | succ k =>
      have := ih (k := k) (by simpa using hk)
      simp only [List.flatMap_cons, List.set_cons_succ, ← this, Hop.f]
      rw [show (k + 1) * 5 = k * 5 + 1 + 1 + 1 + 1 + 1 from by omega]
      rfl
theorem Hop.own_set {base : Nat} {e : TypeId} {w : World} {g m cap : Nat} {l : List Hop} (h : OwnF Hop.f 5 base e w (.slice (some ⟨g, 0, none⟩) m cap) l) (k : Nat) (hk : k < l.length) (x : Hop) :
    OwnF Hop.f 5 base e (((((w.setCell ⟨g, k * 5, none⟩ (.int .i64 x.asn)).setCell ⟨g, k * 5 + 1, none⟩ (.int .i64 x.ing)).setCell ⟨g, k * 5 + 2, none⟩ (.int .i64 x.eg)).setCell ⟨g, k * 5 + 3, none⟩ (.int .i64 x.exp)).setCell ⟨g, k * 5 + 4, none⟩ (.int .i64 x.mac)) (.slice (some ⟨g, 0, none⟩) m cap) (l.set k x) ∧
      w.grownBy (((((w.setCell ⟨g, k * 5, none⟩ (.int .i64 x.asn)).setCell ⟨g, k * 5 + 1, none⟩ (.int .i64 x.ing)).setCell ⟨g, k * 5 + 2, none⟩ (.int .i64 x.eg)).setCell ⟨g, k * 5 + 3, none⟩ (.int .i64 x.exp)).setCell ⟨g, k * 5 + 4, none⟩ (.int .i64 x.mac)) (some g) := by
  obtain rfl := h.len
  obtain ⟨h0, g0⟩ := World.ownsRow.stored h (k * 5) (.int .i64 x.asn)
  obtain ⟨h1, g1⟩ := World.ownsRow.stored h0 (k * 5 + 1) (.int .i64 x.ing)
  obtain ⟨h2, g2⟩ := World.ownsRow.stored h1 (k * 5 + 2) (.int .i64 x.eg)
  obtain ⟨h3, g3⟩ := World.ownsRow.stored h2 (k * 5 + 3) (.int .i64 x.exp)
  obtain ⟨h4, g4⟩ := World.ownsRow.stored h3 (k * 5 + 4) (.int .i64 x.mac)
  rw [Hop.sets hk] at h4
  refine ⟨?_, ((((g0.trans g1).trans g2).trans g3).trans g4)⟩
  unfold OwnF
  rw [List.length_set]
  exact h4

set_option maxHeartbeats 400000 in
theorem l_toHop (x : Hop) (w : World) :
    Calls Try.prog 188 #[.agg #[.int .i64 x.asn, .int .i64 x.ing, .int .i64 x.eg, .int .i64 x.exp, .int .i64 x.mac]] w fun e w' => e = .returned (.agg #[.int .i64 x.asn, .int .i64 x.ing, .int .i64 x.eg, .int .i64 x.exp, .int .i64 x.mac]) ∧ Ext w w' := by
  go_enter Try.func188, Try.ntmps188
  go_wp2
  exact bodyPost_ret (v := .agg #[.int .i64 x.asn, .int .i64 x.ing, .int .i64 x.eg, .int .i64 x.exp, .int .i64 x.mac]) (by simp [results, Try.results188, go_sem]) rfl ⟨rfl, by repeat (first | exact Ext.refl _ | apply Ext.alloc | (refine Ext.setCell ?_ (by simp) _))⟩
set_option maxHeartbeats 400000 in
theorem l_toHopS (l : List Hop) (v : Value) (w : World) (hv : RdS Hop.rep w v l) (hl : l.length ≤ 1048576) :
    Calls Try.prog 175 #[v] w fun e w' => ∃ v', e = .returned v' ∧ OwnF Hop.f 5 w.heap.size 136 w' v' l ∧ Ext w w' := by
  obtain ⟨o, cap, rfl, hsm⟩ := hv.shape
  obtain ⟨i0, hi, hz0, hz1, hz2⟩ := info_parts Try.infoHop
  have Hi := Lib.hid hi; clear hi
  go_enter Try.func175, Try.ntmps175
  go_wp2_with (with_reducible refine wpList_make_full _ rfl _ _ 132 rfl w.heap.size 136 i0 _ 5 Try.underlying132 Hi.out hz0 hz1 .i64 .i64 _ _ l.length rfl rfl rfl rfl ?_ ?_ ?_ ?_)
  · rw [hz2]; omega
  · unfold maxLen; omega
  · exact Nat.le_refl _
  intro w1 hown hg
  have hx1 : Ext w w1 := (Ext.refl w).grownNone hg
  have hown1 : OwnF Hop.f 5 w.heap.size 136 w1 (.slice (some ⟨w.heap.size, 0, none⟩) l.length l.length) (List.replicate l.length ⟨0, 0, 0, 0, 0⟩) := by
    have := madeCells_flat Hop.flen (by decide) ⟨0, 0, 0, 0, 0⟩ l.length
    unfold OwnF
    rw [← this, List.length_replicate]
    exact hown
  clear hown hg
  go_wp2
  go_loopw [4] (fun i wr => ∃ (k : Nat) (xs : List Hop), k ≤ l.length ∧ i = .int .i64 k ∧ xs.length = l.length ∧ OwnF Hop.f 5 w.heap.size 136 wr (.slice (some ⟨w.heap.size, 0, none⟩) l.length l.length) xs ∧ xs.take k = l.take k ∧ Ext w wr) (fun i _ => l.length - (intOf i).toNat)
  case atStart => exact ⟨0, _, Nat.zero_le _, rfl, by simp, hown1, rfl, hx1⟩
  case round =>
    obtain ⟨k, xs, hk, rfl, hxl, hown, htk, hx⟩ := hrel
    have Htk := Lib.hid htk; clear htk
    have Hxl := Lib.hid hxl; clear hxl
    by_cases hlt : k < l.length
    · obtain ⟨b, off, rfl, hcc⟩ := Hop.at (hv.ext hx) k hlt
      go_wp2_with fail
      refine (l_toHop l[k] _).mono ?_
      rintro e w2 ⟨rfl, h2⟩
      have hx2 := hx.trans h2
      have hown2 := hown.ext h2
      have hcs := Hop.own_at hown2 k (by rw [Hxl.out]; exact hlt)
      have f0 := hown2.free (k * 5)
      have f1 := hown2.free (k * 5 + 1)
      have f2 := hown2.free (k * 5 + 2)
      have f3 := hown2.free (k * 5 + 3)
      have f4 := hown2.free (k * 5 + 4)
      obtain ⟨ho3, hg3⟩ := Hop.own_set hown2 k (by rw [Hxl.out]; exact hlt) l[k]
      have hx3 := hx2.grown hg3 (fun _ e => by cases e; exact Nat.le_refl _)
      go_wp2_with fail
      go_roundw
      case rel => exact ⟨k + 1, _, by omega, by go_num, by simpa using Hxl.out, ho3, take_set_snoc Htk.out Hxl.out hlt, hx3⟩
      case measure => simp [intOf]; omega
    · go_wp2
      go_ret
      refine ⟨_, rfl, ?_, hx⟩
      obtain rfl : xs = l := by
        have := Htk.out
        rwa [List.take_of_length_le (by rw [Hxl.out]; omega), List.take_of_length_le (by omega)] at this
      exact hown

theorem Hop.ext' {x y : Hop} (h0 : x.asn = y.asn) (h1 : x.ing = y.ing) (h2 : x.eg = y.eg) (h3 : x.exp = y.exp) (h4 : x.mac = y.mac) : x = y := by
  cases x; cases y; simp_all
theorem Hop.eq_iff (x y : Hop) : (decide (x = y) : Bool) = (!(x.asn != y.asn) && !(x.ing != y.ing) && !(x.eg != y.eg) && !(x.exp != y.exp) && !(x.mac != y.mac)) := by
  cases x; cases y; simp only [nbne, Hop.mk.injEq, Bool.decide_and, Bool.and_assoc]
set_option maxHeartbeats 400000 in
theorem l_eqHop (x y : Hop) (w : World) :
    Calls Try.prog 193 #[.agg #[.int .i64 x.asn, .int .i64 x.ing, .int .i64 x.eg, .int .i64 x.exp, .int .i64 x.mac], .agg #[.int .i64 y.asn, .int .i64 y.ing, .int .i64 y.eg, .int .i64 y.exp, .int .i64 y.mac]] w fun e w' => e = .returned (.bool (decide (x = y))) ∧ Ext w w' := by
  rw [Hop.eq_iff]
  go_enter Try.func193, Try.ntmps193
  go_wp2
  all_goals
    go_ret
    refine ⟨ret_bool ?_, ((Ext.refl _).alloc _).alloc _⟩
    simp only [*, Bool.not_true, Bool.not_false, Bool.and_true, Bool.and_false, Bool.false_and]
set_option maxRecDepth 100000 in
set_option maxHeartbeats 400000 in
theorem l_eqHopS (a b : List Hop) (va vb : Value) (w : World) (ha : RdS Hop.rep w va a) (hb : RdS Hop.rep w vb b) :
    Calls Try.prog 183 #[va, vb] w fun e w' => e = .returned (.bool (decide (a = b))) ∧ Ext w w' := by
  obtain ⟨oa, ca, rfl, hsa⟩ := ha.shape
  obtain ⟨ob, cb, rfl, hsb⟩ := hb.shape
  by_cases hne : a.length = b.length
  · have Hne := Lib.hid hne
    have t1 : ((a.length : Int) != (b.length : Int)) = false := by simp [hne]
    clear hne
    go_enter Try.func183, Try.ntmps183
    go_wp2
    go_loopw [5] (fun i wr => ∃ (k : Nat), k ≤ a.length ∧ i = .int .i64 k ∧ a.take k = b.take k ∧ Ext w wr) (fun i _ => a.length - (intOf i).toNat)
    case atStart => exact ⟨0, Nat.zero_le _, rfl, rfl, Ext.refl _⟩
    case round =>
      obtain ⟨k, hk, rfl, htk, hx⟩ := hrel
      have Htk := Lib.hid htk; clear htk
      by_cases hlt : k < a.length
      · have hlb : k < b.length := by rw [← Hne.out]; exact hlt
        obtain ⟨b1, off1, rfl, hc1⟩ := Hop.at (ha.ext hx) k hlt
        obtain ⟨b2, off2, rfl, hc2⟩ := Hop.at (hb.ext hx) k hlb
        go_wp2
        go_still_tail 8, (by kernel_rfl)
        go_wp2_with fail
        refine (l_eqHop a[k] b[k] _).mono ?_
        rintro e w2 ⟨rfl, h2⟩
        have hx2 := hx.trans (Ext.trans (by repeat (first | exact Ext.refl _ | apply Ext.drew | apply Ext.drewN)) h2)
        by_cases heq : a[k] = b[k]
        · have t2 : decide (a[k] = b[k]) = true := by simp [heq]
          have Heq := Lib.hid heq; clear heq
          go_wp2_with fail
          go_roundw
          case rel => exact ⟨k + 1, by omega, by go_num, take_snoc2 Htk.out hlt hlb Heq.out, hx2⟩
          case measure => simp [intOf]; omega
        · have t2 : decide (a[k] = b[k]) = false := by simp [heq]
          have hab : decide (a = b) = false := by
            rw [decide_eq_false_iff_not]; rintro rfl; exact heq rfl
          have Hab := Lib.hid hab; clear hab
          clear heq
          go_wp2_with fail
          go_ret
          exact ⟨ret_bool Hab.out.symm, hx2⟩
      · have hab : decide (a = b) = true := by
          have := Htk.out
          rw [List.take_of_length_le (by omega), List.take_of_length_le (by rw [← Hne.out]; omega)] at this
          simp [this]
        have Hab := Lib.hid hab; clear hab
        go_wp2
        go_ret
        exact ⟨ret_bool Hab.out.symm, hx⟩
  · have t1 : ((a.length : Int) != (b.length : Int)) = true := by simp [bne_iff_ne]; omega
    have hab : decide (a = b) = false := by
      rw [decide_eq_false_iff_not]; rintro rfl; exact hne rfl
    have Hab := Lib.hid hab; clear hab
    clear hne
    go_enter Try.func183, Try.ntmps183
    go_wp2
    go_ret
    exact ⟨ret_bool Hab.out.symm, Ext.refl _⟩
set_option maxHeartbeats 400000 in
theorem l_szHopS (l : List Hop) (v : Value) (left : Int) (w : World) (hv : RdS Hop.rep w v l) (h0 : 0 ≤ left) (h1 : left ≤ 1048576) :
    Calls Try.prog 168 #[v, .int .i64 left] w fun e w' => e = .returned (.int .i64 (szL left l.length)) ∧ Ext w w' := by
  obtain ⟨o, cap, rfl, hsm⟩ := hv.shape
  by_cases hlt : left - l.length < 0
  · have hz : szL left l.length = -1 := by unfold szL; rw [if_pos hlt]
    rw [hz]
    go_enter Try.func168, Try.ntmps168
    go_wp2
    go_ret
    exact ⟨rfl, Ext.refl _⟩
  · have hz : szL left l.length = left - l.length := by unfold szL; rw [if_neg hlt]
    rw [hz]
    go_enter Try.func168, Try.ntmps168
    go_wp2
    go_ret
    exact ⟨rfl, Ext.refl _⟩

def Hop.mk' (k : Int) : Hop := ⟨k, k + 1, k + 1 + 1, k + 1 + 1 + 1, k + 1 + 1 + 1 + 1⟩
set_option maxHeartbeats 1000000 in
theorem l_markHopS (l : List Hop) (v : Value) (k : Int) (base : Nat) (w : World) (hv : OwnF Hop.f 5 base 136 w v l) (h0 : 0 ≤ k) (h1 : k + 5 * l.length ≤ 4611686018427387904) :
    Calls Try.prog 166 #[v, .int .i64 k] w fun e w' => e = .returned (.int .i64 (k + 5 * l.length)) ∧ OwnF Hop.f 5 base 136 w' v (markL Hop.mk' 5 k l.length) ∧ w.grownBy w' v.ownBlock := by
  by_cases hl : 0 < l.length
  · obtain ⟨g, cap, rfl, hbg, hgs⟩ := hv.some_shape hl
    go_enter Try.func166, Try.ntmps166
    go_wp2
    go_loopw [1, 5] (fun kk i wr => ∃ (j : Nat) (xs : List Hop), j ≤ l.length ∧ i = .int .i64 j ∧ kk = .int .i64 (k + 5 * j) ∧ xs.length = l.length ∧ OwnF Hop.f 5 base 136 wr (.slice (some ⟨g, 0, none⟩) l.length cap) xs ∧ xs.take j = markL Hop.mk' 5 k j ∧ w.grownBy wr (some g)) (fun _ i _ => l.length - (intOf i).toNat)
    case atStart => exact ⟨0, l, Nat.zero_le _, rfl, by simp, rfl, hv, rfl, World.grownBy.refl _ _⟩
    case round =>
      obtain ⟨j, xs, hj, rfl, rfl, hxl, hown, htk, hx⟩ := hrel
      have Htk := Lib.hid htk; clear htk
      have Hxl := Lib.hid hxl; clear hxl
      by_cases hlt : j < l.length
      · have hcs := Hop.own_at hown j (by rw [Hxl.out]; exact hlt)
        have f0 := hown.free (j * 5)
        have f1 := hown.free (j * 5 + 1)
        have f2 := hown.free (j * 5 + 2)
        have f3 := hown.free (j * 5 + 3)
        have f4 := hown.free (j * 5 + 4)
        obtain ⟨ho3, hg3⟩ := Hop.own_set hown j (by rw [Hxl.out]; exact hlt) (Hop.mk' (k + 5 * j))
        have hx3 := hx.trans hg3
        go_wp2_with fail
        go_roundw
        case rel => exact ⟨j + 1, _, by omega, by go_num, by go_num, by simpa using Hxl.out, ho3, mark_snoc Htk.out (by rw [Hxl.out]; exact hlt), hx3⟩
        case measure => simp [intOf]; omega
      · obtain rfl : j = l.length := by omega
        go_wp2
        go_ret
        refine ⟨rfl, ?_, hx⟩
        have := Htk.out
        rw [List.take_of_length_le (by rw [Hxl.out]; exact Nat.le_refl _)] at this
        rw [this] at hown
        have hml : (markL Hop.mk' 5 k l.length).length = l.length := by simp [markL]
        exact hown
  · have hl0 : l = [] := List.eq_nil_of_length_eq_zero (by omega)
    subst hl0
    obtain ⟨o, cap, rfl, _⟩ := (OwnF.rd (hf := Hop.flen) hv).shape
    go_enter Try.func166, Try.ntmps166
    go_wp2
    refine wp_loop_rounds 1 ?_; rw [rounds_succ]
    go_wp2
    go_ret
    exact ⟨by simp, hv, World.grownBy.refl _ _⟩
set_option maxHeartbeats 1000000 in
theorem l_heldHopS (m : Nat) (v : Value) (k : Int) (w : World) (hv : RdS Hop.rep w v (markL Hop.mk' 5 k m)) (h0 : 0 ≤ k) (h1 : k + 5 * m ≤ 4611686018427387904) :
    Calls Try.prog 167 #[v, .int .i64 k] w fun e w' => e = .returned (.int .i64 (k + 5 * m)) ∧ Ext w w' := by
  have hml : (markL Hop.mk' 5 k m).length = m := by simp [markL]
  have Hml := Lib.hid hml
  obtain ⟨o, cap, rfl, hsm⟩ := hv.shape
  have HV := Lib.hid hv; clear hv
  rw [hml] at hsm ⊢
  rw [hml] at HV
  clear hml
  go_enter Try.func167, Try.ntmps167
  go_wp2
  go_loopw [1, 5] (fun kk i wr => ∃ (j : Nat), j ≤ m ∧ i = .int .i64 j ∧ kk = .int .i64 (k + 5 * j) ∧ Ext w wr) (fun _ i _ => m - (intOf i).toNat)
  case atStart => exact ⟨0, Nat.zero_le _, rfl, by simp, Ext.refl _⟩
  case round =>
    obtain ⟨j, hj, rfl, rfl, hx⟩ := hrel
    by_cases hlt : j < m
    · obtain ⟨b, off, rfl, hc⟩ := Hop.at (HV.out.ext hx) j (by rw [Hml.out]; exact hlt)
      simp only [markL_at, Hop.mk'] at hc
      go_wp2_with fail
      go_roundw
      case rel => exact ⟨j + 1, by omega, by go_num, by go_num, hx⟩
      case measure => simp [intOf]; omega
    · obtain rfl : j = m := by omega
      go_wp2
      go_ret
      exact ⟨rfl, hx⟩

def Hop.ok (x : Hop) : Prop := I64 x.asn ∧ I64 x.ing ∧ I64 x.eg ∧ I64 x.exp ∧ I64 x.mac
theorem Hop.opens : Opens Try.prog 194 Hop.rep Hop.ok := by
  intro H enc w base spare held fuel cs x h
  obtain ⟨xs, n, _, _, hcl, hxl, hf⟩ := DataW.trod_struct Try.underlying194 h
  have hC : Try.prog.cellsOf 194 = 5 := by kernel_rfl
  have hi1 : Try.prog.cellsOf 3 = 1 := by kernel_rfl
  have hb1 : Try.prog.cellsOf 4 = 1 := by kernel_rfl
  obtain ⟨c0, c1, c2, c3, c4, rfl⟩ := len5 (hcl.trans hC)
  obtain ⟨y0, y1, y2, y3, y4, rfl⟩ := len5 hxl
  have h0 := hf 0 _ rfl
  simp [hi1] at h0
  obtain ⟨n0, r0, k0⟩ := opens_int Try.underlying3 h0
  cases r0
  have h1 := hf 1 _ rfl
  simp [hi1] at h1
  obtain ⟨n1, r1, k1⟩ := opens_int Try.underlying3 h1
  cases r1
  have h2 := hf 2 _ rfl
  simp [hi1] at h2
  obtain ⟨n2, r2, k2⟩ := opens_int Try.underlying3 h2
  cases r2
  have h3 := hf 3 _ rfl
  simp [hi1] at h3
  obtain ⟨n3, r3, k3⟩ := opens_int Try.underlying3 h3
  cases r3
  have h4 := hf 4 _ rfl
  simp [hi1] at h4
  obtain ⟨n4, r4, k4⟩ := opens_int Try.underlying3 h4
  cases r4
  exact ⟨⟨n0, n1, n2, n3, n4⟩, rfl, k0, k1, k2, k3, k4⟩
theorem Hop.opensS : Opens Try.prog 172 Hop.rep.slice (fun l => ∀ x ∈ l, Hop.ok x) := opens_slice Try.underlying172 (by kernel_rfl) (by decide) Hop.opens

end Go.Proofs.Ytjjoijidlgkimaa
