/- The data of the struct Step (Step), how a slice of it reads, and the contracts of the laws' helper functions over it. No condition but the bounds that each theorem names. -/
import Derived.Test.YtiabfgebfjmplaaGreatOpen
namespace Go.Proofs.YtiabfgebfjmplaaGreat
open Go.ChangeShapes Go.WideShapes Go.ChangeAt Go.RowKit Go.Deep

structure Step where
  asn : Int
  ing : Int
  eg : Int
  deriving DecidableEq
def Step.f (x : Step) : List Value := [.int .i64 x.asn, .int .i64 x.ing, .int .i64 x.eg]
theorem Step.flen (x : Step) : x.f.length = 3 := rfl
def Step.rep : Rep Step := Rep.flat 3 Step.f Step.flen
theorem Step.one (x : Step) : ∀ u ∈ x.f, u.oneCell' = true := by
  intro u hu
  simp only [Step.f, List.mem_cons, List.not_mem_nil, or_false] at hu
  rcases hu with rfl | rfl | rfl <;> rfl
theorem Step.at {w : World} {o : Option Addr} {m cap : Nat} {l : List Step} (h : RdS Step.rep w (.slice o m cap) l) (k : Nat) (hk : k < l.length) :
    ∃ b off, o = some ⟨b, off, none⟩ ∧ w.cell? ⟨b, off + k * 3, none⟩ = some (.int .i64 l[k].asn) ∧ w.cell? ⟨b, off + k * 3 + 1, none⟩ = some (.int .i64 l[k].ing) ∧ w.cell? ⟨b, off + k * 3 + 2, none⟩ = some (.int .i64 l[k].eg) := by
  obtain ⟨b, off, ho, hc⟩ := RdS.at_flat h k hk
  exact ⟨b, off, ho, by simpa using hc 0 _ rfl, by simpa using hc 1 _ rfl, by simpa using hc 2 _ rfl⟩
theorem Step.at_ext {w w' : World} {b off k : Nat} {l : List Step} {hk : k < l.length} (x : Ext w w') (h : w.cell? ⟨b, off + k * 3, none⟩ = some (.int .i64 l[k].asn) ∧ w.cell? ⟨b, off + k * 3 + 1, none⟩ = some (.int .i64 l[k].ing) ∧ w.cell? ⟨b, off + k * 3 + 2, none⟩ = some (.int .i64 l[k].eg)) :
    w'.cell? ⟨b, off + k * 3, none⟩ = some (.int .i64 l[k].asn) ∧ w'.cell? ⟨b, off + k * 3 + 1, none⟩ = some (.int .i64 l[k].ing) ∧ w'.cell? ⟨b, off + k * 3 + 2, none⟩ = some (.int .i64 l[k].eg) := by
  obtain ⟨h0, h1, h2⟩ := h
  exact ⟨x.cell h0, x.cell h1, x.cell h2⟩
theorem Step.own_at {base : Nat} {e : TypeId} {w : World} {g m cap : Nat} {l : List Step} (h : OwnF Step.f 3 base e w (.slice (some ⟨g, 0, none⟩) m cap) l) (k : Nat) (hk : k < l.length) :
    w.cell? ⟨g, k * 3, none⟩ = some (.int .i64 l[k].asn) ∧ w.cell? ⟨g, k * 3 + 1, none⟩ = some (.int .i64 l[k].ing) ∧ w.cell? ⟨g, k * 3 + 2, none⟩ = some (.int .i64 l[k].eg) := by
  have hc := OwnF.cells_flat Step.flen h k hk
  exact ⟨by simpa using hc 0 _ rfl, by simpa using hc 1 _ rfl, by simpa using hc 2 _ rfl⟩
theorem Tryz.infoStep : (Tryz.prog.info? 85).map (fun i => (i.zero, i.size, i.bytes)) = some (some (.agg #[.int .i64 0, .int .i64 0, .int .i64 0]), 3, 24) := by kernel_rfl
theorem Step.sets {l : List Step} {k : Nat} (hk : k < l.length) (x : Step) : ((((l.flatMap Step.f).set (k * 3) (.int .i64 x.asn)).set (k * 3 + 1) (.int .i64 x.ing)).set (k * 3 + 2) (.int .i64 x.eg)) = (l.set k x).flatMap Step.f := by
  induction l generalizing k with
  | nil => simp at hk
  | cons a l ih =>
    cases k with
    | zero => rfl
    | succ k =>
      have := ih (k := k) (by simpa using hk)
      simp only [List.flatMap_cons, List.set_cons_succ, ← this, Step.f]
      rw [show (k + 1) * 3 = k * 3 + 1 + 1 + 1 from by omega]
      rfl
theorem Step.own_set {base : Nat} {e : TypeId} {w : World} {g m cap : Nat} {l : List Step} (h : OwnF Step.f 3 base e w (.slice (some ⟨g, 0, none⟩) m cap) l) (k : Nat) (hk : k < l.length) (x : Step) :
    OwnF Step.f 3 base e (((w.setCell ⟨g, k * 3, none⟩ (.int .i64 x.asn)).setCell ⟨g, k * 3 + 1, none⟩ (.int .i64 x.ing)).setCell ⟨g, k * 3 + 2, none⟩ (.int .i64 x.eg)) (.slice (some ⟨g, 0, none⟩) m cap) (l.set k x) ∧
      w.grownBy (((w.setCell ⟨g, k * 3, none⟩ (.int .i64 x.asn)).setCell ⟨g, k * 3 + 1, none⟩ (.int .i64 x.ing)).setCell ⟨g, k * 3 + 2, none⟩ (.int .i64 x.eg)) (some g) := by
  obtain rfl := h.len
  obtain ⟨h0, g0⟩ := World.ownsRow.stored h (k * 3) (.int .i64 x.asn)
  obtain ⟨h1, g1⟩ := World.ownsRow.stored h0 (k * 3 + 1) (.int .i64 x.ing)
  obtain ⟨h2, g2⟩ := World.ownsRow.stored h1 (k * 3 + 2) (.int .i64 x.eg)
  rw [Step.sets hk] at h2
  refine ⟨?_, ((g0.trans g1).trans g2)⟩
  unfold OwnF
  rw [List.length_set]
  exact h2


theorem Step.ext' {x y : Step} (h0 : x.asn = y.asn) (h1 : x.ing = y.ing) (h2 : x.eg = y.eg) : x = y := by
  cases x; cases y; simp_all
theorem Step.eq_iff (x y : Step) : (decide (x = y) : Bool) = (!(x.asn != y.asn) && !(x.ing != y.ing) && !(x.eg != y.eg)) := by
  cases x; cases y; simp only [nbne, Step.mk.injEq, Bool.decide_and, Bool.and_assoc]
set_option maxHeartbeats 400000 in
theorem l_eqStep (x y : Step) (w : World) :
    Calls Tryz.prog 94 #[.agg #[.int .i64 x.asn, .int .i64 x.ing, .int .i64 x.eg], .agg #[.int .i64 y.asn, .int .i64 y.ing, .int .i64 y.eg]] w fun e w' => e = .returned (.bool (decide (x = y))) ∧ Ext w w' := by
  rw [Step.eq_iff]
  go_enter Tryz.func94, Tryz.ntmps94
  go_wp2
  all_goals
    go_ret
    refine ⟨ret_bool ?_, ((Ext.refl _).alloc _).alloc _⟩
    simp only [*, Bool.not_true, Bool.not_false, Bool.and_true, Bool.and_false, Bool.false_and]
set_option maxRecDepth 100000 in
set_option maxHeartbeats 400000 in
theorem l_eqStepS (a b : List Step) (va vb : Value) (w : World) (ha : RdS Step.rep w va a) (hb : RdS Step.rep w vb b) :
    Calls Tryz.prog 52 #[va, vb] w fun e w' => e = .returned (.bool (decide (a = b))) ∧ Ext w w' := by
  obtain ⟨oa, ca, rfl, hsa⟩ := ha.shape
  obtain ⟨ob, cb, rfl, hsb⟩ := hb.shape
  by_cases hne : a.length = b.length
  · have Hne := Lib.hid hne
    have t1 : ((a.length : Int) != (b.length : Int)) = false := by simp [hne]
    clear hne
    go_enter Tryz.func52, Tryz.ntmps52
    go_wp2
    go_loopw [5] (fun i wr => ∃ (k : Nat), k ≤ a.length ∧ i = .int .i64 k ∧ a.take k = b.take k ∧ Ext w wr) (fun i _ => a.length - (intOf i).toNat)
    case atStart => exact ⟨0, Nat.zero_le _, rfl, rfl, Ext.refl _⟩
    case round =>
      obtain ⟨k, hk, rfl, htk, hx⟩ := hrel
      have Htk := Lib.hid htk; clear htk
      by_cases hlt : k < a.length
      · have hlb : k < b.length := by rw [← Hne.out]; exact hlt
        obtain ⟨b1, off1, rfl, hc1⟩ := Step.at (ha.ext hx) k hlt
        obtain ⟨b2, off2, rfl, hc2⟩ := Step.at (hb.ext hx) k hlb
        go_wp2
        go_still_tail 8, (by kernel_rfl)
        go_wp2_with fail
        refine (l_eqStep a[k] b[k] _).mono ?_
        rintro e w2 ⟨rfl, h2⟩
        have hx2 := hx.trans (Ext.trans (by repeat (first | exact Ext.refl _ | apply Ext.drew | apply Ext.drewN)) h2)
        by_cases heq : a[k] = b[k]
        · have t2 : decide (a[k] = b[k]) = true := by simp [heq]
          have Heq := Lib.hid heq; clear heq
          go_wp2_with fail
          go_roundw
          case rel => exact ⟨k + 1, by omega, by go_num, take_snoc2 Htk.out hlt hlb Heq.out, hx2⟩
          case measure => simp [intOf]; omega
        · have t2 : decide (a[k] = b[k]) = false := by simp [heq]
          have hab : decide (a = b) = false := by
            rw [decide_eq_false_iff_not]; rintro rfl; exact heq rfl
          have Hab := Lib.hid hab; clear hab
          clear heq
          go_wp2_with fail
          go_ret
          exact ⟨ret_bool Hab.out.symm, hx2⟩
      · have hab : decide (a = b) = true := by
          have := Htk.out
          rw [List.take_of_length_le (by omega), List.take_of_length_le (by rw [← Hne.out]; omega)] at this
          simp [this]
        have Hab := Lib.hid hab; clear hab
        go_wp2
        go_ret
        exact ⟨ret_bool Hab.out.symm, hx⟩
  · have t1 : ((a.length : Int) != (b.length : Int)) = true := by simp [bne_iff_ne]; omega
    have hab : decide (a = b) = false := by
      rw [decide_eq_false_iff_not]; rintro rfl; exact hne rfl
    have Hab := Lib.hid hab; clear hab
    clear hne
    go_enter Tryz.func52, Tryz.ntmps52
    go_wp2
    go_ret
    exact ⟨ret_bool Hab.out.symm, Ext.refl _⟩

def Step.mk' (k : Int) : Step := ⟨k, k + 1, k + 1 + 1⟩
set_option maxHeartbeats 1000000 in
theorem l_markStepS (l : List Step) (v : Value) (k : Int) (base : Nat) (w : World) (hv : OwnF Step.f 3 base 85 w v l) (h0 : 0 ≤ k) (h1 : k + 3 * l.length ≤ 4611686018427387904) :
    Calls Tryz.prog 60 #[v, .int .i64 k] w fun e w' => e = .returned (.int .i64 (k + 3 * l.length)) ∧ OwnF Step.f 3 base 85 w' v (markL Step.mk' 3 k l.length) ∧ w.grownBy w' v.ownBlock := by
  by_cases hl : 0 < l.length
  · obtain ⟨g, cap, rfl, hbg, hgs⟩ := hv.some_shape hl
    go_enter Tryz.func60, Tryz.ntmps60
    go_wp2
    go_loopw [1, 5] (fun kk i wr => ∃ (j : Nat) (xs : List Step), j ≤ l.length ∧ i = .int .i64 j ∧ kk = .int .i64 (k + 3 * j) ∧ xs.length = l.length ∧ OwnF Step.f 3 base 85 wr (.slice (some ⟨g, 0, none⟩) l.length cap) xs ∧ xs.take j = markL Step.mk' 3 k j ∧ w.grownBy wr (some g)) (fun _ i _ => l.length - (intOf i).toNat)
    case atStart => exact ⟨0, l, Nat.zero_le _, rfl, by simp, rfl, hv, rfl, World.grownBy.refl _ _⟩
    case round =>
      obtain ⟨j, xs, hj, rfl, rfl, hxl, hown, htk, hx⟩ := hrel
      have Htk := Lib.hid htk; clear htk
      have Hxl := Lib.hid hxl; clear hxl
      by_cases hlt : j < l.length
      · have hcs := Step.own_at hown j (by rw [Hxl.out]; exact hlt)
        have f0 := hown.free (j * 3)
        have f1 := hown.free (j * 3 + 1)
        have f2 := hown.free (j * 3 + 2)
        obtain ⟨ho3, hg3⟩ := Step.own_set hown j (by rw [Hxl.out]; exact hlt) (Step.mk' (k + 3 * j))
        have hx3 := hx.trans hg3
        go_wp2_with fail
        go_roundw
        case rel => exact ⟨j + 1, _, by omega, by go_num, by go_num, by simpa using Hxl.out, ho3, mark_snoc Htk.out (by rw [Hxl.out]; exact hlt), hx3⟩
        case measure => simp [intOf]; omega
      · obtain rfl : j = l.length := by omega
        go_wp2
        go_ret
        refine ⟨rfl, ?_, hx⟩
        have := Htk.out
        rw [List.take_of_length_le (by rw [Hxl.out]; exact Nat.le_refl _)] at this
        rw [this] at hown
        have hml : (markL Step.mk' 3 k l.length).length = l.length := by simp [markL]
        exact hown
  · have hl0 : l = [] := List.eq_nil_of_length_eq_zero (by omega)
    subst hl0
    obtain ⟨o, cap, rfl, _⟩ := (OwnF.rd (hf := Step.flen) hv).shape
    go_enter Tryz.func60, Tryz.ntmps60
    go_wp2
    refine wp_loop_rounds 1 ?_; rw [rounds_succ]
    go_wp2
    go_ret
    exact ⟨by simp, hv, World.grownBy.refl _ _⟩
set_option maxHeartbeats 1000000 in
theorem l_heldStepS (m : Nat) (v : Value) (k : Int) (w : World) (hv : RdS Step.rep w v (markL Step.mk' 3 k m)) (h0 : 0 ≤ k) (h1 : k + 3 * m ≤ 4611686018427387904) :
    Calls Tryz.prog 61 #[v, .int .i64 k] w fun e w' => e = .returned (.int .i64 (k + 3 * m)) ∧ Ext w w' := by
  have hml : (markL Step.mk' 3 k m).length = m := by simp [markL]
  have Hml := Lib.hid hml
  obtain ⟨o, cap, rfl, hsm⟩ := hv.shape
  have HV := Lib.hid hv; clear hv
  rw [hml] at hsm ⊢
  rw [hml] at HV
  clear hml
  go_enter Tryz.func61, Tryz.ntmps61
  go_wp2
  go_loopw [1, 5] (fun kk i wr => ∃ (j : Nat), j ≤ m ∧ i = .int .i64 j ∧ kk = .int .i64 (k + 3 * j) ∧ Ext w wr) (fun _ i _ => m - (intOf i).toNat)
  case atStart => exact ⟨0, Nat.zero_le _, rfl, by simp, Ext.refl _⟩
  case round =>
    obtain ⟨j, hj, rfl, rfl, hx⟩ := hrel
    by_cases hlt : j < m
    · obtain ⟨b, off, rfl, hc⟩ := Step.at (HV.out.ext hx) j (by rw [Hml.out]; exact hlt)
      simp only [markL_at, Step.mk'] at hc
      go_wp2_with fail
      go_roundw
      case rel => exact ⟨j + 1, by omega, by go_num, by go_num, hx⟩
      case measure => simp [intOf]; omega
    · obtain rfl : j = m := by omega
      go_wp2
      go_ret
      exact ⟨rfl, hx⟩

def Step.ok (x : Step) : Prop := I64 x.asn ∧ I64 x.ing ∧ I64 x.eg

end Go.Proofs.YtiabfgebfjmplaaGreat
