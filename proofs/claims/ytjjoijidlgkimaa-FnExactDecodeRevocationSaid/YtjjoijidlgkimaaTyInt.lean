/- Slices of int: how they read, and the contracts of the laws' helper functions over them. No condition but the bounds that each theorem names. -/
import Derived.Test.YtjjoijidlgkimaaApp
namespace Go.Proofs.Ytjjoijidlgkimaa
open Go.ChangeShapes Go.WideShapes Go.ChangeAt Go.RowKit Go.Deep

def intF (n : Int) : List Value := [.int .i64 n]
theorem intFlen (n : Int) : (intF n).length = 1 := rfl
theorem intOne (n : Int) : ∀ u ∈ intF n, u.oneCell' = true := by
  intro u hu
  simp only [intF, List.mem_cons, List.not_mem_nil, or_false] at hu
  rw [hu]; rfl
theorem ints_rep {base : Nat} {e : TypeId} {w : World} {v : Value} {l : List Int} (h : OwnF intF 1 base e w v l) : RdS Rep.int w v l := OwnF.rd (hf := intFlen) h
theorem ints_at {w : World} {o : Option Addr} {m cap : Nat} {l : List Int} (h : RdS Rep.int w (.slice o m cap) l) (k : Nat) (hk : k < l.length) :
    ∃ b off, o = some ⟨b, off, none⟩ ∧ w.cell? ⟨b, off + k, none⟩ = some (.int .i64 l[k]) := by
  obtain ⟨b, off, ho, hc⟩ := RdS.at_flat h k hk
  exact ⟨b, off, ho, by simpa using hc 0 _ rfl⟩
theorem ints_own_at {base : Nat} {e : TypeId} {w : World} {g m cap : Nat} {l : List Int} (h : OwnF intF 1 base e w (.slice (some ⟨g, 0, none⟩) m cap) l) (k : Nat) (hk : k < l.length) :
    w.cell? ⟨g, k, none⟩ = some (.int .i64 l[k]) := by
  have hc := OwnF.cells_flat intFlen h k hk
  simpa using hc 0 _ rfl
theorem ints_sets {l : List Int} {k : Nat} (x : Int) : (l.flatMap intF).set k (.int .i64 x) = (l.set k x).flatMap intF := by
  induction l generalizing k with
  | nil => simp
  | cons a l ih =>
    cases k with
    | zero => rfl
    | succ k =>
      have := ih (k := k)
      simp only [List.flatMap_cons, List.set_cons_succ, ← this, intF]
      rfl
theorem ints_own_set {base : Nat} {e : TypeId} {w : World} {g m cap : Nat} {l : List Int} (h : OwnF intF 1 base e w (.slice (some ⟨g, 0, none⟩) m cap) l) (k : Nat) (x : Int) :
    OwnF intF 1 base e (w.setCell ⟨g, k, none⟩ (.int .i64 x)) (.slice (some ⟨g, 0, none⟩) m cap) (l.set k x) ∧ w.grownBy (w.setCell ⟨g, k, none⟩ (.int .i64 x)) (some g) := by
  obtain rfl := h.len
  obtain ⟨h0, g0⟩ := World.ownsRow.stored h k (.int .i64 x)
  rw [ints_sets] at h0
  refine ⟨?_, g0⟩
  unfold OwnF
  rw [List.length_set]
  exact h0
theorem Try.infoInt : (Try.prog.info? 3).map (fun i => (i.zero, i.size, i.bytes)) = some (some (.int .i64 0), 1, 8) := by kernel_rfl
theorem elemInt : Nonempty (Elem Try.prog 24 3 1 8) := Elem.mk' Try.underlying24 Try.infoInt rfl (by decide)
theorem opensInts : Opens Try.prog 24 Rep.int.slice (fun l => ∀ x ∈ l, I64 x) := opens_slice Try.underlying24 (by kernel_rfl) (by decide) (opens_int Try.underlying3)

set_option maxHeartbeats 400000 in
theorem l_eqIntS (a b : List Int) (va vb : Value) (w : World) (ha : RdS Rep.int w va a) (hb : RdS Rep.int w vb b) :
    Calls Try.prog 40 #[va, vb] w fun e w' => e = .returned (.bool (decide (a = b))) ∧ Ext w w' := by
  obtain ⟨oa, ca, rfl, hsa⟩ := ha.shape
  obtain ⟨ob, cb, rfl, hsb⟩ := hb.shape
  by_cases hne : a.length = b.length
  · have Hne := Lib.hid hne
    have t1 : ((a.length : Int) != (b.length : Int)) = false := by simp [hne]
    clear hne
    go_enter Try.func40, Try.ntmps40
    go_wp2
    go_loopw [5] (fun i wr => ∃ (k : Nat), k ≤ a.length ∧ i = .int .i64 k ∧ a.take k = b.take k ∧ Ext w wr) (fun i _ => a.length - (intOf i).toNat)
    case atStart => exact ⟨0, Nat.zero_le _, rfl, rfl, Ext.refl _⟩
    case round =>
      obtain ⟨k, hk, rfl, htk, hx⟩ := hrel
      have Htk := Lib.hid htk; clear htk
      by_cases hlt : k < a.length
      · have hlb : k < b.length := by rw [← Hne.out]; exact hlt
        obtain ⟨b1, off1, rfl, hc1⟩ := ints_at (ha.ext hx) k hlt
        obtain ⟨b2, off2, rfl, hc2⟩ := ints_at (hb.ext hx) k hlb
        obtain ⟨x, hxa⟩ : ∃ x, a[k] = x := ⟨_, rfl⟩
        obtain ⟨y, hyb⟩ : ∃ y, b[k] = y := ⟨_, rfl⟩
        rw [hxa] at hc1
        rw [hyb] at hc2
        have Hxa := Lib.hid hxa; clear hxa
        have Hyb := Lib.hid hyb; clear hyb
        go_wp2
        go_quiet (fail)
        go_wp2_with fail
        · have hxy : (x != y) = true := by assumption
          go_ret
          refine ⟨ret_bool (Eq.symm (decide_eq_false ?_)), hx.drewN _⟩
          rintro rfl
          rw [← Hxa.out, ← Hyb.out] at hxy
          simp at hxy
        · have hxy : (x != y) = false := by assumption
          exact ⟨⟨k + 1, by omega, by go_num, take_snoc2 Htk.out hlt hlb (Hxa.out.trans (Eq.trans (by simpa using hxy) Hyb.out.symm)), hx.drewN _⟩, by simp [intOf]; omega⟩
      · have hab : decide (a = b) = true := by
          have := Htk.out
          rw [List.take_of_length_le (by omega), List.take_of_length_le (by rw [← Hne.out]; omega)] at this
          simp [this]
        have Hab := Lib.hid hab; clear hab
        go_wp2
        go_ret
        exact ⟨ret_bool Hab.out.symm, hx⟩
  · have t1 : ((a.length : Int) != (b.length : Int)) = true := by simp [bne_iff_ne]; omega
    have hab : decide (a = b) = false := by
      rw [decide_eq_false_iff_not]; rintro rfl; exact hne rfl
    have Hab := Lib.hid hab; clear hab
    clear hne
    go_enter Try.func40, Try.ntmps40
    go_wp2
    go_ret
    exact ⟨ret_bool Hab.out.symm, Ext.refl _⟩

def intMk (k : Int) : Int := k
set_option maxHeartbeats 1000000 in
theorem l_markIntS (l : List Int) (v : Value) (k : Int) (base : Nat) (w : World) (hv : OwnF intF 1 base 3 w v l) (h0 : 0 ≤ k) (h1 : k + 1 * l.length ≤ 4611686018427387904) :
    Calls Try.prog 43 #[v, .int .i64 k] w fun e w' => e = .returned (.int .i64 (k + 1 * l.length)) ∧ OwnF intF 1 base 3 w' v (markL intMk 1 k l.length) ∧ w.grownBy w' v.ownBlock := by
  by_cases hl : 0 < l.length
  · obtain ⟨g, cap, rfl, hbg, hgs⟩ := hv.some_shape hl
    go_enter Try.func43, Try.ntmps43
    go_wp2
    go_loopw [1, 5] (fun kk i wr => ∃ (j : Nat) (xs : List Int), j ≤ l.length ∧ i = .int .i64 j ∧ kk = .int .i64 (k + j) ∧ xs.length = l.length ∧ OwnF intF 1 base 3 wr (.slice (some ⟨g, 0, none⟩) l.length cap) xs ∧ xs.take j = markL intMk 1 k j ∧ w.grownBy wr (some g)) (fun _ i _ => l.length - (intOf i).toNat)
    case atStart => exact ⟨0, l, Nat.zero_le _, rfl, by simp, rfl, hv, rfl, World.grownBy.refl _ _⟩
    case round =>
      obtain ⟨j, xs, hj, rfl, rfl, hxl, hown, htk, hx⟩ := hrel
      have Htk := Lib.hid htk; clear htk
      have Hxl := Lib.hid hxl; clear hxl
      by_cases hlt : j < l.length
      · have hcs := ints_own_at hown j (by rw [Hxl.out]; exact hlt)
        have f0 := hown.free j
        obtain ⟨ho3, hg3⟩ := ints_own_set hown j (intMk (k + j))
        have hx3 := hx.trans hg3
        have hms := mark_snoc (j := j) Htk.out (by rw [Hxl.out]; exact hlt)
        simp only [Int.natCast_one, Int.one_mul] at hms
        have HMS := Lib.hid hms; clear hms
        go_wp2_with fail
        all_goals
          go_roundw
          case rel => exact ⟨j + 1, _, by omega, by go_num, by go_num, by simpa using Hxl.out, ho3, HMS.out, hx3⟩
          case measure => simp [intOf]; omega
      · obtain rfl : j = l.length := by omega
        go_wp2
        go_ret
        refine ⟨ret_int (by omega), ?_, hx⟩
        have := Htk.out
        rw [List.take_of_length_le (by rw [Hxl.out]; exact Nat.le_refl _)] at this
        rw [this] at hown
        have hml : (markL intMk 1 k l.length).length = l.length := by simp [markL]
        exact hown
  · have hl0 : l = [] := List.eq_nil_of_length_eq_zero (by omega)
    subst hl0
    obtain ⟨o, cap, rfl, _⟩ := (ints_rep hv).shape
    go_enter Try.func43, Try.ntmps43
    go_wp2
    refine wp_loop_rounds 1 ?_; rw [rounds_succ]
    go_wp2
    go_ret
    exact ⟨by simp, hv, World.grownBy.refl _ _⟩
set_option maxHeartbeats 1000000 in
theorem l_heldIntS (m : Nat) (v : Value) (k : Int) (w : World) (hv : RdS Rep.int w v (markL intMk 1 k m)) (h0 : 0 ≤ k) (h1 : k + 1 * m ≤ 4611686018427387904) :
    Calls Try.prog 44 #[v, .int .i64 k] w fun e w' => e = .returned (.int .i64 (k + 1 * m)) ∧ Ext w w' := by
  have hml : (markL intMk 1 k m).length = m := by simp [markL]
  have Hml := Lib.hid hml
  obtain ⟨o, cap, rfl, hsm⟩ := hv.shape
  have HV := Lib.hid hv; clear hv
  rw [hml] at hsm ⊢
  rw [hml] at HV
  clear hml
  go_enter Try.func44, Try.ntmps44
  go_wp2
  go_loopw [1, 5] (fun kk i wr => ∃ (j : Nat), j ≤ m ∧ i = .int .i64 j ∧ kk = .int .i64 (k + j) ∧ Ext w wr) (fun _ i _ => m - (intOf i).toNat)
  case atStart => exact ⟨0, Nat.zero_le _, rfl, by simp, Ext.refl _⟩
  case round =>
    obtain ⟨j, hj, rfl, rfl, hx⟩ := hrel
    by_cases hlt : j < m
    · obtain ⟨b, off, rfl, hc⟩ := ints_at (HV.out.ext hx) j (by rw [Hml.out]; exact hlt)
      simp only [markL_at, intMk, Int.natCast_one, Int.one_mul] at hc
      go_wp2_with fail
      all_goals
        go_roundw
        case rel => exact ⟨j + 1, by omega, by go_num, by go_num, hx⟩
        case measure => simp [intOf]; omega
    · obtain rfl : j = m := by omega
      go_wp2
      go_ret
      exact ⟨ret_int (by omega), hx⟩

end Go.Proofs.Ytjjoijidlgkimaa
