/- Slices of uint8: how they read, and the contracts of the laws' helper functions over them. No condition but the bounds that each theorem names. -/
import Derived.Test.YtjjoijidlgkimaaApp
namespace Go.Proofs.Ytjjoijidlgkimaa
open Go.ChangeShapes Go.WideShapes Go.ChangeAt Go.RowKit Go.Deep

def byteF (n : Int) : List Value := [.int .u8 n]
theorem byteFlen (n : Int) : (byteF n).length = 1 := rfl
theorem byteOne (n : Int) : ∀ u ∈ byteF n, u.oneCell' = true := by
  intro u hu
  simp only [byteF, List.mem_cons, List.not_mem_nil, or_false] at hu
  rw [hu]; rfl
theorem bytes_rep {base : Nat} {e : TypeId} {w : World} {v : Value} {l : List Int} (h : OwnF byteF 1 base e w v l) : RdS Rep.byte w v l := OwnF.rd (hf := byteFlen) h
theorem bytes_at {w : World} {o : Option Addr} {m cap : Nat} {l : List Int} (h : RdS Rep.byte w (.slice o m cap) l) (k : Nat) (hk : k < l.length) :
    ∃ b off, o = some ⟨b, off, none⟩ ∧ w.cell? ⟨b, off + k, none⟩ = some (.int .u8 l[k]) := by
  obtain ⟨b, off, ho, hc⟩ := RdS.at_flat h k hk
  exact ⟨b, off, ho, by simpa using hc 0 _ rfl⟩
theorem bytes_own_at {base : Nat} {e : TypeId} {w : World} {g m cap : Nat} {l : List Int} (h : OwnF byteF 1 base e w (.slice (some ⟨g, 0, none⟩) m cap) l) (k : Nat) (hk : k < l.length) :
    w.cell? ⟨g, k, none⟩ = some (.int .u8 l[k]) := by
  have hc := OwnF.cells_flat byteFlen h k hk
  simpa using hc 0 _ rfl
theorem bytes_sets {l : List Int} {k : Nat} (x : Int) : (l.flatMap byteF).set k (.int .u8 x) = (l.set k x).flatMap byteF := by
  induction l generalizing k with
  | nil => simp
  | cons a l ih =>
    cases k with
    | zero => rfl
    | succ k =>
      have := ih (k := k)
      simp only [List.flatMap_cons, List.set_cons_succ, ← this, byteF]
      rfl
theorem bytes_own_set {base : Nat} {e : TypeId} {w : World} {g m cap : Nat} {l : List Int} (h : OwnF byteF 1 base e w (.slice (some ⟨g, 0, none⟩) m cap) l) (k : Nat) (x : Int) :
    OwnF byteF 1 base e (w.setCell ⟨g, k, none⟩ (.int .u8 x)) (.slice (some ⟨g, 0, none⟩) m cap) (l.set k x) ∧ w.grownBy (w.setCell ⟨g, k, none⟩ (.int .u8 x)) (some g) := by
  obtain rfl := h.len
  obtain ⟨h0, g0⟩ := World.ownsRow.stored h k (.int .u8 x)
  rw [bytes_sets] at h0
  refine ⟨?_, g0⟩
  unfold OwnF
  rw [List.length_set]
  exact h0
theorem Try.infoByte : (Try.prog.info? 5).map (fun i => (i.zero, i.size, i.bytes)) = some (some (.int .u8 0), 1, 1) := by kernel_rfl
theorem elemByte : Nonempty (Elem Try.prog 22 5 1 1) := Elem.mk' Try.underlying22 Try.infoByte rfl (by decide)
theorem opensBytes : Opens Try.prog 22 Rep.byte.slice (fun l => ∀ x ∈ l, U8 x) := opens_slice Try.underlying22 (by kernel_rfl) (by decide) (opens_byte Try.underlying5)
set_option maxHeartbeats 400000 in
theorem l_toByteS (l : List Int) (v : Value) (w : World) (hv : RdS Rep.byte w v l) (hl : l.length ≤ 1048576) :
    Calls Try.prog 32 #[v] w fun e w' => ∃ v', e = .returned v' ∧ OwnF byteF 1 w.heap.size 5 w' v' l ∧ Ext w w' := by
  obtain ⟨o, cap, rfl, hsm⟩ := hv.shape
  obtain ⟨i0, hi, hz0, hz1, hz2⟩ := info_parts Try.infoByte
  have Hi := Lib.hid hi; clear hi
  go_enter Try.func32, Try.ntmps32
  go_wp2_with (with_reducible refine wpList_make_full _ rfl _ _ 22 rfl w.heap.size 5 i0 _ 1 Try.underlying22 Hi.out hz0 hz1 .i64 .i64 _ _ l.length rfl rfl rfl rfl ?_ ?_ ?_ ?_)
  · rw [hz2]; omega
  · unfold maxLen; omega
  · exact Nat.le_refl _
  intro w1 hown hg
  have hx1 : Ext w w1 := (Ext.refl w).grownNone hg
  have hown1 : OwnF byteF 1 w.heap.size 5 w1 (.slice (some ⟨w.heap.size, 0, none⟩) l.length l.length) (List.replicate l.length 0) := by
    have := madeCells_flat byteFlen (by decide) 0 l.length
    rw [Nat.mul_one] at this
    unfold OwnF
    rw [← this, List.length_replicate]
    exact hown
  clear hown hg
  go_wp2
  go_loopw [4] (fun i wr => ∃ (k : Nat) (xs : List Int), k ≤ l.length ∧ i = .int .i64 k ∧ xs.length = l.length ∧ OwnF byteF 1 w.heap.size 5 wr (.slice (some ⟨w.heap.size, 0, none⟩) l.length l.length) xs ∧ xs.take k = l.take k ∧ Ext w wr) (fun i _ => l.length - (intOf i).toNat)
  case atStart => exact ⟨0, _, Nat.zero_le _, rfl, by simp, hown1, rfl, hx1⟩
  case round =>
    obtain ⟨k, xs, hk, rfl, hxl, hown, htk, hx⟩ := hrel
    have Htk := Lib.hid htk; clear htk
    have Hxl := Lib.hid hxl; clear hxl
    by_cases hlt : k < l.length
    · obtain ⟨b, off, rfl, hcc⟩ := bytes_at (hv.ext hx) k hlt
      have hcs := bytes_own_at hown k (by rw [Hxl.out]; exact hlt)
      have f0 := hown.free k
      obtain ⟨ho3, hg3⟩ := bytes_own_set hown k l[k]
      have hx3 := hx.grown hg3 (fun _ e => by cases e; exact Nat.le_refl _)
      go_wp2_with fail
      all_goals
        go_roundw
        case rel => exact ⟨k + 1, _, by omega, by go_num, by simpa using Hxl.out, ho3, take_set_snoc Htk.out Hxl.out hlt, hx3⟩
        case measure => simp [intOf]; omega
    · go_wp2
      go_ret
      refine ⟨_, rfl, ?_, hx⟩
      obtain rfl : xs = l := by
        have := Htk.out
        rwa [List.take_of_length_le (by rw [Hxl.out]; omega), List.take_of_length_le (by omega)] at this
      exact hown

set_option maxHeartbeats 400000 in
theorem l_eqByteS (a b : List Int) (va vb : Value) (w : World) (ha : RdS Rep.byte w va a) (hb : RdS Rep.byte w vb b) :
    Calls Try.prog 35 #[va, vb] w fun e w' => e = .returned (.bool (decide (a = b))) ∧ Ext w w' := by
  obtain ⟨oa, ca, rfl, hsa⟩ := ha.shape
  obtain ⟨ob, cb, rfl, hsb⟩ := hb.shape
  by_cases hne : a.length = b.length
  · have Hne := Lib.hid hne
    have t1 : ((a.length : Int) != (b.length : Int)) = false := by simp [hne]
    clear hne
    go_enter Try.func35, Try.ntmps35
    go_wp2
    go_loopw [5] (fun i wr => ∃ (k : Nat), k ≤ a.length ∧ i = .int .i64 k ∧ a.take k = b.take k ∧ Ext w wr) (fun i _ => a.length - (intOf i).toNat)
    case atStart => exact ⟨0, Nat.zero_le _, rfl, rfl, Ext.refl _⟩
    case round =>
      obtain ⟨k, hk, rfl, htk, hx⟩ := hrel
      have Htk := Lib.hid htk; clear htk
      by_cases hlt : k < a.length
      · have hlb : k < b.length := by rw [← Hne.out]; exact hlt
        obtain ⟨b1, off1, rfl, hc1⟩ := bytes_at (ha.ext hx) k hlt
        obtain ⟨b2, off2, rfl, hc2⟩ := bytes_at (hb.ext hx) k hlb
        obtain ⟨x, hxa⟩ : ∃ x, a[k] = x := ⟨_, rfl⟩
        obtain ⟨y, hyb⟩ : ∃ y, b[k] = y := ⟨_, rfl⟩
        rw [hxa] at hc1
        rw [hyb] at hc2
        have Hxa := Lib.hid hxa; clear hxa
        have Hyb := Lib.hid hyb; clear hyb
        go_wp2
        go_quiet (fail)
        go_wp2_with fail
        · have hxy : (x != y) = true := by assumption
          go_ret
          refine ⟨ret_bool (Eq.symm (decide_eq_false ?_)), hx.drewN _⟩
          rintro rfl
          rw [← Hxa.out, ← Hyb.out] at hxy
          simp at hxy
        · have hxy : (x != y) = false := by assumption
          exact ⟨⟨k + 1, by omega, by go_num, take_snoc2 Htk.out hlt hlb (Hxa.out.trans (Eq.trans (by simpa using hxy) Hyb.out.symm)), hx.drewN _⟩, by simp [intOf]; omega⟩
      · have hab : decide (a = b) = true := by
          have := Htk.out
          rw [List.take_of_length_le (by omega), List.take_of_length_le (by rw [← Hne.out]; omega)] at this
          simp [this]
        have Hab := Lib.hid hab; clear hab
        go_wp2
        go_ret
        exact ⟨ret_bool Hab.out.symm, hx⟩
  · have t1 : ((a.length : Int) != (b.length : Int)) = true := by simp [bne_iff_ne]; omega
    have hab : decide (a = b) = false := by
      rw [decide_eq_false_iff_not]; rintro rfl; exact hne rfl
    have Hab := Lib.hid hab; clear hab
    clear hne
    go_enter Try.func35, Try.ntmps35
    go_wp2
    go_ret
    exact ⟨ret_bool Hab.out.symm, Ext.refl _⟩

set_option maxHeartbeats 400000 in
theorem l_szByteS (l : List Int) (v : Value) (left : Int) (w : World) (hv : RdS Rep.byte w v l) (h0 : 0 ≤ left) (h1 : left ≤ 1048576) :
    Calls Try.prog 101 #[v, .int .i64 left] w fun e w' => e = .returned (.int .i64 (szL left l.length)) ∧ Ext w w' := by
  obtain ⟨o, cap, rfl, hsm⟩ := hv.shape
  by_cases hlt : left - l.length < 0
  · have hz : szL left l.length = -1 := by unfold szL; rw [if_pos hlt]
    rw [hz]
    go_enter Try.func101, Try.ntmps101
    go_wp2
    go_ret
    exact ⟨rfl, Ext.refl _⟩
  · have hz : szL left l.length = left - l.length := by unfold szL; rw [if_neg hlt]
    rw [hz]
    go_enter Try.func101, Try.ntmps101
    go_wp2
    go_ret
    exact ⟨rfl, Ext.refl _⟩
def byteMk (k : Int) : Int := k % 256
set_option maxHeartbeats 1000000 in
theorem l_markByteS (l : List Int) (v : Value) (k : Int) (base : Nat) (w : World) (hv : OwnF byteF 1 base 5 w v l) (h0 : 0 ≤ k) (h1 : k + 1 * l.length ≤ 4611686018427387904) :
    Calls Try.prog 113 #[v, .int .i64 k] w fun e w' => e = .returned (.int .i64 (k + 1 * l.length)) ∧ OwnF byteF 1 base 5 w' v (markL byteMk 1 k l.length) ∧ w.grownBy w' v.ownBlock := by
  by_cases hl : 0 < l.length
  · obtain ⟨g, cap, rfl, hbg, hgs⟩ := hv.some_shape hl
    go_enter Try.func113, Try.ntmps113
    go_wp2
    go_loopw [1, 5] (fun kk i wr => ∃ (j : Nat) (xs : List Int), j ≤ l.length ∧ i = .int .i64 j ∧ kk = .int .i64 (k + j) ∧ xs.length = l.length ∧ OwnF byteF 1 base 5 wr (.slice (some ⟨g, 0, none⟩) l.length cap) xs ∧ xs.take j = markL byteMk 1 k j ∧ w.grownBy wr (some g)) (fun _ i _ => l.length - (intOf i).toNat)
    case atStart => exact ⟨0, l, Nat.zero_le _, rfl, by simp, rfl, hv, rfl, World.grownBy.refl _ _⟩
    case round =>
      obtain ⟨j, xs, hj, rfl, rfl, hxl, hown, htk, hx⟩ := hrel
      have Htk := Lib.hid htk; clear htk
      have Hxl := Lib.hid hxl; clear hxl
      by_cases hlt : j < l.length
      · have hcs := bytes_own_at hown j (by rw [Hxl.out]; exact hlt)
        have f0 := hown.free j
        obtain ⟨ho3, hg3⟩ := bytes_own_set hown j (byteMk (k + j))
        have hx3 := hx.trans hg3
        have hms := mark_snoc (j := j) Htk.out (by rw [Hxl.out]; exact hlt)
        simp only [Int.natCast_one, Int.one_mul] at hms
        have HMS := Lib.hid hms; clear hms
        go_wp2_with fail
        all_goals
          go_roundw
          case rel => exact ⟨j + 1, _, by omega, by go_num, by go_num, by simpa using Hxl.out, ho3, HMS.out, hx3⟩
          case measure => simp [intOf]; omega
      · obtain rfl : j = l.length := by omega
        go_wp2
        go_ret
        refine ⟨ret_int (by omega), ?_, hx⟩
        have := Htk.out
        rw [List.take_of_length_le (by rw [Hxl.out]; exact Nat.le_refl _)] at this
        rw [this] at hown
        have hml : (markL byteMk 1 k l.length).length = l.length := by simp [markL]
        exact hown
  · have hl0 : l = [] := List.eq_nil_of_length_eq_zero (by omega)
    subst hl0
    obtain ⟨o, cap, rfl, _⟩ := (bytes_rep hv).shape
    go_enter Try.func113, Try.ntmps113
    go_wp2
    refine wp_loop_rounds 1 ?_; rw [rounds_succ]
    go_wp2
    go_ret
    exact ⟨by simp, hv, World.grownBy.refl _ _⟩
set_option maxHeartbeats 1000000 in
theorem l_heldByteS (m : Nat) (v : Value) (k : Int) (w : World) (hv : RdS Rep.byte w v (markL byteMk 1 k m)) (h0 : 0 ≤ k) (h1 : k + 1 * m ≤ 4611686018427387904) :
    Calls Try.prog 115 #[v, .int .i64 k] w fun e w' => e = .returned (.int .i64 (k + 1 * m)) ∧ Ext w w' := by
  have hml : (markL byteMk 1 k m).length = m := by simp [markL]
  have Hml := Lib.hid hml
  obtain ⟨o, cap, rfl, hsm⟩ := hv.shape
  have HV := Lib.hid hv; clear hv
  rw [hml] at hsm ⊢
  rw [hml] at HV
  clear hml
  go_enter Try.func115, Try.ntmps115
  go_wp2
  go_loopw [1, 5] (fun kk i wr => ∃ (j : Nat), j ≤ m ∧ i = .int .i64 j ∧ kk = .int .i64 (k + j) ∧ Ext w wr) (fun _ i _ => m - (intOf i).toNat)
  case atStart => exact ⟨0, Nat.zero_le _, rfl, by simp, Ext.refl _⟩
  case round =>
    obtain ⟨j, hj, rfl, rfl, hx⟩ := hrel
    by_cases hlt : j < m
    · obtain ⟨b, off, rfl, hc⟩ := bytes_at (HV.out.ext hx) j (by rw [Hml.out]; exact hlt)
      simp only [markL_at, byteMk, Int.natCast_one, Int.one_mul] at hc
      go_wp2_with fail
      all_goals
        go_roundw
        case rel => exact ⟨j + 1, by omega, by go_num, by go_num, hx⟩
        case measure => simp [intOf]; omega
    · obtain rfl : j = m := by omega
      go_wp2
      go_ret
      exact ⟨ret_int (by omega), hx⟩

end Go.Proofs.Ytjjoijidlgkimaa
