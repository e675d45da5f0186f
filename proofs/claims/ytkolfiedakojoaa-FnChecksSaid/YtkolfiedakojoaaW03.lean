/- Contracts of the arithmetic modulo the prime, program and reference. No condition but the bounds that each theorem names. -/
import Derived.Test.YtkolfiedakojoaaW01
namespace Go.Proofs.Ytkolfiedakojoaa
open Go.ChangeShapes Go.WideShapes Go.ChangeAt Go.RowKit Go.Deep

def isRes (n : Int) : Bool := inR n 0 2147483646
def addMod (b s : Int) : Int := if isRes b && isRes s then (b + s) % 2147483647 else 0
def subMod (b s : Int) : Int := if isRes b && isRes s then (b - s + 2147483647) % 2147483647 else 0
theorem isRes_true {n : Int} : isRes n = true ↔ 0 ≤ n ∧ n ≤ 2147483646 := inR_true
theorem addMod_no1 {b s : Int} (h : isRes b = false) : addMod b s = 0 := by simp [addMod, h]
theorem addMod_no2 {b s : Int} (h : isRes s = false) : addMod b s = 0 := by simp [addMod, h]
theorem addMod_yes {b s : Int} (h : isRes b = true) (h2 : isRes s = true) : addMod b s = (b + s) % 2147483647 := by simp [addMod, h, h2]
theorem subMod_no1 {b s : Int} (h : isRes b = false) : subMod b s = 0 := by simp [subMod, h]
theorem subMod_no2 {b s : Int} (h : isRes s = false) : subMod b s = 0 := by simp [subMod, h]
theorem subMod_yes {b s : Int} (h : isRes b = true) (h2 : isRes s = true) : subMod b s = (b - s + 2147483647) % 2147483647 := by simp [subMod, h, h2]
theorem addMod_res (b s : Int) : isRes (addMod b s) = true := by
  rw [isRes_true]; unfold addMod; split <;> omega
theorem subMod_res (b s : Int) : isRes (subMod b s) = true := by
  rw [isRes_true]; unfold subMod; split <;> omega

set_option maxHeartbeats 400000 in
theorem i_isResidue (n : Int) (w : World) : Calls Try.prog 130 #[.int .i64 n] w fun e w' => e = .returned (.bool (isRes n)) ∧ w = w' := by
  go_enter Try.func130, Try.ntmps130
  go_wp2_with fail
  refine (i_InRange _ _ _ _).mono ?_
  rintro e w1 ⟨rfl, rfl⟩
  go_wp2_with fail
  go_ret
  exact ⟨rfl, rfl⟩

set_option maxHeartbeats 400000 in
theorem i_AddMod (b s : Int) (w : World) : Calls Try.prog 152 #[.int .i64 b, .int .i64 s] w fun e w' => e = .returned (.int .i64 (addMod b s)) ∧ w = w' := by
  go_enter Try.func152, Try.ntmps152
  go_wp2_with fail
  refine (i_isResidue _ _).mono ?_
  rintro e w1 ⟨rfl, rfl⟩
  cases h1 : isRes b
  · have HE := Lib.hid (addMod_no1 (s := s) h1)
    go_wp2_with fail
    go_ret
    exact ⟨ret_int HE.out.symm, rfl⟩
  · go_wp2_with fail
    refine (i_isResidue _ _).mono ?_
    rintro e w1 ⟨rfl, rfl⟩
    cases h2 : isRes s
    · have HE := Lib.hid (addMod_no2 (b := b) h2)
      go_wp2_with fail
      go_ret
      exact ⟨ret_int HE.out.symm, rfl⟩
    · have HE := Lib.hid (addMod_yes h1 h2)
      obtain ⟨a1, a2⟩ := isRes_true.1 h1
      obtain ⟨a3, a4⟩ := isRes_true.1 h2
      go_wp2_with fail
      go_ret
      exact ⟨ret_int HE.out.symm, rfl⟩

set_option maxHeartbeats 400000 in
theorem i_SubMod (b s : Int) (w : World) : Calls Try.prog 151 #[.int .i64 b, .int .i64 s] w fun e w' => e = .returned (.int .i64 (subMod b s)) ∧ w = w' := by
  go_enter Try.func151, Try.ntmps151
  go_wp2_with fail
  refine (i_isResidue _ _).mono ?_
  rintro e w1 ⟨rfl, rfl⟩
  cases h1 : isRes b
  · have HE := Lib.hid (subMod_no1 (s := s) h1)
    go_wp2_with fail
    go_ret
    exact ⟨ret_int HE.out.symm, rfl⟩
  · go_wp2_with fail
    refine (i_isResidue _ _).mono ?_
    rintro e w1 ⟨rfl, rfl⟩
    cases h2 : isRes s
    · have HE := Lib.hid (subMod_no2 (b := b) h2)
      go_wp2_with fail
      go_ret
      exact ⟨ret_int HE.out.symm, rfl⟩
    · have HE := Lib.hid (subMod_yes h1 h2)
      obtain ⟨a1, a2⟩ := isRes_true.1 h1
      obtain ⟨a3, a4⟩ := isRes_true.1 h2
      go_wp2_with fail
      go_ret
      exact ⟨ret_int HE.out.symm, rfl⟩

set_option maxHeartbeats 400000 in
theorem s_l3Ok (n : Int) (w : World) : Calls Try.prog 131 #[.int .i64 n] w fun e w' => e = .returned (.bool (isRes n)) ∧ w = w' := by
  go_enter Try.func131, Try.ntmps131
  go_wp2_with fail
  refine (s_l1In _ _ _ _).mono ?_
  rintro e w1 ⟨rfl, rfl⟩
  go_wp2_with fail
  go_ret
  exact ⟨rfl, rfl⟩

set_option maxHeartbeats 400000 in
theorem s_AddMod (b s : Int) (w : World) : Calls Try.prog 154 #[.int .i64 b, .int .i64 s] w fun e w' => e = .returned (.int .i64 (addMod b s)) ∧ w = w' := by
  go_enter Try.func154, Try.ntmps154
  go_wp2_with fail
  refine (s_l3Ok _ _).mono ?_
  rintro e w1 ⟨rfl, rfl⟩
  cases h1 : isRes b
  · have HE := Lib.hid (addMod_no1 (s := s) h1)
    go_wp2_with fail
    go_ret
    exact ⟨ret_int HE.out.symm, rfl⟩
  · go_wp2_with fail
    refine (s_l3Ok _ _).mono ?_
    rintro e w1 ⟨rfl, rfl⟩
    cases h2 : isRes s
    · have HE := Lib.hid (addMod_no2 (b := b) h2)
      go_wp2_with fail
      go_ret
      exact ⟨ret_int HE.out.symm, rfl⟩
    · have HE := Lib.hid (addMod_yes h1 h2)
      obtain ⟨a1, a2⟩ := isRes_true.1 h1
      obtain ⟨a3, a4⟩ := isRes_true.1 h2
      go_wp2_with fail
      go_ret
      exact ⟨ret_int HE.out.symm, rfl⟩

set_option maxHeartbeats 400000 in
theorem s_SubMod (b s : Int) (w : World) : Calls Try.prog 153 #[.int .i64 b, .int .i64 s] w fun e w' => e = .returned (.int .i64 (subMod b s)) ∧ w = w' := by
  go_enter Try.func153, Try.ntmps153
  go_wp2_with fail
  refine (s_l3Ok _ _).mono ?_
  rintro e w1 ⟨rfl, rfl⟩
  cases h1 : isRes b
  · have HE := Lib.hid (subMod_no1 (s := s) h1)
    go_wp2_with fail
    go_ret
    exact ⟨ret_int HE.out.symm, rfl⟩
  · go_wp2_with fail
    refine (s_l3Ok _ _).mono ?_
    rintro e w1 ⟨rfl, rfl⟩
    cases h2 : isRes s
    · have HE := Lib.hid (subMod_no2 (b := b) h2)
      go_wp2_with fail
      go_ret
      exact ⟨ret_int HE.out.symm, rfl⟩
    · have HE := Lib.hid (subMod_yes h1 h2)
      obtain ⟨a1, a2⟩ := isRes_true.1 h1
      obtain ⟨a3, a4⟩ := isRes_true.1 h2
      go_wp2_with fail
      go_ret
      exact ⟨ret_int HE.out.symm, rfl⟩

end Go.Proofs.Ytkolfiedakojoaa
