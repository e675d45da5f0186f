/- Contracts of the functions on parts and paths, program and reference. No condition but the bounds that each theorem names. -/
import Derived.Test.YtkolfiedakojoaaPlain22
import Derived.Test.YtkolfiedakojoaaW01
import Derived.Deep.DeepCutAuto
import Derived.Deep.LoopGhost
import Derived.IntWalk
namespace Go.Proofs.Ytkolfiedakojoaa
open Go.ChangeShapes Go.WideShapes Go.ChangeAt Go.RowKit Go.Deep

theorem elemStp : Nonempty (Elem Try.prog 47 55 3 24) := Elem.mk' Try.underlying47 Try.infoStep rfl (by decide)
set_option maxHeartbeats 400000 in
theorem i_IsReversed (k : Int) (w : World) :
    Calls Try.prog 85 #[.int .i64 k] w fun e w' => e = .returned (.bool (isRev k)) ∧ w = w' := by
  go_enter Try.func85, Try.ntmps85
  go_wp2
  all_goals
    go_ret
    refine ⟨ret_bool ?_, rfl⟩
    simp [isRev, *]
set_option maxHeartbeats 400000 in
theorem s_IsReversed (k : Int) (w : World) :
    Calls Try.prog 86 #[.int .i64 k] w fun e w' => e = .returned (.bool (isRev k)) ∧ w = w' := by
  go_enter Try.func86, Try.ntmps86
  go_wp2
  all_goals
    go_ret
    refine ⟨ret_bool ?_, rfl⟩
    simp [isRev, *]
set_option maxHeartbeats 1000000 in
theorem i_PartIngress (x : Part) (v : Value) (i : Int) (w : World) (r : RdS Hop.rep w v x.hops) :
    Calls Try.prog 74 #[.agg #[.int .i64 x.kind, .int .i64 x.ts, .int .i64 x.beta, v], .int .i64 i] w fun e w' => e = .returned (.int .i64 (partIn x i)) ∧ Ext w w' := by
  obtain ⟨o, cap, rfl, hsm⟩ := r.shape
  have hx0 : Ext w (w.alloc (.cells #[.int .i64 x.kind, .int .i64 x.ts, .int .i64 x.beta, .slice o x.hops.length cap] 95)) := (Ext.refl _).alloc _
  go_enter Try.func74, Try.ntmps74
  go_wp2_with fail
  refine (i_InRange _ _ _ _).mono ?_
  rintro e w1 ⟨rfl, rfl⟩
  cases hin : inR i 0 (x.hops.length - 1)
  · have he : partIn x i = 0 := by unfold partIn; rw [if_neg (inR_false.1 hin)]
    have HE := Lib.hid he; clear he
    go_wp2_with fail
    go_ret
    exact ⟨ret_int HE.out.symm, hx0⟩
  · obtain ⟨h1, h2⟩ := inR_true.1 hin
    obtain ⟨k, rfl⟩ := Int.eq_ofNat_of_zero_le h1
    have hk : k < x.hops.length := by omega
    have he := partIn_at hk
    have HE := Lib.hid he; clear he
    obtain ⟨b, off, rfl, hc⟩ := Hop.at (r.ext hx0) k hk
    go_wp2_with fail
    refine (i_IsReversed _ _).mono ?_
    rintro e w1 ⟨rfl, rfl⟩
    cases hrv : isRev x.kind
    · have hh : hopIn x.kind x.hops[k] = x.hops[k].ing := by simp [hopIn, hrv]
      have HH := Lib.hid (HE.out.trans hh); clear hh
      go_wp2_with fail
      go_ret
      exact ⟨ret_int HH.out.symm, hx0⟩
    · have hh : hopIn x.kind x.hops[k] = x.hops[k].eg := by simp [hopIn, hrv]
      have HH := Lib.hid (HE.out.trans hh); clear hh
      go_wp2_with fail
      go_ret
      exact ⟨ret_int HH.out.symm, hx0⟩
set_option maxHeartbeats 1000000 in
theorem i_PartEgress (x : Part) (v : Value) (i : Int) (w : World) (r : RdS Hop.rep w v x.hops) :
    Calls Try.prog 76 #[.agg #[.int .i64 x.kind, .int .i64 x.ts, .int .i64 x.beta, v], .int .i64 i] w fun e w' => e = .returned (.int .i64 (partEg x i)) ∧ Ext w w' := by
  obtain ⟨o, cap, rfl, hsm⟩ := r.shape
  have hx0 : Ext w (w.alloc (.cells #[.int .i64 x.kind, .int .i64 x.ts, .int .i64 x.beta, .slice o x.hops.length cap] 95)) := (Ext.refl _).alloc _
  go_enter Try.func76, Try.ntmps76
  go_wp2_with fail
  refine (i_InRange _ _ _ _).mono ?_
  rintro e w1 ⟨rfl, rfl⟩
  cases hin : inR i 0 (x.hops.length - 1)
  · have he : partEg x i = 0 := by unfold partEg; rw [if_neg (inR_false.1 hin)]
    have HE := Lib.hid he; clear he
    go_wp2_with fail
    go_ret
    exact ⟨ret_int HE.out.symm, hx0⟩
  · obtain ⟨h1, h2⟩ := inR_true.1 hin
    obtain ⟨k, rfl⟩ := Int.eq_ofNat_of_zero_le h1
    have hk : k < x.hops.length := by omega
    have he := partEg_at hk
    have HE := Lib.hid he; clear he
    obtain ⟨b, off, rfl, hc⟩ := Hop.at (r.ext hx0) k hk
    go_wp2_with fail
    refine (i_IsReversed _ _).mono ?_
    rintro e w1 ⟨rfl, rfl⟩
    cases hrv : isRev x.kind
    · have hh : hopEg x.kind x.hops[k] = x.hops[k].eg := by simp [hopEg, hrv]
      have HH := Lib.hid (HE.out.trans hh); clear hh
      go_wp2_with fail
      go_ret
      exact ⟨ret_int HH.out.symm, hx0⟩
    · have hh : hopEg x.kind x.hops[k] = x.hops[k].ing := by simp [hopEg, hrv]
      have HH := Lib.hid (HE.out.trans hh); clear hh
      go_wp2_with fail
      go_ret
      exact ⟨ret_int HH.out.symm, hx0⟩
set_option maxHeartbeats 1000000 in
theorem s_PartIngress (x : Part) (v : Value) (i : Int) (w : World) (r : RdS Hop.rep w v x.hops) :
    Calls Try.prog 75 #[.agg #[.int .i64 x.kind, .int .i64 x.ts, .int .i64 x.beta, v], .int .i64 i] w fun e w' => e = .returned (.int .i64 (partIn x i)) ∧ Ext w w' := by
  obtain ⟨o, cap, rfl, hsm⟩ := r.shape
  have hx0 : Ext w (w.alloc (.cells #[.int .i64 x.kind, .int .i64 x.ts, .int .i64 x.beta, .slice o x.hops.length cap] 95)) := (Ext.refl _).alloc _
  go_enter Try.func75, Try.ntmps75
  go_wp2_with fail
  refine (s_l1In _ _ _ _).mono ?_
  rintro e w1 ⟨rfl, rfl⟩
  cases hin : inR i 0 (x.hops.length - 1)
  · have he : partIn x i = 0 := by unfold partIn; rw [if_neg (inR_false.1 hin)]
    have HE := Lib.hid he; clear he
    go_wp2_with fail
    go_ret
    exact ⟨ret_int HE.out.symm, hx0⟩
  · obtain ⟨h1, h2⟩ := inR_true.1 hin
    obtain ⟨k, rfl⟩ := Int.eq_ofNat_of_zero_le h1
    have hk : k < x.hops.length := by omega
    have he := partIn_at hk
    have HE := Lib.hid he; clear he
    obtain ⟨b, off, rfl, hc⟩ := Hop.at (r.ext hx0) k hk
    go_wp2_with fail
    refine (s_IsReversed _ _).mono ?_
    rintro e w1 ⟨rfl, rfl⟩
    cases hrv : isRev x.kind
    · have hh : hopIn x.kind x.hops[k] = x.hops[k].ing := by simp [hopIn, hrv]
      have HH := Lib.hid (HE.out.trans hh); clear hh
      go_wp2_with fail
      go_ret
      exact ⟨ret_int HH.out.symm, hx0⟩
    · have hh : hopIn x.kind x.hops[k] = x.hops[k].eg := by simp [hopIn, hrv]
      have HH := Lib.hid (HE.out.trans hh); clear hh
      go_wp2_with fail
      go_ret
      exact ⟨ret_int HH.out.symm, hx0⟩
set_option maxHeartbeats 1000000 in
theorem s_PartEgress (x : Part) (v : Value) (i : Int) (w : World) (r : RdS Hop.rep w v x.hops) :
    Calls Try.prog 77 #[.agg #[.int .i64 x.kind, .int .i64 x.ts, .int .i64 x.beta, v], .int .i64 i] w fun e w' => e = .returned (.int .i64 (partEg x i)) ∧ Ext w w' := by
  obtain ⟨o, cap, rfl, hsm⟩ := r.shape
  have hx0 : Ext w (w.alloc (.cells #[.int .i64 x.kind, .int .i64 x.ts, .int .i64 x.beta, .slice o x.hops.length cap] 95)) := (Ext.refl _).alloc _
  go_enter Try.func77, Try.ntmps77
  go_wp2_with fail
  refine (s_l1In _ _ _ _).mono ?_
  rintro e w1 ⟨rfl, rfl⟩
  cases hin : inR i 0 (x.hops.length - 1)
  · have he : partEg x i = 0 := by unfold partEg; rw [if_neg (inR_false.1 hin)]
    have HE := Lib.hid he; clear he
    go_wp2_with fail
    go_ret
    exact ⟨ret_int HE.out.symm, hx0⟩
  · obtain ⟨h1, h2⟩ := inR_true.1 hin
    obtain ⟨k, rfl⟩ := Int.eq_ofNat_of_zero_le h1
    have hk : k < x.hops.length := by omega
    have he := partEg_at hk
    have HE := Lib.hid he; clear he
    obtain ⟨b, off, rfl, hc⟩ := Hop.at (r.ext hx0) k hk
    go_wp2_with fail
    refine (s_IsReversed _ _).mono ?_
    rintro e w1 ⟨rfl, rfl⟩
    cases hrv : isRev x.kind
    · have hh : hopEg x.kind x.hops[k] = x.hops[k].eg := by simp [hopEg, hrv]
      have HH := Lib.hid (HE.out.trans hh); clear hh
      go_wp2_with fail
      go_ret
      exact ⟨ret_int HH.out.symm, hx0⟩
    · have hh : hopEg x.kind x.hops[k] = x.hops[k].ing := by simp [hopEg, hrv]
      have HH := Lib.hid (HE.out.trans hh); clear hh
      go_wp2_with fail
      go_ret
      exact ⟨ret_int HH.out.symm, hx0⟩
end Go.Proofs.Ytkolfiedakojoaa
