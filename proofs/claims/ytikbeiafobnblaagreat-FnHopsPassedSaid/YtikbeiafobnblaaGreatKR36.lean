/- What these laws need: FnForwards, FnHopsPassed: Contracts of links, interfaces and failed interfaces of a topology, program and reference. Contracts of kinds of interfaces, of steps that are allowed, and of members of a set, program and reference. -/
import Derived.Test.YtikbeiafobnblaaGreatKR16
import Derived.Test.YtikbeiafobnblaaGreatKR22
namespace Go.Proofs.YtikbeiafobnblaaGreat
section
open Go.ChangeShapes Go.WideShapes Go.ChangeAt Go.RowKit Go.Deep
set_option maxHeartbeats 400000 in
theorem s_ValidSet (n : Int) (w : World) : Calls Tryz.prog 250 #[.int .i64 n] w fun e w' => e = .returned (.bool (inR n 0 65535)) ∧ w = w' := by
 go_enter Tryz.func250, Tryz.ntmps250
 go_wp2_with fail
 refine (s_l1In _ _ _ _).mono ?_
 rintro e w1 ⟨rfl, rfl⟩
 go_wp2_with fail
 go_ret
 exact ⟨rfl, rfl⟩
set_option maxHeartbeats 400000 in
theorem s_l4One (n : Int) (w : World) : Calls Tryz.prog 251 #[.int .i64 n] w fun e w' => e = .returned (.bool (inR n 0 15)) ∧ w = w' := by
 go_enter Tryz.func251, Tryz.ntmps251
 go_wp2_with fail
 refine (s_l1In _ _ _ _).mono ?_
 rintro e w1 ⟨rfl, rfl⟩
 go_wp2_with fail
 go_ret
 exact ⟨rfl, rfl⟩
end
section
open Go.ChangeShapes Go.WideShapes Go.ChangeAt Go.RowKit Go.Deep
set_option maxHeartbeats 8000000 in
theorem s_TransitAllowed (a b : Int) (w : World) :
  Calls Tryz.prog 248 #[.int .i64 a, .int .i64 b] w fun e w' => e = .returned (.bool (transitOk a b)) ∧ w = w' := by
 cases b2 : (b == 2) <;> cases b4 : (b == 5)
 all_goals
  have hb := Lib.hid b2
  have hb4 := Lib.hid b4
  cases a1 : (a == 5) <;> cases a2 : (a == 2)
  ·
   cases a3 : (a == 3)
   ·
    cases a4 : (a == 1)
    ·
     go_enter Tryz.func248, Tryz.ntmps248
     go_wp2
     go_ret
     exact ⟨ret_bool (by unfold transitOk; rw [a1, a2, a3, a4]; rfl), rfl⟩
    ·
     cases b1 : (b == 1)
     all_goals
      go_enter Tryz.func248, Tryz.ntmps248
      go_wp2
      go_ret
      exact ⟨ret_bool (by unfold transitOk; rw [a1, a2, a3, a4, b1, hb.out, hb4.out]; rfl), rfl⟩
   ·
    go_enter Tryz.func248, Tryz.ntmps248
    go_wp2
    go_ret
    exact ⟨ret_bool (by unfold transitOk; rw [a1, a2, a3, hb.out, hb4.out]; rfl), rfl⟩
  all_goals
   cases b1 : (b == 1) <;> cases b3 : (b == 3)
   all_goals
    go_enter Tryz.func248, Tryz.ntmps248
    go_wp2
    go_ret
    exact ⟨ret_bool (by unfold transitOk; rw [a1, a2, b1, hb.out, b3, hb4.out]; rfl), rfl⟩
set_option maxRecDepth 100000 in
set_option maxHeartbeats 4000000 in
theorem s_StepAllowed (t : Topo) (v1 v2 : Value) (s : Step) (w : World) (hk : RdS Lnk.rep w v2 t.links) :
  Calls Tryz.prog 190 #[.agg #[v1, v2], .agg #[.int .i64 s.asn, .int .i64 s.ing, .int .i64 s.eg]] w fun e w' => e = .returned (.bool (stepOk t s)) ∧ Ext w w' := by
 have hx0 := ext2 w (.cells #[v1, v2] 33) (.cells #[.int .i64 s.asn, .int .i64 s.ing, .int .i64 s.eg] 123)
 have HB0 := Lib.hid (al2 w (.cells #[v1, v2] 33) (.cells #[.int .i64 s.asn, .int .i64 s.ing, .int .i64 s.eg] 123))
 go_enter Tryz.func190, Tryz.ntmps190
 cases b1 : (s.ing == s.eg)
 ·
  have b1' : (s.ing != s.eg) = true := by simp only [bne, b1]; rfl
  have HE := Lib.hid (show stepOk t s = transitOk (ifKind t s.asn s.ing) (ifKind t s.asn s.eg) by unfold stepOk; rw [b1']; simp)
  have cf1 := blk2 HB0.out.1
  have cf2 := blk3 HB0.out.2
  go_wp2_with fail
  refine wp_region_ext (by kernel_rfl) (by kernel_rfl) ?_
  have q0 := ExtW.cell (cf1.1)
  have q1 := ExtW.cell (cf1.2)
  have q2 := ExtW.cell (cf2.1)
  have q3 := ExtW.cell (cf2.2.1)
  have q4 := ExtW.cell (cf2.2.2)
  repeat (first | go_big_quiet_step (((first | (go_at_call 249; exact Calls.ext_of (s_InterfaceKind t _ _ _ _ _ ((hk.ext hx0).ext (ExtW.h _)))) | (go_at_call 248; exact Calls.ext_same (s_TransitAllowed _ _ _))))) | quiet_step (((first | (go_at_call 249; exact Calls.ext_of (s_InterfaceKind t _ _ _ _ _ ((hk.ext hx0).ext (ExtW.h _)))) | (go_at_call 248; exact Calls.ext_same (s_TransitAllowed _ _ _))))))
  refine wpQuiet_nil ?_
  intro w1 hw1
  have hz1 := ExtW.out hw1
  clear hw1 q0 q1 q2 q3 q4
  try clear cf1
  try clear cf2
  have cf3 := blk2 (Ext.block hz1 HB0.out.1)
  have cf4 := blk3 (Ext.block hz1 HB0.out.2)
  go_wp2_with fail
  go_ret
  exact ⟨ret_bool HE.out.symm, (hx0.trans hz1)⟩
 ·
  have b1' : (s.ing != s.eg) = false := by simp only [bne, b1]; rfl
  cases b3 : (s.ing == 0)
  ·
   have b3' : (s.ing != 0) = true := by simp only [bne, b3]; rfl
   have HE := Lib.hid (show stepOk t s = false by unfold stepOk; rw [b1', b3]; simp)
   have cf5 := blk2 HB0.out.1
   have cf6 := blk3 HB0.out.2
   go_wp2_with fail
   go_ret
   exact ⟨ret_bool HE.out.symm, hx0⟩
  ·
   have b3' : (s.ing != 0) = false := by simp only [bne, b3]; rfl
   have HE := Lib.hid (show stepOk t s = transitOk (ifKind t s.asn s.ing) (ifKind t s.asn s.eg) by unfold stepOk; rw [b1', b3]; simp)
   have cf7 := blk2 HB0.out.1
   have cf8 := blk3 HB0.out.2
   go_wp2_with fail
   refine wp_region_ext (by kernel_rfl) (by kernel_rfl) ?_
   have q0 := ExtW.cell (cf7.1)
   have q1 := ExtW.cell (cf7.2)
   have q2 := ExtW.cell (cf8.1)
   have q3 := ExtW.cell (cf8.2.1)
   have q4 := ExtW.cell (cf8.2.2)
   repeat (first | go_big_quiet_step (((first | (go_at_call 249; exact Calls.ext_of (s_InterfaceKind t _ _ _ _ _ ((hk.ext hx0).ext (ExtW.h _)))) | (go_at_call 248; exact Calls.ext_same (s_TransitAllowed _ _ _))))) | quiet_step (((first | (go_at_call 249; exact Calls.ext_of (s_InterfaceKind t _ _ _ _ _ ((hk.ext hx0).ext (ExtW.h _)))) | (go_at_call 248; exact Calls.ext_same (s_TransitAllowed _ _ _))))))
   refine wpQuiet_nil ?_
   intro w2 hw2
   have hz2 := ExtW.out hw2
   clear hw2 q0 q1 q2 q3 q4
   try clear cf7
   try clear cf8
   have cf9 := blk2 (Ext.block hz2 HB0.out.1)
   have cf10 := blk3 (Ext.block hz2 HB0.out.2)
   go_wp2_with fail
   go_ret
   exact ⟨ret_bool HE.out.symm, (hx0.trans hz2)⟩
set_option maxHeartbeats 4000000 in
theorem s_Contains (s i : Int) (w : World) :
  Calls Tryz.prog 191 #[.int .i64 s, .int .i64 i] w fun e w' => e = .returned (.bool (inSet s i)) ∧ w = w' := by
 go_enter Tryz.func191, Tryz.ntmps191

 go_wp2_with fail
 refine (s_ValidSet _ _).mono ?_
 rintro e w1 ⟨rfl, rfl⟩
 cases h1 : inR s 0 65535
 ·
  have HE := Lib.hid (show inSet s i = false by unfold inSet; rw [h1]; rfl)
  go_wp2_with fail
  go_ret
  exact ⟨ret_bool HE.out.symm, rfl⟩
 ·
  go_wp2_with fail
  refine (s_l4One _ _).mono ?_
  rintro e w1 ⟨rfl, rfl⟩
  cases h2 : inR i 0 15
  ·
   have HE := Lib.hid (show inSet s i = false by unfold inSet; rw [h1, h2]; rfl)
   go_wp2_with fail
   go_ret
   exact ⟨ret_bool HE.out.symm, rfl⟩
  ·
   have HE := Lib.hid (show inSet s i = bitAt s i.toNat by unfold inSet; rw [h1, h2]; rfl)
   obtain ⟨a1, a2⟩ := inR_true.1 h1
   obtain ⟨a3, a4⟩ := inR_true.1 h2
   clear h1 h2
   have hi : i = 0 ∨ i = 1 ∨ i = 2 ∨ i = 3 ∨ i = 4 ∨ i = 5 ∨ i = 6 ∨ i = 7 ∨ i = 8 ∨ i = 9 ∨ i = 10 ∨ i = 11 ∨ i = 12 ∨ i = 13 ∨ i = 14 ∨ i = 15 := by omega
   clear a3 a4
   rcases hi with rfl | rfl | rfl | rfl | rfl | rfl | rfl | rfl | rfl | rfl | rfl | rfl | rfl | rfl | rfl | rfl
   all_goals
    go_wp2_with fail
    go_ret
    exact ⟨ret_bool (by rw [HE.out]; unfold bitAt; rw [and1 _ (by omega) (by omega)]; first | rfl | simp), rfl⟩
end
end Go.Proofs.YtikbeiafobnblaaGreat
