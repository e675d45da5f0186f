/- Contracts of kinds of interfaces, of steps that are allowed, and of members of a set, program and reference. No condition but the bounds that each theorem names. -/
import Derived.Test.YtiabfgebfjmplaaGreatW21v
import Derived.Test.YtiabfgebfjmplaaGreatTyStep
import Derived.Test.YtiabfgebfjmplaaGreatPlain02
namespace Go.Proofs.YtiabfgebfjmplaaGreat
open Go.ChangeShapes Go.WideShapes Go.ChangeAt Go.RowKit Go.Deep

theorem ifKind_at {t : Topo} {r d : Int} (hd : (d == 0) = false) (h : ¬ linkIdx t.links r d < 0) (hl : (linkIdx t.links r d).toNat < t.links.length) :
    ifKind t r d = (if t.links[(linkIdx t.links r d).toNat].kind == 1 then 1 else if t.links[(linkIdx t.links r d).toNat].kind == 3 then 4 else if t.links[(linkIdx t.links r d).toNat].kind == 2 then (if (t.links[(linkIdx t.links r d).toNat].a == r) && (t.links[(linkIdx t.links r d).toNat].ai == d) then 2 else 3) else 0) := by
  unfold ifKind; rw [hd, if_neg (by decide), if_neg h, List.getElem?_eq_getElem hl]

theorem and1 (m : Int) (h0 : 0 ≤ m) (h1 : m < 9223372036854775808) : bits .and .i64 m 1 = m % 2 := by
  obtain ⟨k, rfl⟩ := Int.eq_ofNat_of_zero_le h0
  have := and_nat k 1 (by omega) (by omega)
  have h2 : k &&& 1 = k % 2 := Nat.and_two_pow_sub_one_eq_mod k 1
  rw [h2] at this
  have e : ((1 : Nat) : Int) = 1 := rfl
  rw [e] at this
  rw [this]; omega

set_option maxHeartbeats 2000000 in
theorem i_InterfaceKind (t : Topo) (v1 v2 : Value) (r d : Int) (w : World) (hk : RdS Lnk.rep w v2 t.links) :
    Calls Tryz.prog 159 #[.agg #[v1, v2], .int .i64 r, .int .i64 d] w fun e w' => e = .returned (.int .i64 (ifKind t r d)) ∧ Ext w w' := by
  obtain ⟨o, cap, rfl, hsm⟩ := hk.shape
  have hx0 : Ext w (w.alloc (.cells #[v1, .slice o t.links.length cap] 47)) := (Ext.refl _).alloc _
  have HB0 := Lib.hid (blk_new w (.cells #[v1, .slice o t.links.length cap] 47))
  go_enter Tryz.func159, Tryz.ntmps159
  cases b0 : (d == 0)
  · have cf1 := blk2 HB0.out
    go_wp2_with fail
    refine (i_LinkIndex t _ _ r d _ (hk.ext hx0)).mono ?_
    rintro e w1 ⟨rfl, hz1⟩
    have hil := linkIdx_lt t.links r d
    by_cases hn : linkIdx t.links r d < 0
    · have HE := Lib.hid (show ifKind t r d = 0 by unfold ifKind; rw [b0, if_neg (by decide), if_pos hn])
      try clear cf1
      have cf2 := blk2 (Ext.block hz1 HB0.out)
      go_wp2_with fail
      go_ret
      exact ⟨ret_int HE.out.symm, (hx0.trans hz1)⟩
    · have hin : (linkIdx t.links r d).toNat < t.links.length := by omega
      have HE := Lib.hid (ifKind_at b0 hn hin)
      have hn0 : 0 ≤ linkIdx t.links r d := by omega
      obtain ⟨b, off, rfl, hc⟩ := Lnk.at (hk.ext (hx0.trans hz1)) _ hin
      generalize linkIdx t.links r d = i at *
      generalize t.links[i.toNat] = x at *
      try clear cf1
      have cf3 := blk2 (Ext.block hz1 HB0.out)
      have hxl := (hx0.trans hz1).alloc (.cells #[.int .i64 x.a, .int .i64 x.ai, .int .i64 x.b, .int .i64 x.bi, .int .i64 x.kind] 124)
      cases b1 : (x.kind == 1) <;> cases b2 : (x.kind == 3) <;> cases b3 : (x.kind == 2) <;> cases b4 : (x.a == r) <;> cases b5 : (x.ai == d)
      all_goals
        have b3' : (x.kind != 2) = !(x.kind == 2) := rfl
        rw [b3] at b3'
        first | replace b3' : (x.kind != 2) = true := b3' | replace b3' : (x.kind != 2) = false := b3'
        go_wp2_with fail
        go_ret
        exact ⟨ret_int (by rw [HE.out, b1, b2, b3, b4, b5]; rfl), hxl⟩
  · have HE := Lib.hid (show ifKind t r d = 5 by unfold ifKind; rw [b0]; rfl)
    have cf4 := blk2 HB0.out
    go_wp2_with fail
    go_ret
    exact ⟨ret_int HE.out.symm, hx0⟩

set_option maxHeartbeats 2000000 in
theorem s_InterfaceKind (t : Topo) (v1 v2 : Value) (r d : Int) (w : World) (hk : RdS Lnk.rep w v2 t.links) :
    Calls Tryz.prog 113 #[.agg #[v1, v2], .int .i64 r, .int .i64 d] w fun e w' => e = .returned (.int .i64 (ifKind t r d)) ∧ Ext w w' := by
  obtain ⟨o, cap, rfl, hsm⟩ := hk.shape
  have hx0 : Ext w (w.alloc (.cells #[v1, .slice o t.links.length cap] 47)) := (Ext.refl _).alloc _
  have HB0 := Lib.hid (blk_new w (.cells #[v1, .slice o t.links.length cap] 47))
  go_enter Tryz.func113, Tryz.ntmps113
  cases b0 : (d == 0)
  · have cf1 := blk2 HB0.out
    go_wp2_with fail
    refine (s_LinkIndex t _ _ r d _ (hk.ext hx0)).mono ?_
    rintro e w1 ⟨rfl, hz1⟩
    have hil := linkIdx_lt t.links r d
    by_cases hn : linkIdx t.links r d < 0
    · have HE := Lib.hid (show ifKind t r d = 0 by unfold ifKind; rw [b0, if_neg (by decide), if_pos hn])
      try clear cf1
      have cf2 := blk2 (Ext.block hz1 HB0.out)
      go_wp2_with fail
      go_ret
      exact ⟨ret_int HE.out.symm, (hx0.trans hz1)⟩
    · have hin : (linkIdx t.links r d).toNat < t.links.length := by omega
      have HE := Lib.hid (ifKind_at b0 hn hin)
      have hn0 : 0 ≤ linkIdx t.links r d := by omega
      obtain ⟨b, off, rfl, hc⟩ := Lnk.at (hk.ext (hx0.trans hz1)) _ hin
      generalize linkIdx t.links r d = i at *
      generalize t.links[i.toNat] = x at *
      try clear cf1
      have cf3 := blk2 (Ext.block hz1 HB0.out)
      have hxl := (hx0.trans hz1).alloc (.cells #[.int .i64 x.a, .int .i64 x.ai, .int .i64 x.b, .int .i64 x.bi, .int .i64 x.kind] 124)
      cases b1 : (x.kind == 1) <;> cases b2 : (x.kind == 3) <;> cases b3 : (x.kind == 2) <;> cases b4 : (x.a == r) <;> cases b5 : (x.ai == d)
      all_goals
        have b3' : (x.kind != 2) = !(x.kind == 2) := rfl
        rw [b3] at b3'
        first | replace b3' : (x.kind != 2) = true := b3' | replace b3' : (x.kind != 2) = false := b3'
        go_wp2_with fail
        go_ret
        exact ⟨ret_int (by rw [HE.out, b1, b2, b3, b4, b5]; rfl), hxl⟩
  · have HE := Lib.hid (show ifKind t r d = 5 by unfold ifKind; rw [b0]; rfl)
    have cf4 := blk2 HB0.out
    go_wp2_with fail
    go_ret
    exact ⟨ret_int HE.out.symm, hx0⟩

set_option maxHeartbeats 8000000 in
theorem i_TransitAllowed (a b : Int) (w : World) :
    Calls Tryz.prog 158 #[.int .i64 a, .int .i64 b] w fun e w' => e = .returned (.bool (transitOk a b)) ∧ w = w' := by
  cases b2 : (b == 2) <;> cases b4 : (b == 5)
  all_goals
    have hb := Lib.hid b2
    have hb4 := Lib.hid b4
    cases a1 : (a == 5) <;> cases a2 : (a == 2)
    · cases a3 : (a == 3)
      · cases a4 : (a == 1)
        · go_enter Tryz.func158, Tryz.ntmps158
          go_wp2
          go_ret
          exact ⟨ret_bool (by unfold transitOk; rw [a1, a2, a3, a4]; rfl), rfl⟩
        · cases b1 : (b == 1)
          all_goals
            go_enter Tryz.func158, Tryz.ntmps158
            go_wp2
            go_ret
            exact ⟨ret_bool (by unfold transitOk; rw [a1, a2, a3, a4, b1, hb.out, hb4.out]; rfl), rfl⟩
      · go_enter Tryz.func158, Tryz.ntmps158
        go_wp2
        go_ret
        exact ⟨ret_bool (by unfold transitOk; rw [a1, a2, a3, hb.out, hb4.out]; rfl), rfl⟩
    all_goals
      cases b1 : (b == 1) <;> cases b3 : (b == 3)
      all_goals
        go_enter Tryz.func158, Tryz.ntmps158
        go_wp2
        go_ret
        exact ⟨ret_bool (by unfold transitOk; rw [a1, a2, b1, hb.out, b3, hb4.out]; rfl), rfl⟩

set_option maxHeartbeats 8000000 in
theorem s_TransitAllowed (a b : Int) (w : World) :
    Calls Tryz.prog 112 #[.int .i64 a, .int .i64 b] w fun e w' => e = .returned (.bool (transitOk a b)) ∧ w = w' := by
  cases b2 : (b == 2) <;> cases b4 : (b == 5)
  all_goals
    have hb := Lib.hid b2
    have hb4 := Lib.hid b4
    cases a1 : (a == 5) <;> cases a2 : (a == 2)
    · cases a3 : (a == 3)
      · cases a4 : (a == 1)
        · go_enter Tryz.func112, Tryz.ntmps112
          go_wp2
          go_ret
          exact ⟨ret_bool (by unfold transitOk; rw [a1, a2, a3, a4]; rfl), rfl⟩
        · cases b1 : (b == 1)
          all_goals
            go_enter Tryz.func112, Tryz.ntmps112
            go_wp2
            go_ret
            exact ⟨ret_bool (by unfold transitOk; rw [a1, a2, a3, a4, b1, hb.out, hb4.out]; rfl), rfl⟩
      · go_enter Tryz.func112, Tryz.ntmps112
        go_wp2
        go_ret
        exact ⟨ret_bool (by unfold transitOk; rw [a1, a2, a3, hb.out, hb4.out]; rfl), rfl⟩
    all_goals
      cases b1 : (b == 1) <;> cases b3 : (b == 3)
      all_goals
        go_enter Tryz.func112, Tryz.ntmps112
        go_wp2
        go_ret
        exact ⟨ret_bool (by unfold transitOk; rw [a1, a2, b1, hb.out, b3, hb4.out]; rfl), rfl⟩

set_option maxRecDepth 100000 in
set_option maxHeartbeats 4000000 in
theorem i_StepAllowed (t : Topo) (v1 v2 : Value) (s : Step) (w : World) (hk : RdS Lnk.rep w v2 t.links) :
    Calls Tryz.prog 126 #[.agg #[v1, v2], .agg #[.int .i64 s.asn, .int .i64 s.ing, .int .i64 s.eg]] w fun e w' => e = .returned (.bool (stepOk t s)) ∧ Ext w w' := by
  have hx0 := ext2 w (.cells #[v1, v2] 47) (.cells #[.int .i64 s.asn, .int .i64 s.ing, .int .i64 s.eg] 85)
  have HB0 := Lib.hid (al2 w (.cells #[v1, v2] 47) (.cells #[.int .i64 s.asn, .int .i64 s.ing, .int .i64 s.eg] 85))
  go_enter Tryz.func126, Tryz.ntmps126
  cases b1 : (s.ing == s.eg)
  · have b1' : (s.ing != s.eg) = true := by simp only [bne, b1]; rfl
    have HE := Lib.hid (show stepOk t s = transitOk (ifKind t s.asn s.ing) (ifKind t s.asn s.eg) by unfold stepOk; rw [b1']; simp)
    cases b2 : transitOk (ifKind t s.asn s.ing) (ifKind t s.asn s.eg)
    · rw [b2] at HE
      have cf1 := blk2 HB0.out.1
      have cf2 := blk3 HB0.out.2
      go_wp2_with fail
      refine wp_region_ext (by kernel_rfl) (by kernel_rfl) ?_
      have q0 := ExtW.cell (cf1.1)
      have q1 := ExtW.cell (cf1.2)
      have q2 := ExtW.cell (cf2.1)
      have q3 := ExtW.cell (cf2.2.1)
      have q4 := ExtW.cell (cf2.2.2)
      repeat (first | go_big_quiet_step (((first | (go_at_call 159; exact Calls.ext_of (i_InterfaceKind t _ _ _ _ _ ((hk.ext hx0).ext (ExtW.h _)))) | (go_at_call 158; exact Calls.ext_same (i_TransitAllowed _ _ _))))) | quiet_step (((first | (go_at_call 159; exact Calls.ext_of (i_InterfaceKind t _ _ _ _ _ ((hk.ext hx0).ext (ExtW.h _)))) | (go_at_call 158; exact Calls.ext_same (i_TransitAllowed _ _ _))))))
      refine wpQuiet_nil ?_
      intro w1 hw1
      have hz1 := ExtW.out hw1
      clear hw1 q0 q1 q2 q3 q4
      try clear cf1
      try clear cf2
      have cf3 := blk2 (Ext.block hz1 HB0.out.1)
      have cf4 := blk3 (Ext.block hz1 HB0.out.2)
      go_wp2_with fail
      go_ret
      exact ⟨ret_bool HE.out.symm, (hx0.trans hz1)⟩
    · rw [b2] at HE
      have cf5 := blk2 HB0.out.1
      have cf6 := blk3 HB0.out.2
      go_wp2_with fail
      refine wp_region_ext (by kernel_rfl) (by kernel_rfl) ?_
      have q0 := ExtW.cell (cf5.1)
      have q1 := ExtW.cell (cf5.2)
      have q2 := ExtW.cell (cf6.1)
      have q3 := ExtW.cell (cf6.2.1)
      have q4 := ExtW.cell (cf6.2.2)
      repeat (first | go_big_quiet_step (((first | (go_at_call 159; exact Calls.ext_of (i_InterfaceKind t _ _ _ _ _ ((hk.ext hx0).ext (ExtW.h _)))) | (go_at_call 158; exact Calls.ext_same (i_TransitAllowed _ _ _))))) | quiet_step (((first | (go_at_call 159; exact Calls.ext_of (i_InterfaceKind t _ _ _ _ _ ((hk.ext hx0).ext (ExtW.h _)))) | (go_at_call 158; exact Calls.ext_same (i_TransitAllowed _ _ _))))))
      refine wpQuiet_nil ?_
      intro w2 hw2
      have hz2 := ExtW.out hw2
      clear hw2 q0 q1 q2 q3 q4
      try clear cf5
      try clear cf6
      have cf7 := blk2 (Ext.block hz2 HB0.out.1)
      have cf8 := blk3 (Ext.block hz2 HB0.out.2)
      go_wp2_with fail
      go_ret
      exact ⟨ret_bool HE.out.symm, (hx0.trans hz2)⟩
  · have b1' : (s.ing != s.eg) = false := by simp only [bne, b1]; rfl
    cases b3 : (s.ing == 0)
    · have b3' : (s.ing != 0) = true := by simp only [bne, b3]; rfl
      have HE := Lib.hid (show stepOk t s = false by unfold stepOk; rw [b1', b3]; simp)
      cases b2 : transitOk (ifKind t s.asn s.ing) (ifKind t s.asn s.eg)
      · have cf9 := blk2 HB0.out.1
        have cf10 := blk3 HB0.out.2
        go_wp2_with fail
        refine wp_region_ext (by kernel_rfl) (by kernel_rfl) ?_
        have q0 := ExtW.cell (cf9.1)
        have q1 := ExtW.cell (cf9.2)
        have q2 := ExtW.cell (cf10.1)
        have q3 := ExtW.cell (cf10.2.1)
        have q4 := ExtW.cell (cf10.2.2)
        repeat (first | go_big_quiet_step (((first | (go_at_call 159; exact Calls.ext_of (i_InterfaceKind t _ _ _ _ _ ((hk.ext hx0).ext (ExtW.h _)))) | (go_at_call 158; exact Calls.ext_same (i_TransitAllowed _ _ _))))) | quiet_step (((first | (go_at_call 159; exact Calls.ext_of (i_InterfaceKind t _ _ _ _ _ ((hk.ext hx0).ext (ExtW.h _)))) | (go_at_call 158; exact Calls.ext_same (i_TransitAllowed _ _ _))))))
        refine wpQuiet_nil ?_
        intro w3 hw3
        have hz3 := ExtW.out hw3
        clear hw3 q0 q1 q2 q3 q4
        try clear cf9
        try clear cf10
        have cf11 := blk2 (Ext.block hz3 HB0.out.1)
        have cf12 := blk3 (Ext.block hz3 HB0.out.2)
        go_wp2_with fail
        go_ret
        exact ⟨ret_bool HE.out.symm, (hx0.trans hz3)⟩
      · have cf13 := blk2 HB0.out.1
        have cf14 := blk3 HB0.out.2
        go_wp2_with fail
        refine wp_region_ext (by kernel_rfl) (by kernel_rfl) ?_
        have q0 := ExtW.cell (cf13.1)
        have q1 := ExtW.cell (cf13.2)
        have q2 := ExtW.cell (cf14.1)
        have q3 := ExtW.cell (cf14.2.1)
        have q4 := ExtW.cell (cf14.2.2)
        repeat (first | go_big_quiet_step (((first | (go_at_call 159; exact Calls.ext_of (i_InterfaceKind t _ _ _ _ _ ((hk.ext hx0).ext (ExtW.h _)))) | (go_at_call 158; exact Calls.ext_same (i_TransitAllowed _ _ _))))) | quiet_step (((first | (go_at_call 159; exact Calls.ext_of (i_InterfaceKind t _ _ _ _ _ ((hk.ext hx0).ext (ExtW.h _)))) | (go_at_call 158; exact Calls.ext_same (i_TransitAllowed _ _ _))))))
        refine wpQuiet_nil ?_
        intro w4 hw4
        have hz4 := ExtW.out hw4
        clear hw4 q0 q1 q2 q3 q4
        try clear cf13
        try clear cf14
        have cf15 := blk2 (Ext.block hz4 HB0.out.1)
        have cf16 := blk3 (Ext.block hz4 HB0.out.2)
        go_wp2_with fail
        go_ret
        exact ⟨ret_bool HE.out.symm, (hx0.trans hz4)⟩
    · have b3' : (s.ing != 0) = false := by simp only [bne, b3]; rfl
      have HE := Lib.hid (show stepOk t s = transitOk (ifKind t s.asn s.ing) (ifKind t s.asn s.eg) by unfold stepOk; rw [b1', b3]; simp)
      cases b2 : transitOk (ifKind t s.asn s.ing) (ifKind t s.asn s.eg)
      · rw [b2] at HE
        have cf17 := blk2 HB0.out.1
        have cf18 := blk3 HB0.out.2
        go_wp2_with fail
        refine wp_region_ext (by kernel_rfl) (by kernel_rfl) ?_
        have q0 := ExtW.cell (cf17.1)
        have q1 := ExtW.cell (cf17.2)
        have q2 := ExtW.cell (cf18.1)
        have q3 := ExtW.cell (cf18.2.1)
        have q4 := ExtW.cell (cf18.2.2)
        repeat (first | go_big_quiet_step (((first | (go_at_call 159; exact Calls.ext_of (i_InterfaceKind t _ _ _ _ _ ((hk.ext hx0).ext (ExtW.h _)))) | (go_at_call 158; exact Calls.ext_same (i_TransitAllowed _ _ _))))) | quiet_step (((first | (go_at_call 159; exact Calls.ext_of (i_InterfaceKind t _ _ _ _ _ ((hk.ext hx0).ext (ExtW.h _)))) | (go_at_call 158; exact Calls.ext_same (i_TransitAllowed _ _ _))))))
        refine wpQuiet_nil ?_
        intro w5 hw5
        have hz5 := ExtW.out hw5
        clear hw5 q0 q1 q2 q3 q4
        try clear cf17
        try clear cf18
        have cf19 := blk2 (Ext.block hz5 HB0.out.1)
        have cf20 := blk3 (Ext.block hz5 HB0.out.2)
        go_wp2_with fail
        go_ret
        exact ⟨ret_bool HE.out.symm, (hx0.trans hz5)⟩
      · rw [b2] at HE
        have cf21 := blk2 HB0.out.1
        have cf22 := blk3 HB0.out.2
        go_wp2_with fail
        refine wp_region_ext (by kernel_rfl) (by kernel_rfl) ?_
        have q0 := ExtW.cell (cf21.1)
        have q1 := ExtW.cell (cf21.2)
        have q2 := ExtW.cell (cf22.1)
        have q3 := ExtW.cell (cf22.2.1)
        have q4 := ExtW.cell (cf22.2.2)
        repeat (first | go_big_quiet_step (((first | (go_at_call 159; exact Calls.ext_of (i_InterfaceKind t _ _ _ _ _ ((hk.ext hx0).ext (ExtW.h _)))) | (go_at_call 158; exact Calls.ext_same (i_TransitAllowed _ _ _))))) | quiet_step (((first | (go_at_call 159; exact Calls.ext_of (i_InterfaceKind t _ _ _ _ _ ((hk.ext hx0).ext (ExtW.h _)))) | (go_at_call 158; exact Calls.ext_same (i_TransitAllowed _ _ _))))))
        refine wpQuiet_nil ?_
        intro w6 hw6
        have hz6 := ExtW.out hw6
        clear hw6 q0 q1 q2 q3 q4
        try clear cf21
        try clear cf22
        have cf23 := blk2 (Ext.block hz6 HB0.out.1)
        have cf24 := blk3 (Ext.block hz6 HB0.out.2)
        go_wp2_with fail
        go_ret
        exact ⟨ret_bool HE.out.symm, (hx0.trans hz6)⟩

set_option maxRecDepth 100000 in
set_option maxHeartbeats 4000000 in
theorem s_StepAllowed (t : Topo) (v1 v2 : Value) (s : Step) (w : World) (hk : RdS Lnk.rep w v2 t.links) :
    Calls Tryz.prog 77 #[.agg #[v1, v2], .agg #[.int .i64 s.asn, .int .i64 s.ing, .int .i64 s.eg]] w fun e w' => e = .returned (.bool (stepOk t s)) ∧ Ext w w' := by
  have hx0 := ext2 w (.cells #[v1, v2] 47) (.cells #[.int .i64 s.asn, .int .i64 s.ing, .int .i64 s.eg] 85)
  have HB0 := Lib.hid (al2 w (.cells #[v1, v2] 47) (.cells #[.int .i64 s.asn, .int .i64 s.ing, .int .i64 s.eg] 85))
  go_enter Tryz.func77, Tryz.ntmps77
  cases b1 : (s.ing == s.eg)
  · have b1' : (s.ing != s.eg) = true := by simp only [bne, b1]; rfl
    have HE := Lib.hid (show stepOk t s = transitOk (ifKind t s.asn s.ing) (ifKind t s.asn s.eg) by unfold stepOk; rw [b1']; simp)
    have cf1 := blk2 HB0.out.1
    have cf2 := blk3 HB0.out.2
    go_wp2_with fail
    refine wp_region_ext (by kernel_rfl) (by kernel_rfl) ?_
    have q0 := ExtW.cell (cf1.1)
    have q1 := ExtW.cell (cf1.2)
    have q2 := ExtW.cell (cf2.1)
    have q3 := ExtW.cell (cf2.2.1)
    have q4 := ExtW.cell (cf2.2.2)
    repeat (first | go_big_quiet_step (((first | (go_at_call 113; exact Calls.ext_of (s_InterfaceKind t _ _ _ _ _ ((hk.ext hx0).ext (ExtW.h _)))) | (go_at_call 112; exact Calls.ext_same (s_TransitAllowed _ _ _))))) | quiet_step (((first | (go_at_call 113; exact Calls.ext_of (s_InterfaceKind t _ _ _ _ _ ((hk.ext hx0).ext (ExtW.h _)))) | (go_at_call 112; exact Calls.ext_same (s_TransitAllowed _ _ _))))))
    refine wpQuiet_nil ?_
    intro w1 hw1
    have hz1 := ExtW.out hw1
    clear hw1 q0 q1 q2 q3 q4
    try clear cf1
    try clear cf2
    have cf3 := blk2 (Ext.block hz1 HB0.out.1)
    have cf4 := blk3 (Ext.block hz1 HB0.out.2)
    go_wp2_with fail
    go_ret
    exact ⟨ret_bool HE.out.symm, (hx0.trans hz1)⟩
  · have b1' : (s.ing != s.eg) = false := by simp only [bne, b1]; rfl
    cases b3 : (s.ing == 0)
    · have b3' : (s.ing != 0) = true := by simp only [bne, b3]; rfl
      have HE := Lib.hid (show stepOk t s = false by unfold stepOk; rw [b1', b3]; simp)
      have cf5 := blk2 HB0.out.1
      have cf6 := blk3 HB0.out.2
      go_wp2_with fail
      go_ret
      exact ⟨ret_bool HE.out.symm, hx0⟩
    · have b3' : (s.ing != 0) = false := by simp only [bne, b3]; rfl
      have HE := Lib.hid (show stepOk t s = transitOk (ifKind t s.asn s.ing) (ifKind t s.asn s.eg) by unfold stepOk; rw [b1', b3]; simp)
      have cf7 := blk2 HB0.out.1
      have cf8 := blk3 HB0.out.2
      go_wp2_with fail
      refine wp_region_ext (by kernel_rfl) (by kernel_rfl) ?_
      have q0 := ExtW.cell (cf7.1)
      have q1 := ExtW.cell (cf7.2)
      have q2 := ExtW.cell (cf8.1)
      have q3 := ExtW.cell (cf8.2.1)
      have q4 := ExtW.cell (cf8.2.2)
      repeat (first | go_big_quiet_step (((first | (go_at_call 113; exact Calls.ext_of (s_InterfaceKind t _ _ _ _ _ ((hk.ext hx0).ext (ExtW.h _)))) | (go_at_call 112; exact Calls.ext_same (s_TransitAllowed _ _ _))))) | quiet_step (((first | (go_at_call 113; exact Calls.ext_of (s_InterfaceKind t _ _ _ _ _ ((hk.ext hx0).ext (ExtW.h _)))) | (go_at_call 112; exact Calls.ext_same (s_TransitAllowed _ _ _))))))
      refine wpQuiet_nil ?_
      intro w2 hw2
      have hz2 := ExtW.out hw2
      clear hw2 q0 q1 q2 q3 q4
      try clear cf7
      try clear cf8
      have cf9 := blk2 (Ext.block hz2 HB0.out.1)
      have cf10 := blk3 (Ext.block hz2 HB0.out.2)
      go_wp2_with fail
      go_ret
      exact ⟨ret_bool HE.out.symm, (hx0.trans hz2)⟩

set_option maxHeartbeats 4000000 in
theorem i_Contains (s i : Int) (w : World) :
    Calls Tryz.prog 127 #[.int .i64 s, .int .i64 i] w fun e w' => e = .returned (.bool (inSet s i)) ∧ w = w' := by
  go_enter Tryz.func127, Tryz.ntmps127

  go_wp2_with fail
  refine (i_ValidSet _ _).mono ?_
  rintro e w1 ⟨rfl, rfl⟩
  cases h1 : inR s 0 65535
  · have HE := Lib.hid (show inSet s i = false by unfold inSet; rw [h1]; rfl)
    go_wp2_with fail
    go_ret
    exact ⟨ret_bool HE.out.symm, rfl⟩
  · go_wp2_with fail
    refine (i_InRange _ _ _ _).mono ?_
    rintro e w1 ⟨rfl, rfl⟩
    cases h2 : inR i 0 15
    · have HE := Lib.hid (show inSet s i = false by unfold inSet; rw [h1, h2]; rfl)
      go_wp2_with fail
      go_ret
      exact ⟨ret_bool HE.out.symm, rfl⟩
    · have HE := Lib.hid (show inSet s i = bitAt s i.toNat by unfold inSet; rw [h1, h2]; rfl)
      obtain ⟨a1, a2⟩ := inR_true.1 h1
      obtain ⟨a3, a4⟩ := inR_true.1 h2
      clear h1 h2
      have hi : i = 0 ∨ i = 1 ∨ i = 2 ∨ i = 3 ∨ i = 4 ∨ i = 5 ∨ i = 6 ∨ i = 7 ∨ i = 8 ∨ i = 9 ∨ i = 10 ∨ i = 11 ∨ i = 12 ∨ i = 13 ∨ i = 14 ∨ i = 15 := by omega
      clear a3 a4
      rcases hi with rfl | rfl | rfl | rfl | rfl | rfl | rfl | rfl | rfl | rfl | rfl | rfl | rfl | rfl | rfl | rfl
      all_goals
        go_wp2_with fail
        go_ret
        exact ⟨ret_bool (by rw [HE.out]; unfold bitAt; rw [and1 _ (by omega) (by omega)]; first | rfl | simp), rfl⟩

set_option maxHeartbeats 4000000 in
theorem s_Contains (s i : Int) (w : World) :
    Calls Tryz.prog 78 #[.int .i64 s, .int .i64 i] w fun e w' => e = .returned (.bool (inSet s i)) ∧ w = w' := by
  go_enter Tryz.func78, Tryz.ntmps78

  go_wp2_with fail
  refine (s_ValidSet _ _).mono ?_
  rintro e w1 ⟨rfl, rfl⟩
  cases h1 : inR s 0 65535
  · have HE := Lib.hid (show inSet s i = false by unfold inSet; rw [h1]; rfl)
    go_wp2_with fail
    go_ret
    exact ⟨ret_bool HE.out.symm, rfl⟩
  · go_wp2_with fail
    refine (s_l4One _ _).mono ?_
    rintro e w1 ⟨rfl, rfl⟩
    cases h2 : inR i 0 15
    · have HE := Lib.hid (show inSet s i = false by unfold inSet; rw [h1, h2]; rfl)
      go_wp2_with fail
      go_ret
      exact ⟨ret_bool HE.out.symm, rfl⟩
    · have HE := Lib.hid (show inSet s i = bitAt s i.toNat by unfold inSet; rw [h1, h2]; rfl)
      obtain ⟨a1, a2⟩ := inR_true.1 h1
      obtain ⟨a3, a4⟩ := inR_true.1 h2
      clear h1 h2
      have hi : i = 0 ∨ i = 1 ∨ i = 2 ∨ i = 3 ∨ i = 4 ∨ i = 5 ∨ i = 6 ∨ i = 7 ∨ i = 8 ∨ i = 9 ∨ i = 10 ∨ i = 11 ∨ i = 12 ∨ i = 13 ∨ i = 14 ∨ i = 15 := by omega
      clear a3 a4
      rcases hi with rfl | rfl | rfl | rfl | rfl | rfl | rfl | rfl | rfl | rfl | rfl | rfl | rfl | rfl | rfl | rfl
      all_goals
        go_wp2_with fail
        go_ret
        exact ⟨ret_bool (by rw [HE.out]; unfold bitAt; rw [and1 _ (by omega) (by omega)]; first | rfl | simp), rfl⟩

end Go.Proofs.YtiabfgebfjmplaaGreat
