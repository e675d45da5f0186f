/- Contracts of kinds of interfaces, of steps that are allowed, and of members of a set, program and reference. No condition but the bounds that each theorem names. -/
import Derived.Test.YtkolfiedakojoaaW21v
import Derived.Test.YtkolfiedakojoaaTyStep
import Derived.Test.YtkolfiedakojoaaPlain02
namespace Go.Proofs.Ytkolfiedakojoaa
open Go.ChangeShapes Go.WideShapes Go.ChangeAt Go.RowKit Go.Deep

theorem ifKind_at {t : Topo} {r d : Int} (hd : (d == 0) = false) (h : ¬ linkIdx t.links r d < 0) (hl : (linkIdx t.links r d).toNat < t.links.length) :
    ifKind t r d = (if t.links[(linkIdx t.links r d).toNat].kind == 1 then 1 else if t.links[(linkIdx t.links r d).toNat].kind == 3 then 4 else if t.links[(linkIdx t.links r d).toNat].kind == 2 then (if (t.links[(linkIdx t.links r d).toNat].a == r) && (t.links[(linkIdx t.links r d).toNat].ai == d) then 2 else 3) else 0) := by
  unfold ifKind; rw [hd, if_neg (by decide), if_neg h, List.getElem?_eq_getElem hl]

theorem and1 (m : Int) (h0 : 0 ≤ m) (h1 : m < 9223372036854775808) : bits .and .i64 m 1 = m % 2 := by
  obtain ⟨k, rfl⟩ := Int.eq_ofNat_of_zero_le h0
  have := and_nat k 1 (by omega) (by omega)
  have h2 : k &&& 1 = k % 2 := Nat.and_two_pow_sub_one_eq_mod k 1
  rw [h2] at this
  have e : ((1 : Nat) : Int) = 1 := rfl
  rw [e] at this
  rw [this]; omega

set_option maxHeartbeats 2000000 in
theorem i_InterfaceKind (t : Topo) (v1 v2 : Value) (r d : Int) (w : World) (hk : RdS Lnk.rep w v2 t.links) :
    Calls Try.prog 126 #[.agg #[v1, v2], .int .i64 r, .int .i64 d] w fun e w' => e = .returned (.int .i64 (ifKind t r d)) ∧ Ext w w' := by
  obtain ⟨o, cap, rfl, hsm⟩ := hk.shape
  have hx0 : Ext w (w.alloc (.cells #[v1, .slice o t.links.length cap] 59)) := (Ext.refl _).alloc _
  have HB0 := Lib.hid (blk_new w (.cells #[v1, .slice o t.links.length cap] 59))
  go_enter Try.func126, Try.ntmps126
  cases b0 : (d == 0)
  · have cf1 := blk2 HB0.out
    go_wp2_with fail
    refine (i_LinkIndex t _ _ r d _ (hk.ext hx0)).mono ?_
    rintro e w1 ⟨rfl, hz1⟩
    have hil := linkIdx_lt t.links r d
    by_cases hn : linkIdx t.links r d < 0
    · have HE := Lib.hid (show ifKind t r d = 0 by unfold ifKind; rw [b0, if_neg (by decide), if_pos hn])
      try clear cf1
      have cf2 := blk2 (Ext.block hz1 HB0.out)
      go_wp2_with fail
      go_ret
      exact ⟨ret_int HE.out.symm, (hx0.trans hz1)⟩
    · have hin : (linkIdx t.links r d).toNat < t.links.length := by omega
      have HE := Lib.hid (ifKind_at b0 hn hin)
      have hn0 : 0 ≤ linkIdx t.links r d := by omega
      obtain ⟨b, off, rfl, hc⟩ := Lnk.at (hk.ext (hx0.trans hz1)) _ hin
      generalize linkIdx t.links r d = i at *
      generalize t.links[i.toNat] = x at *
      try clear cf1
      have cf3 := blk2 (Ext.block hz1 HB0.out)
      have hxl := (hx0.trans hz1).alloc (.cells #[.int .i64 x.a, .int .i64 x.ai, .int .i64 x.b, .int .i64 x.bi, .int .i64 x.kind] 174)
      cases b1 : (x.kind == 1) <;> cases b2 : (x.kind == 3) <;> cases b3 : (x.kind == 2) <;> cases b4 : (x.a == r) <;> cases b5 : (x.ai == d)
      all_goals
        have b3' : (x.kind != 2) = !(x.kind == 2) := rfl
        rw [b3] at b3'
        first | replace b3' : (x.kind != 2) = true := b3' | replace b3' : (x.kind != 2) = false := b3'
        go_wp2_with fail
        go_ret
        exact ⟨ret_int (by rw [HE.out, b1, b2, b3, b4, b5]; rfl), hxl⟩
  · have HE := Lib.hid (show ifKind t r d = 5 by unfold ifKind; rw [b0]; rfl)
    have cf4 := blk2 HB0.out
    go_wp2_with fail
    go_ret
    exact ⟨ret_int HE.out.symm, hx0⟩

set_option maxHeartbeats 2000000 in
theorem s_InterfaceKind (t : Topo) (v1 v2 : Value) (r d : Int) (w : World) (hk : RdS Lnk.rep w v2 t.links) :
    Calls Try.prog 129 #[.agg #[v1, v2], .int .i64 r, .int .i64 d] w fun e w' => e = .returned (.int .i64 (ifKind t r d)) ∧ Ext w w' := by
  obtain ⟨o, cap, rfl, hsm⟩ := hk.shape
  have hx0 : Ext w (w.alloc (.cells #[v1, .slice o t.links.length cap] 59)) := (Ext.refl _).alloc _
  have HB0 := Lib.hid (blk_new w (.cells #[v1, .slice o t.links.length cap] 59))
  go_enter Try.func129, Try.ntmps129
  cases b0 : (d == 0)
  · have cf1 := blk2 HB0.out
    go_wp2_with fail
    refine (s_LinkIndex t _ _ r d _ (hk.ext hx0)).mono ?_
    rintro e w1 ⟨rfl, hz1⟩
    have hil := linkIdx_lt t.links r d
    by_cases hn : linkIdx t.links r d < 0
    · have HE := Lib.hid (show ifKind t r d = 0 by unfold ifKind; rw [b0, if_neg (by decide), if_pos hn])
      try clear cf1
      have cf2 := blk2 (Ext.block hz1 HB0.out)
      go_wp2_with fail
      go_ret
      exact ⟨ret_int HE.out.symm, (hx0.trans hz1)⟩
    · have hin : (linkIdx t.links r d).toNat < t.links.length := by omega
      have HE := Lib.hid (ifKind_at b0 hn hin)
      have hn0 : 0 ≤ linkIdx t.links r d := by omega
      obtain ⟨b, off, rfl, hc⟩ := Lnk.at (hk.ext (hx0.trans hz1)) _ hin
      generalize linkIdx t.links r d = i at *
      generalize t.links[i.toNat] = x at *
      try clear cf1
      have cf3 := blk2 (Ext.block hz1 HB0.out)
      have hxl := (hx0.trans hz1).alloc (.cells #[.int .i64 x.a, .int .i64 x.ai, .int .i64 x.b, .int .i64 x.bi, .int .i64 x.kind] 174)
      cases b1 : (x.kind == 1) <;> cases b2 : (x.kind == 3) <;> cases b3 : (x.kind == 2) <;> cases b4 : (x.a == r) <;> cases b5 : (x.ai == d)
      all_goals
        have b3' : (x.kind != 2) = !(x.kind == 2) := rfl
        rw [b3] at b3'
        first | replace b3' : (x.kind != 2) = true := b3' | replace b3' : (x.kind != 2) = false := b3'
        go_wp2_with fail
        go_ret
        exact ⟨ret_int (by rw [HE.out, b1, b2, b3, b4, b5]; rfl), hxl⟩
  · have HE := Lib.hid (show ifKind t r d = 5 by unfold ifKind; rw [b0]; rfl)
    have cf4 := blk2 HB0.out
    go_wp2_with fail
    go_ret
    exact ⟨ret_int HE.out.symm, hx0⟩





set_option maxHeartbeats 4000000 in
theorem i_Contains (s i : Int) (w : World) :
    Calls Try.prog 188 #[.int .i64 s, .int .i64 i] w fun e w' => e = .returned (.bool (inSet s i)) ∧ w = w' := by
  go_enter Try.func188, Try.ntmps188

  go_wp2_with fail
  refine (i_ValidSet _ _).mono ?_
  rintro e w1 ⟨rfl, rfl⟩
  cases h1 : inR s 0 65535
  · have HE := Lib.hid (show inSet s i = false by unfold inSet; rw [h1]; rfl)
    go_wp2_with fail
    go_ret
    exact ⟨ret_bool HE.out.symm, rfl⟩
  · go_wp2_with fail
    refine (i_InRange _ _ _ _).mono ?_
    rintro e w1 ⟨rfl, rfl⟩
    cases h2 : inR i 0 15
    · have HE := Lib.hid (show inSet s i = false by unfold inSet; rw [h1, h2]; rfl)
      go_wp2_with fail
      go_ret
      exact ⟨ret_bool HE.out.symm, rfl⟩
    · have HE := Lib.hid (show inSet s i = bitAt s i.toNat by unfold inSet; rw [h1, h2]; rfl)
      obtain ⟨a1, a2⟩ := inR_true.1 h1
      obtain ⟨a3, a4⟩ := inR_true.1 h2
      clear h1 h2
      have hi : i = 0 ∨ i = 1 ∨ i = 2 ∨ i = 3 ∨ i = 4 ∨ i = 5 ∨ i = 6 ∨ i = 7 ∨ i = 8 ∨ i = 9 ∨ i = 10 ∨ i = 11 ∨ i = 12 ∨ i = 13 ∨ i = 14 ∨ i = 15 := by omega
      clear a3 a4
      rcases hi with rfl | rfl | rfl | rfl | rfl | rfl | rfl | rfl | rfl | rfl | rfl | rfl | rfl | rfl | rfl | rfl
      all_goals
        go_wp2_with fail
        go_ret
        exact ⟨ret_bool (by rw [HE.out]; unfold bitAt; rw [and1 _ (by omega) (by omega)]; first | rfl | simp), rfl⟩

set_option maxHeartbeats 4000000 in
theorem s_Contains (s i : Int) (w : World) :
    Calls Try.prog 191 #[.int .i64 s, .int .i64 i] w fun e w' => e = .returned (.bool (inSet s i)) ∧ w = w' := by
  go_enter Try.func191, Try.ntmps191

  go_wp2_with fail
  refine (s_ValidSet _ _).mono ?_
  rintro e w1 ⟨rfl, rfl⟩
  cases h1 : inR s 0 65535
  · have HE := Lib.hid (show inSet s i = false by unfold inSet; rw [h1]; rfl)
    go_wp2_with fail
    go_ret
    exact ⟨ret_bool HE.out.symm, rfl⟩
  · go_wp2_with fail
    refine (s_l4One _ _).mono ?_
    rintro e w1 ⟨rfl, rfl⟩
    cases h2 : inR i 0 15
    · have HE := Lib.hid (show inSet s i = false by unfold inSet; rw [h1, h2]; rfl)
      go_wp2_with fail
      go_ret
      exact ⟨ret_bool HE.out.symm, rfl⟩
    · have HE := Lib.hid (show inSet s i = bitAt s i.toNat by unfold inSet; rw [h1, h2]; rfl)
      obtain ⟨a1, a2⟩ := inR_true.1 h1
      obtain ⟨a3, a4⟩ := inR_true.1 h2
      clear h1 h2
      have hi : i = 0 ∨ i = 1 ∨ i = 2 ∨ i = 3 ∨ i = 4 ∨ i = 5 ∨ i = 6 ∨ i = 7 ∨ i = 8 ∨ i = 9 ∨ i = 10 ∨ i = 11 ∨ i = 12 ∨ i = 13 ∨ i = 14 ∨ i = 15 := by omega
      clear a3 a4
      rcases hi with rfl | rfl | rfl | rfl | rfl | rfl | rfl | rfl | rfl | rfl | rfl | rfl | rfl | rfl | rfl | rfl
      all_goals
        go_wp2_with fail
        go_ret
        exact ⟨ret_bool (by rw [HE.out]; unfold bitAt; rw [and1 _ (by omega) (by omega)]; first | rfl | simp), rfl⟩

end Go.Proofs.Ytkolfiedakojoaa
