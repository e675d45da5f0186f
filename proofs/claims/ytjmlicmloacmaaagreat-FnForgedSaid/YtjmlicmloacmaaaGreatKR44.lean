/- What these laws need: FnForged, FnReplies: Contracts of links, interfaces and failed interfaces of a topology, program and reference. Contracts of kinds of interfaces, of steps that are allowed, and of members of a set, program and reference. Whether all steps of a path are allowed, program. -/
import Derived.Test.YtjmlicmloacmaaaGreatKR19
import Derived.Test.YtjmlicmloacmaaaGreatKR28
import Derived.Test.YtjmlicmloacmaaaGreatKR42
import Derived.Test.YtjmlicmloacmaaaGreatKR43
namespace Go.Proofs.YtjmlicmloacmaaaGreat
section
open Go.ChangeShapes Go.WideShapes Go.ChangeAt Go.RowKit Go.Deep
theorem addEl_no1 {s i : Int} (h : inR s 0 65535 = false) : addEl s i = s := by simp [addEl, h]
theorem addEl_no2 {s i : Int} (h : inR i 0 15 = false) : addEl s i = s := by simp [addEl, h]
theorem addEl_yes {s i : Int} (h : inR s 0 65535 = true) (h2 : inR i 0 15 = true) : addEl s i = orI s (2 ^ i.toNat) := by simp [addEl, h, h2]
set_option maxRecDepth 100000 in
set_option maxHeartbeats 2000000 in
theorem i_Interfaces (t : Topo) (v1 v2 : Value) (r : Int) (w : World) (h2 : RdS Lnk.rep w v2 t.links) (hl : t.links.length ≤ 1048576) :
  Calls Tryz.prog 211 #[.agg #[v1, v2], .int .i64 r] w fun e w' => ∃ v', e = .returned v' ∧ OwnF intF 1 w.heap.size 3 w' v' (topoIfs t.links r) ∧ Ext w w' := by
 obtain ⟨o, cap, rfl, hsm⟩ := h2.shape
 have hx0 : Ext w (w.alloc (.cells #[v1, .slice o t.links.length cap] 33)) := (Ext.refl _).alloc _
 have hB := blk_new w (.cells #[v1, .slice o t.links.length cap] 33)
 have ho0 := OwnF.nil intF 1 w.heap.size 3 (w.alloc (.cells #[v1, .slice o t.links.length cap] 33))
 have HB := Lib.hid hB; clear hB
 have hv := h2.ext hx0
 have hTI : topoIfs t.links r = t.links.foldl (ifStep r) [] := rfl
 have HTI := Lib.hid hTI; clear hTI
 generalize t.links = l at *
 go_enter Tryz.func211, Tryz.ntmps211
 go_wp2
 go_loopg [5, 11] l.length (fun gk out i wr => ∃ (k : Nat) (xs : List Int), gk + k = l.length ∧ i = .int .i64 k ∧ Hid (xs = (l.take k).foldl (ifStep r) []) ∧ xs.length ≤ 2 * k ∧ OwnF intF 1 w.heap.size 3 wr out xs ∧ Ext (w.alloc (.cells #[v1, .slice o l.length cap] 33)) wr)
 case atStart => exact ⟨0, [], rfl, rfl, Lib.hid rfl, Nat.le_refl _, ho0, Ext.refl _⟩
 case round =>
  obtain ⟨k, xs, hgk, rfl, HX, hxl, hown, hx⟩ := hrel
  have hc0 := blk2 (Ext.block hx HB.out)
  obtain ⟨oo, co, rfl, _⟩ := (ints_rep hown).shape
  have hsz := hown
  by_cases hlt : k < l.length
  ·
   obtain ⟨b, off, rfl, hc⟩ := Lnk.at (hv.ext hx) k hlt
   have hg' : gk - 1 + (k + 1) = l.length ∧ gk - 1 < gk := by omega
   have HG := Lib.hid hg'; clear hg' hgk
   have hst : (l.take (k + 1)).foldl (ifStep r) [] = ifStep r xs l[k] := by rw [foldl_snoc _ _ hlt, HX.out]
   have HST := Lib.hid hst; clear hst
   have hwr : w.heap.size ≤ wr.heap.size := (hx0.trans hx).size
   have hi1 := insInt_len l[k].ai xs
   have hi2 := insInt_len l[k].bi xs
   have hi3 := insInt_len l[k].bi (insInt l[k].ai xs)
   have hxa : Ext wr (wr.alloc (.cells #[.int .i64 l[k].a, .int .i64 l[k].ai, .int .i64 l[k].b, .int .i64 l[k].bi, .int .i64 l[k].kind] 195)) := (Ext.refl _).alloc _
   have hBk := blk_new wr (.cells #[.int .i64 l[k].a, .int .i64 l[k].ai, .int .i64 l[k].b, .int .i64 l[k].bi, .int .i64 l[k].kind] 195)
   have HBK := Lib.hid hBk; clear hBk
   have hoa := hown.ext hxa
   clear hsz hown
   cases ha : (l[k].a == r)
   ·
    cases hb : (l[k].b == r)
    ·
     have hes : ifStep r xs l[k] = xs := by unfold ifStep; rw [ha, hb]; rfl
     have HE := Lib.hid (hes.symm.trans HST.out.symm); clear hes
     go_wp2_with fail
     go_roundg (gk - 1)
     case measure => exact HG.out.2
     case rel => exact ⟨k + 1, _, HG.out.1, by go_num, HE, by omega, hoa, hx.trans hxa⟩
    ·
     have hes : ifStep r xs l[k] = insInt l[k].bi xs := by unfold ifStep; rw [ha, hb]; rfl
     have HE := Lib.hid (hes.symm.trans HST.out.symm); clear hes
     go_wp2_with fail
     refine (i_insertInt xs _ l[k].bi w.heap.size _ hoa (Nat.le_trans hwr hxa.size) (by omega)).mono ?_
     rintro e w2 ⟨v2, rfl, o2, k2⟩
     go_wp2_with fail
     go_roundg (gk - 1)
     case measure => exact HG.out.2
     case rel => exact ⟨k + 1, _, HG.out.1, by go_num, HE, by omega, o2, (hx.trans hxa).trans k2⟩
   ·
    go_wp2_with fail
    refine (i_insertInt xs _ l[k].ai w.heap.size _ hoa (Nat.le_trans hwr hxa.size) (by omega)).mono ?_
    rintro e w2 ⟨v2, rfl, o2, k2⟩
    obtain ⟨oo2, co2, rfl, _⟩ := (ints_rep o2).shape
    have hcb := blk5 (Ext.block k2 HBK.out)
    cases hb : (l[k].b == r)
    ·
     have hes : ifStep r xs l[k] = insInt l[k].ai xs := by unfold ifStep; rw [ha, hb]; rfl
     have HE := Lib.hid (hes.symm.trans HST.out.symm); clear hes
     go_wp2_with fail
     go_roundg (gk - 1)
     case measure => exact HG.out.2
     case rel => exact ⟨k + 1, _, HG.out.1, by go_num, HE, by omega, o2, (hx.trans hxa).trans k2⟩
    ·
     have hes : ifStep r xs l[k] = insInt l[k].bi (insInt l[k].ai xs) := by unfold ifStep; rw [ha, hb]; rfl
     have HE := Lib.hid (hes.symm.trans HST.out.symm); clear hes
     go_wp2_with fail
     refine (i_insertInt _ _ l[k].bi w.heap.size _ o2 (Nat.le_trans hwr (hxa.trans k2).size) (by omega)).mono ?_
     rintro e w3 ⟨v3, rfl, o3, k3⟩
     go_wp2_with fail
     go_roundg (gk - 1)
     case measure => exact HG.out.2
     case rel => exact ⟨k + 1, _, HG.out.1, by go_num, HE, by omega, o3, ((hx.trans hxa).trans k2).trans k3⟩
  ·
   have hxs : xs = topoIfs l r := by
    have := HX.out
    rw [List.take_of_length_le (by omega)] at this
    exact this
   have HXS := Lib.hid hxs; clear hxs
   go_wp2
   go_ret
   rw [← HXS.out]
   exact ⟨_, rfl, hown, hx0.trans hx⟩
set_option maxHeartbeats 400000 in
theorem i_ValidSet (n : Int) (w : World) : Calls Tryz.prog 207 #[.int .i64 n] w fun e w' => e = .returned (.bool (inR n 0 65535)) ∧ w = w' := by
 go_enter Tryz.func207, Tryz.ntmps207
 go_wp2_with fail
 refine (i_InRange _ _ _ _).mono ?_
 rintro e w1 ⟨rfl, rfl⟩
 go_wp2_with fail
 go_ret
 exact ⟨rfl, rfl⟩
set_option maxHeartbeats 4000000 in
theorem i_AddElement (s i : Int) (w : World) : Calls Tryz.prog 212 #[.int .i64 s, .int .i64 i] w fun e w' => e = .returned (.int .i64 (addEl s i)) ∧ w = w' := by
 go_enter Tryz.func212, Tryz.ntmps212
 go_wp2_with fail
 refine (i_ValidSet _ _).mono ?_
 rintro e w1 ⟨rfl, rfl⟩
 cases h1 : inR s 0 65535
 ·
  have HE := Lib.hid (addEl_no1 (i := i) h1)
  go_wp2_with fail
  go_ret
  exact ⟨ret_int HE.out.symm, rfl⟩
 ·
  go_wp2_with fail
  refine (i_InRange _ _ _ _).mono ?_
  rintro e w1 ⟨rfl, rfl⟩
  cases h2 : inR i 0 15
  ·
   have HE := Lib.hid (addEl_no2 (s := s) h2)
   go_wp2_with fail
   go_ret
   exact ⟨ret_int HE.out.symm, rfl⟩
  ·
   have HE := Lib.hid (addEl_yes h1 h2)
   obtain ⟨a3, a4⟩ := inR_true.1 h2
   clear h2
   have hi : i = 0 ∨ i = 1 ∨ i = 2 ∨ i = 3 ∨ i = 4 ∨ i = 5 ∨ i = 6 ∨ i = 7 ∨ i = 8 ∨ i = 9 ∨ i = 10 ∨ i = 11 ∨ i = 12 ∨ i = 13 ∨ i = 14 ∨ i = 15 := by omega
   clear a3 a4
   rcases hi with rfl | rfl | rfl | rfl | rfl | rfl | rfl | rfl | rfl | rfl | rfl | rfl | rfl | rfl | rfl | rfl
   all_goals
    go_wp2_with fail
    go_ret
    exact ⟨ret_int (HE.out.trans rfl).symm, rfl⟩
set_option maxRecDepth 100000 in
set_option maxHeartbeats 2000000 in
theorem i_FailedInterfaces (t : Topo) (v1 v2 : Value) (dead : List Int) (vd : Value) (r : Int) (w : World) (_ : RdS ASd.rep w v1 t.ases) (h2 : RdS Lnk.rep w v2 t.links) (hd : RdS Rep.int w vd dead) (hlt : t.size ≤ 1048576) :
  Calls Tryz.prog 113 #[.agg #[v1, v2], vd, .int .i64 r] w fun e w' => e = .returned (.int .i64 (failedIfs t dead r)) ∧ Ext w w' := by
 have hl : t.links.length ≤ 1048576 := by unfold Topo.size at hlt; omega
 clear hlt
 have hx0 : Ext w (w.alloc (.cells #[v1, v2] 33)) := (Ext.refl _).alloc _
 have hB := blk_new w (.cells #[v1, v2] 33)
 have HB := Lib.hid hB; clear hB
 go_enter Tryz.func113, Tryz.ntmps113
 go_wp2_with fail
 refine (i_Interfaces t _ _ r _ (h2.ext hx0) hl).mono ?_
 rintro e w1 ⟨u1, rfl, o1, hx1⟩
 have hFI : failedIfs t dead r = (topoIfs t.links r).foldl (failStep t dead r) 0 := rfl
 have HFI := Lib.hid hFI; clear hFI
 have htl := topoIfs_len t.links r
 generalize topoIfs t.links r = l at *
 obtain ⟨oa, ca, rfl, hsa⟩ := (ints_rep o1).shape
 go_wp2
 go_loopg [7, 14] l.length (fun gk s i wr => ∃ (k : Nat), gk + k = l.length ∧ i = .int .i64 k ∧ s = .int .i64 ((l.take k).foldl (failStep t dead r) 0) ∧ Ext w1 wr)
 case atStart => exact ⟨0, rfl, rfl, rfl, Ext.refl _⟩
 case round =>
  obtain ⟨k, hgk, rfl, rfl, hx⟩ := hrel
  have hc0 := blk2 (Ext.block (hx1.trans hx) HB.out)
  by_cases hlt : k < l.length
  ·
   obtain ⟨b, off, rfl, hc⟩ := ints_at ((ints_rep o1).ext hx) k hlt
   have hg' : gk - 1 + (k + 1) = l.length ∧ gk - 1 < gk := by omega
   have HG := Lib.hid hg'; clear hg' hgk
   have HS := Lib.hid (foldl_snoc (failStep t dead r) 0 hlt)
   generalize (l.take k).foldl (failStep t dead r) 0 = s at *
   have hX := (hx0.trans hx1).trans hx
   go_wp2_with fail
   refine (i_LinkIndex t _ _ r l[k] _ (h2.ext hX)).mono ?_
   rintro e w2 ⟨rfl, k2⟩
   go_wp2_with fail
   refine (i_hasInt dead _ _ _ (hd.ext (hX.trans k2))).mono ?_
   rintro e w3 ⟨rfl, rfl⟩
   have hx2 : Ext wr w2 := k2
   cases hh : hasI dead (linkIdx t.links r l[k])
   ·
    have hes : failStep t dead r s l[k] = s := by unfold failStep; rw [hh]; rfl
    have HE := Lib.hid (HS.out.trans hes); clear hes
    go_wp2_with fail
    go_roundg (gk - 1)
    case measure => exact HG.out.2
    case rel => exact ⟨k + 1, HG.out.1, by go_num, by rw [HE.out], hx.trans hx2⟩
   ·
    have hes : failStep t dead r s l[k] = addEl s l[k] := by unfold failStep; rw [hh]; rfl
    have HE := Lib.hid (HS.out.trans hes); clear hes
    have hc2 := hx2.cell hc
    go_wp2_with fail
    refine (i_AddElement _ _ _).mono ?_
    rintro e w4 ⟨rfl, rfl⟩
    go_wp2_with fail
    go_roundg (gk - 1)
    case measure => exact HG.out.2
    case rel => exact ⟨k + 1, HG.out.1, by go_num, by rw [HE.out], hx.trans hx2⟩
  ·
   have hy : failedIfs t dead r = (l.take k).foldl (failStep t dead r) 0 := by rw [HFI.out, List.take_of_length_le (by omega)]
   have HY := Lib.hid hy; clear hy
   generalize (l.take k).foldl (failStep t dead r) 0 = s at *
   go_wp2
   go_ret
   exact ⟨ret_int HY.out.symm, (hx0.trans hx1).trans hx⟩
end
section
open Go.ChangeShapes Go.WideShapes Go.ChangeAt Go.RowKit Go.Deep
set_option maxHeartbeats 2000000 in
theorem i_InterfaceKind (t : Topo) (v1 v2 : Value) (r d : Int) (w : World) (hk : RdS Lnk.rep w v2 t.links) :
  Calls Tryz.prog 151 #[.agg #[v1, v2], .int .i64 r, .int .i64 d] w fun e w' => e = .returned (.int .i64 (ifKind t r d)) ∧ Ext w w' := by
 obtain ⟨o, cap, rfl, hsm⟩ := hk.shape
 have hx0 : Ext w (w.alloc (.cells #[v1, .slice o t.links.length cap] 33)) := (Ext.refl _).alloc _
 have HB0 := Lib.hid (blk_new w (.cells #[v1, .slice o t.links.length cap] 33))
 go_enter Tryz.func151, Tryz.ntmps151
 cases b0 : (d == 0)
 ·
  have cf1 := blk2 HB0.out
  go_wp2_with fail
  refine (i_LinkIndex t _ _ r d _ (hk.ext hx0)).mono ?_
  rintro e w1 ⟨rfl, hz1⟩
  have hil := linkIdx_lt t.links r d
  by_cases hn : linkIdx t.links r d < 0
  ·
   have HE := Lib.hid (show ifKind t r d = 0 by unfold ifKind; rw [b0, if_neg (by decide), if_pos hn])
   try clear cf1
   have cf2 := blk2 (Ext.block hz1 HB0.out)
   go_wp2_with fail
   go_ret
   exact ⟨ret_int HE.out.symm, (hx0.trans hz1)⟩
  ·
   have hin : (linkIdx t.links r d).toNat < t.links.length := by omega
   have HE := Lib.hid (ifKind_at b0 hn hin)
   have hn0 : 0 ≤ linkIdx t.links r d := by omega
   obtain ⟨b, off, rfl, hc⟩ := Lnk.at (hk.ext (hx0.trans hz1)) _ hin
   generalize linkIdx t.links r d = i at *
   generalize t.links[i.toNat] = x at *
   try clear cf1
   have cf3 := blk2 (Ext.block hz1 HB0.out)
   have hxl := (hx0.trans hz1).alloc (.cells #[.int .i64 x.a, .int .i64 x.ai, .int .i64 x.b, .int .i64 x.bi, .int .i64 x.kind] 195)
   cases b1 : (x.kind == 1) <;> cases b2 : (x.kind == 3) <;> cases b3 : (x.kind == 2) <;> cases b4 : (x.a == r) <;> cases b5 : (x.ai == d)
   all_goals
    have b3' : (x.kind != 2) = !(x.kind == 2) := rfl
    rw [b3] at b3'
    first | replace b3' : (x.kind != 2) = true := b3' | replace b3' : (x.kind != 2) = false := b3'
    go_wp2_with fail
    go_ret
    exact ⟨ret_int (by rw [HE.out, b1, b2, b3, b4, b5]; rfl), hxl⟩
 ·
  have HE := Lib.hid (show ifKind t r d = 5 by unfold ifKind; rw [b0]; rfl)
  have cf4 := blk2 HB0.out
  go_wp2_with fail
  go_ret
  exact ⟨ret_int HE.out.symm, hx0⟩
set_option maxHeartbeats 8000000 in
theorem i_TransitAllowed (a b : Int) (w : World) :
  Calls Tryz.prog 150 #[.int .i64 a, .int .i64 b] w fun e w' => e = .returned (.bool (transitOk a b)) ∧ w = w' := by
 cases b2 : (b == 2) <;> cases b4 : (b == 5)
 all_goals
  have hb := Lib.hid b2
  have hb4 := Lib.hid b4
  cases a1 : (a == 5) <;> cases a2 : (a == 2)
  ·
   cases a3 : (a == 3)
   ·
    cases a4 : (a == 1)
    ·
     go_enter Tryz.func150, Tryz.ntmps150
     go_wp2
     go_ret
     exact ⟨ret_bool (by unfold transitOk; rw [a1, a2, a3, a4]; rfl), rfl⟩
    ·
     cases b1 : (b == 1)
     all_goals
      go_enter Tryz.func150, Tryz.ntmps150
      go_wp2
      go_ret
      exact ⟨ret_bool (by unfold transitOk; rw [a1, a2, a3, a4, b1, hb.out, hb4.out]; rfl), rfl⟩
   ·
    go_enter Tryz.func150, Tryz.ntmps150
    go_wp2
    go_ret
    exact ⟨ret_bool (by unfold transitOk; rw [a1, a2, a3, hb.out, hb4.out]; rfl), rfl⟩
  all_goals
   cases b1 : (b == 1) <;> cases b3 : (b == 3)
   all_goals
    go_enter Tryz.func150, Tryz.ntmps150
    go_wp2
    go_ret
    exact ⟨ret_bool (by unfold transitOk; rw [a1, a2, b1, hb.out, b3, hb4.out]; rfl), rfl⟩
set_option maxRecDepth 100000 in
set_option maxHeartbeats 4000000 in
theorem i_StepAllowed (t : Topo) (v1 v2 : Value) (s : Step) (w : World) (hk : RdS Lnk.rep w v2 t.links) :
  Calls Tryz.prog 30 #[.agg #[v1, v2], .agg #[.int .i64 s.asn, .int .i64 s.ing, .int .i64 s.eg]] w fun e w' => e = .returned (.bool (stepOk t s)) ∧ Ext w w' := by
 have hx0 := ext2 w (.cells #[v1, v2] 33) (.cells #[.int .i64 s.asn, .int .i64 s.ing, .int .i64 s.eg] 59)
 have HB0 := Lib.hid (al2 w (.cells #[v1, v2] 33) (.cells #[.int .i64 s.asn, .int .i64 s.ing, .int .i64 s.eg] 59))
 go_enter Tryz.func30, Tryz.ntmps30
 cases b1 : (s.ing == s.eg)
 ·
  have b1' : (s.ing != s.eg) = true := by simp only [bne, b1]; rfl
  have HE := Lib.hid (show stepOk t s = transitOk (ifKind t s.asn s.ing) (ifKind t s.asn s.eg) by unfold stepOk; rw [b1']; simp)
  cases b2 : transitOk (ifKind t s.asn s.ing) (ifKind t s.asn s.eg)
  ·
   rw [b2] at HE
   have cf1 := blk2 HB0.out.1
   have cf2 := blk3 HB0.out.2
   go_wp2_with fail
   refine wp_region_ext (by kernel_rfl) (by kernel_rfl) ?_
   have q0 := ExtW.cell (cf1.1)
   have q1 := ExtW.cell (cf1.2)
   have q2 := ExtW.cell (cf2.1)
   have q3 := ExtW.cell (cf2.2.1)
   have q4 := ExtW.cell (cf2.2.2)
   repeat (first | go_big_quiet_step (((first | (go_at_call 151; exact Calls.ext_of (i_InterfaceKind t _ _ _ _ _ ((hk.ext hx0).ext (ExtW.h _)))) | (go_at_call 150; exact Calls.ext_same (i_TransitAllowed _ _ _))))) | quiet_step (((first | (go_at_call 151; exact Calls.ext_of (i_InterfaceKind t _ _ _ _ _ ((hk.ext hx0).ext (ExtW.h _)))) | (go_at_call 150; exact Calls.ext_same (i_TransitAllowed _ _ _))))))
   refine wpQuiet_nil ?_
   intro w1 hw1
   have hz1 := ExtW.out hw1
   clear hw1 q0 q1 q2 q3 q4
   try clear cf1
   try clear cf2
   have cf3 := blk2 (Ext.block hz1 HB0.out.1)
   have cf4 := blk3 (Ext.block hz1 HB0.out.2)
   go_wp2_with fail
   go_ret
   exact ⟨ret_bool HE.out.symm, (hx0.trans hz1)⟩
  ·
   rw [b2] at HE
   have cf5 := blk2 HB0.out.1
   have cf6 := blk3 HB0.out.2
   go_wp2_with fail
   refine wp_region_ext (by kernel_rfl) (by kernel_rfl) ?_
   have q0 := ExtW.cell (cf5.1)
   have q1 := ExtW.cell (cf5.2)
   have q2 := ExtW.cell (cf6.1)
   have q3 := ExtW.cell (cf6.2.1)
   have q4 := ExtW.cell (cf6.2.2)
   repeat (first | go_big_quiet_step (((first | (go_at_call 151; exact Calls.ext_of (i_InterfaceKind t _ _ _ _ _ ((hk.ext hx0).ext (ExtW.h _)))) | (go_at_call 150; exact Calls.ext_same (i_TransitAllowed _ _ _))))) | quiet_step (((first | (go_at_call 151; exact Calls.ext_of (i_InterfaceKind t _ _ _ _ _ ((hk.ext hx0).ext (ExtW.h _)))) | (go_at_call 150; exact Calls.ext_same (i_TransitAllowed _ _ _))))))
   refine wpQuiet_nil ?_
   intro w2 hw2
   have hz2 := ExtW.out hw2
   clear hw2 q0 q1 q2 q3 q4
   try clear cf5
   try clear cf6
   have cf7 := blk2 (Ext.block hz2 HB0.out.1)
   have cf8 := blk3 (Ext.block hz2 HB0.out.2)
   go_wp2_with fail
   go_ret
   exact ⟨ret_bool HE.out.symm, (hx0.trans hz2)⟩
 ·
  have b1' : (s.ing != s.eg) = false := by simp only [bne, b1]; rfl
  cases b3 : (s.ing == 0)
  ·
   have b3' : (s.ing != 0) = true := by simp only [bne, b3]; rfl
   have HE := Lib.hid (show stepOk t s = false by unfold stepOk; rw [b1', b3]; simp)
   cases b2 : transitOk (ifKind t s.asn s.ing) (ifKind t s.asn s.eg)
   ·
    have cf9 := blk2 HB0.out.1
    have cf10 := blk3 HB0.out.2
    go_wp2_with fail
    refine wp_region_ext (by kernel_rfl) (by kernel_rfl) ?_
    have q0 := ExtW.cell (cf9.1)
    have q1 := ExtW.cell (cf9.2)
    have q2 := ExtW.cell (cf10.1)
    have q3 := ExtW.cell (cf10.2.1)
    have q4 := ExtW.cell (cf10.2.2)
    repeat (first | go_big_quiet_step (((first | (go_at_call 151; exact Calls.ext_of (i_InterfaceKind t _ _ _ _ _ ((hk.ext hx0).ext (ExtW.h _)))) | (go_at_call 150; exact Calls.ext_same (i_TransitAllowed _ _ _))))) | quiet_step (((first | (go_at_call 151; exact Calls.ext_of (i_InterfaceKind t _ _ _ _ _ ((hk.ext hx0).ext (ExtW.h _)))) | (go_at_call 150; exact Calls.ext_same (i_TransitAllowed _ _ _))))))
    refine wpQuiet_nil ?_
    intro w3 hw3
    have hz3 := ExtW.out hw3
    clear hw3 q0 q1 q2 q3 q4
    try clear cf9
    try clear cf10
    have cf11 := blk2 (Ext.block hz3 HB0.out.1)
    have cf12 := blk3 (Ext.block hz3 HB0.out.2)
    go_wp2_with fail
    go_ret
    exact ⟨ret_bool HE.out.symm, (hx0.trans hz3)⟩
   ·
    have cf13 := blk2 HB0.out.1
    have cf14 := blk3 HB0.out.2
    go_wp2_with fail
    refine wp_region_ext (by kernel_rfl) (by kernel_rfl) ?_
    have q0 := ExtW.cell (cf13.1)
    have q1 := ExtW.cell (cf13.2)
    have q2 := ExtW.cell (cf14.1)
    have q3 := ExtW.cell (cf14.2.1)
    have q4 := ExtW.cell (cf14.2.2)
    repeat (first | go_big_quiet_step (((first | (go_at_call 151; exact Calls.ext_of (i_InterfaceKind t _ _ _ _ _ ((hk.ext hx0).ext (ExtW.h _)))) | (go_at_call 150; exact Calls.ext_same (i_TransitAllowed _ _ _))))) | quiet_step (((first | (go_at_call 151; exact Calls.ext_of (i_InterfaceKind t _ _ _ _ _ ((hk.ext hx0).ext (ExtW.h _)))) | (go_at_call 150; exact Calls.ext_same (i_TransitAllowed _ _ _))))))
    refine wpQuiet_nil ?_
    intro w4 hw4
    have hz4 := ExtW.out hw4
    clear hw4 q0 q1 q2 q3 q4
    try clear cf13
    try clear cf14
    have cf15 := blk2 (Ext.block hz4 HB0.out.1)
    have cf16 := blk3 (Ext.block hz4 HB0.out.2)
    go_wp2_with fail
    go_ret
    exact ⟨ret_bool HE.out.symm, (hx0.trans hz4)⟩
  ·
   have b3' : (s.ing != 0) = false := by simp only [bne, b3]; rfl
   have HE := Lib.hid (show stepOk t s = transitOk (ifKind t s.asn s.ing) (ifKind t s.asn s.eg) by unfold stepOk; rw [b1', b3]; simp)
   cases b2 : transitOk (ifKind t s.asn s.ing) (ifKind t s.asn s.eg)
   ·
    rw [b2] at HE
    have cf17 := blk2 HB0.out.1
    have cf18 := blk3 HB0.out.2
    go_wp2_with fail
    refine wp_region_ext (by kernel_rfl) (by kernel_rfl) ?_
    have q0 := ExtW.cell (cf17.1)
    have q1 := ExtW.cell (cf17.2)
    have q2 := ExtW.cell (cf18.1)
    have q3 := ExtW.cell (cf18.2.1)
    have q4 := ExtW.cell (cf18.2.2)
    repeat (first | go_big_quiet_step (((first | (go_at_call 151; exact Calls.ext_of (i_InterfaceKind t _ _ _ _ _ ((hk.ext hx0).ext (ExtW.h _)))) | (go_at_call 150; exact Calls.ext_same (i_TransitAllowed _ _ _))))) | quiet_step (((first | (go_at_call 151; exact Calls.ext_of (i_InterfaceKind t _ _ _ _ _ ((hk.ext hx0).ext (ExtW.h _)))) | (go_at_call 150; exact Calls.ext_same (i_TransitAllowed _ _ _))))))
    refine wpQuiet_nil ?_
    intro w5 hw5
    have hz5 := ExtW.out hw5
    clear hw5 q0 q1 q2 q3 q4
    try clear cf17
    try clear cf18
    have cf19 := blk2 (Ext.block hz5 HB0.out.1)
    have cf20 := blk3 (Ext.block hz5 HB0.out.2)
    go_wp2_with fail
    go_ret
    exact ⟨ret_bool HE.out.symm, (hx0.trans hz5)⟩
   ·
    rw [b2] at HE
    have cf21 := blk2 HB0.out.1
    have cf22 := blk3 HB0.out.2
    go_wp2_with fail
    refine wp_region_ext (by kernel_rfl) (by kernel_rfl) ?_
    have q0 := ExtW.cell (cf21.1)
    have q1 := ExtW.cell (cf21.2)
    have q2 := ExtW.cell (cf22.1)
    have q3 := ExtW.cell (cf22.2.1)
    have q4 := ExtW.cell (cf22.2.2)
    repeat (first | go_big_quiet_step (((first | (go_at_call 151; exact Calls.ext_of (i_InterfaceKind t _ _ _ _ _ ((hk.ext hx0).ext (ExtW.h _)))) | (go_at_call 150; exact Calls.ext_same (i_TransitAllowed _ _ _))))) | quiet_step (((first | (go_at_call 151; exact Calls.ext_of (i_InterfaceKind t _ _ _ _ _ ((hk.ext hx0).ext (ExtW.h _)))) | (go_at_call 150; exact Calls.ext_same (i_TransitAllowed _ _ _))))))
    refine wpQuiet_nil ?_
    intro w6 hw6
    have hz6 := ExtW.out hw6
    clear hw6 q0 q1 q2 q3 q4
    try clear cf21
    try clear cf22
    have cf23 := blk2 (Ext.block hz6 HB0.out.1)
    have cf24 := blk3 (Ext.block hz6 HB0.out.2)
    go_wp2_with fail
    go_ret
    exact ⟨ret_bool HE.out.symm, (hx0.trans hz6)⟩
set_option maxHeartbeats 4000000 in
theorem i_Contains (s i : Int) (w : World) :
  Calls Tryz.prog 107 #[.int .i64 s, .int .i64 i] w fun e w' => e = .returned (.bool (inSet s i)) ∧ w = w' := by
 go_enter Tryz.func107, Tryz.ntmps107

 go_wp2_with fail
 refine (i_ValidSet _ _).mono ?_
 rintro e w1 ⟨rfl, rfl⟩
 cases h1 : inR s 0 65535
 ·
  have HE := Lib.hid (show inSet s i = false by unfold inSet; rw [h1]; rfl)
  go_wp2_with fail
  go_ret
  exact ⟨ret_bool HE.out.symm, rfl⟩
 ·
  go_wp2_with fail
  refine (i_InRange _ _ _ _).mono ?_
  rintro e w1 ⟨rfl, rfl⟩
  cases h2 : inR i 0 15
  ·
   have HE := Lib.hid (show inSet s i = false by unfold inSet; rw [h1, h2]; rfl)
   go_wp2_with fail
   go_ret
   exact ⟨ret_bool HE.out.symm, rfl⟩
  ·
   have HE := Lib.hid (show inSet s i = bitAt s i.toNat by unfold inSet; rw [h1, h2]; rfl)
   obtain ⟨a1, a2⟩ := inR_true.1 h1
   obtain ⟨a3, a4⟩ := inR_true.1 h2
   clear h1 h2
   have hi : i = 0 ∨ i = 1 ∨ i = 2 ∨ i = 3 ∨ i = 4 ∨ i = 5 ∨ i = 6 ∨ i = 7 ∨ i = 8 ∨ i = 9 ∨ i = 10 ∨ i = 11 ∨ i = 12 ∨ i = 13 ∨ i = 14 ∨ i = 15 := by omega
   clear a3 a4
   rcases hi with rfl | rfl | rfl | rfl | rfl | rfl | rfl | rfl | rfl | rfl | rfl | rfl | rfl | rfl | rfl | rfl
   all_goals
    go_wp2_with fail
    go_ret
    exact ⟨ret_bool (by rw [HE.out]; unfold bitAt; rw [and1 _ (by omega) (by omega)]; first | rfl | simp), rfl⟩
end
section
open Go.ChangeShapes Go.WideShapes Go.ChangeAt Go.RowKit Go.Deep
set_option maxRecDepth 100000 in
set_option maxHeartbeats 2000000 in
theorem i_FirstForbiddenStep (t : Topo) (v1 v2 : Value) (p : Pth) (v : Value) (w : World) (hk : RdS Lnk.rep w v2 t.links) (r : RdS Part.rep w v p.parts) (hl : p.size ≤ 1048576) :
  Calls Tryz.prog 157 #[.agg #[v1, v2], .agg #[v]] w fun e w' => ∃ n : Int, e = .returned (.int .i64 n) ∧ (n < 0 ↔ allowed t p) ∧ Ext w w' := by
 obtain ⟨o, cap, rfl, hsm⟩ := r.shape
 have hx0 := ext2 w (.cells #[v1, v2] 33) (.cells #[.slice o p.parts.length cap] 26)
 have HB := Lib.hid (al2 w (.cells #[v1, v2] 33) (.cells #[.slice o p.parts.length cap] 26))
 have cb1 := blk2 HB.out.1
 have cb2 := blk1 HB.out.2
 have hpl := pathSteps_len p.parts
 have hpz : hopsN p.parts ≤ 1048576 := by unfold Pth.size at hl; omega
 go_enter Tryz.func157, Tryz.ntmps157
 go_wp2_with fail
 refine (i_PathSteps p _ _ (r.ext hx0) hl).mono ?_
 rintro e w1 ⟨vs, rfl, OS, hz1⟩
 obtain ⟨l, hls⟩ : ∃ l, l = pathSteps p.parts := ⟨_, rfl⟩
 rw [← hls] at OS hpl
 have HLS := Lib.hid hls
 clear hls
 have rS := OwnF.rd (hf := Step.flen) OS
 clear OS
 obtain ⟨os, cs, rfl, _⟩ := rS.shape
 have hx1 := hx0.trans hz1
 clear cb1 cb2
 have cb1 := blk2 (Ext.block hz1 HB.out.1)
 have cb2 := blk1 (Ext.block hz1 HB.out.2)
 go_wp2_with fail
 clear cb1 cb2
 go_loopg [10] l.length (fun gk i wr => ∃ k : Nat, gk + k = l.length ∧ i = .int .i64 k ∧ Hid (∀ j : Nat, j < k → ∀ s, l[j]? = some s → stepOk t s = true) ∧ Ext w1 wr)
 case atStart => exact ⟨0, by omega, rfl, Lib.hid (fun j hj => by omega), Ext.refl _⟩
 case round =>
  obtain ⟨k, hgk, rfl, HP, hx⟩ := hrel
  have HGK := Lib.hid hgk
  clear hgk
  by_cases hlt : k < l.length
  ·
   have hlt2 : (k : Int) < (l.length : Int) := by omega
   obtain ⟨bs, offs, rfl, hcs⟩ := Step.at (rS.ext hx) k hlt
   obtain ⟨s, hs⟩ : ∃ s, s = l[k] := ⟨_, rfl⟩
   rw [← hs] at hcs
   have HSK : Hid (l[k]? = some s) := Lib.hid (by rw [hs]; exact List.getElem?_eq_getElem hlt)
   clear hs
   have hx3 : Ext wr (wr.alloc (.cells #[.int .i64 s.asn, .int .i64 s.ing, .int .i64 s.eg] 59)) := (Ext.refl _).alloc _
   have cb1 := blk2 (Ext.block ((hz1.trans hx).trans hx3) HB.out.1)
   have cb3 := blk3 (blk_new wr (.cells #[.int .i64 s.asn, .int .i64 s.ing, .int .i64 s.eg] 59))
   go_wp2_with fail
   refine (i_StepAllowed t _ _ s _ ((hk.ext hx1).ext (hx.trans hx3))).mono ?_
   rintro e w2 ⟨rfl, hz2⟩
   have HX := Lib.hid ((hx.trans hx3).trans hz2)
   clear cb1 cb3 hcs hx3 hz2
   cases hok : stepOk t s
   ·
    have HOK := Lib.hid hok
    go_wp2_with fail
    go_ret
    refine ⟨_, rfl, ⟨fun h => absurd h (by omega), fun h => ?_⟩, hx1.trans HX.out⟩
    have h1 := h s (by rw [← HLS.out]; exact List.mem_of_getElem? HSK.out)
    rw [HOK.out] at h1
    cases h1
   ·
    have HOK := Lib.hid hok
    go_wp2_with fail
    go_roundg (gk - 1)
    case measure => have h2 := HGK.out; omega
    case rel =>
     refine ⟨k + 1, by have h2 := HGK.out; omega, congrArg (Value.int .i64) (by first | omega | (unfold wrap64; omega)), Lib.hid (fun j hj s2 hs2 => ?_), HX.out⟩
     rcases Nat.lt_or_ge j k with h1 | h1
     ·
      exact HP.out j h1 s2 hs2
     ·
      obtain rfl : j = k := by omega
      rw [HSK.out] at hs2
      cases hs2
      exact HOK.out
  ·
   have hge : ¬ (k : Int) < (l.length : Int) := by omega
   have hkl : k = l.length := by have h2 := HGK.out; omega
   have HKL := Lib.hid hkl
   clear hkl
   go_wp2_with fail
   go_ret
   refine ⟨_, rfl, ⟨fun _ s hs => ?_, fun _ => by omega⟩, hx1.trans hx⟩
   rw [← HLS.out] at hs
   obtain ⟨j, hj, hjs⟩ := List.getElem_of_mem hs
   exact HP.out j (by rw [HKL.out]; exact hj) s (by rw [← hjs]; exact List.getElem?_eq_getElem hj)
set_option maxRecDepth 100000 in
set_option maxHeartbeats 2000000 in
theorem i_PathAllowed (t : Topo) (v1 v2 : Value) (p : Pth) (v : Value) (w : World) (hk : RdS Lnk.rep w v2 t.links) (r : RdS Part.rep w v p.parts) (hl : p.size ≤ 1048576) :
  Calls Tryz.prog 37 #[.agg #[v1, v2], .agg #[v]] w fun e w' => ∃ b : Bool, e = .returned (.bool b) ∧ (b = true ↔ allowed t p) ∧ Ext w w' := by
 obtain ⟨o, cap, rfl, hsm⟩ := r.shape
 have hx0 := ext2 w (.cells #[v1, v2] 33) (.cells #[.slice o p.parts.length cap] 26)
 have HB := Lib.hid (al2 w (.cells #[v1, v2] 33) (.cells #[.slice o p.parts.length cap] 26))
 have cb1 := blk2 HB.out.1
 have cb2 := blk1 HB.out.2
 go_enter Tryz.func37, Tryz.ntmps37
 go_wp2_with fail
 refine (i_FirstForbiddenStep t _ _ p _ _ (hk.ext hx0) (r.ext hx0) hl).mono ?_
 rintro e w1 ⟨n, rfl, hn, hz1⟩
 have HN := Lib.hid hn
 clear hn cb1 cb2
 go_wp2_with fail
 go_ret
 exact ⟨_, rfl, by simpa using HN.out, hx0.trans hz1⟩
end
end Go.Proofs.YtjmlicmloacmaaaGreat
