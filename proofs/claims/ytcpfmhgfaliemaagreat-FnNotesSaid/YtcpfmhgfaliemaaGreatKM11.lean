/- What these laws need: FnNotes: Contracts of the interfaces that paths use and of what revocations affect, program and reference. Contracts of putting unrevoked paths first, program and reference. -/
import Derived.Test.YtcpfmhgfaliemaaGreatKM5
import Derived.Test.YtcpfmhgfaliemaaGreatKM10
namespace Go.Proofs.YtcpfmhgfaliemaaGreat
section
open Go.ChangeShapes Go.WideShapes Go.ChangeAt Go.RowKit Go.Deep
def hasI (l : List Int) (n : Int) : Bool := l.any (fun x => x == n)
theorem any_snoc {α : Type} (p : α → Bool) {l : List α} {k : Nat} (hk : k < l.length) : (l.take (k + 1)).any p = ((l.take k).any p || p l[k]) := by
 rw [List.take_succ_eq_append_getElem hk, List.any_append]; simp
theorem any_hit {α : Type} (p : α → Bool) {l : List α} {k : Nat} (hk : k < l.length) (h : p l[k] = true) : l.any p = true := List.any_eq_true.2 ⟨l[k], List.getElem_mem _, h⟩
def ifNum (a d : Int) : Int := wrap64 (wrap64 (8 * a) + d)
def stepIfs (s : Step) : List Int := (if s.ing != 0 then [ifNum s.asn s.ing] else []) ++ (if s.eg != 0 then [ifNum s.asn s.eg] else [])
def usedIfs (l : List Step) : List Int := l.flatMap stepIfs
theorem stepIfs_len (s : Step) : (stepIfs s).length ≤ 2 := by unfold stepIfs; split <;> split <;> simp
theorem usedIfs_snoc {l : List Step} {k : Nat} (hk : k < l.length) : usedIfs (l.take (k + 1)) = usedIfs (l.take k) ++ stepIfs l[k] := by
 unfold usedIfs; rw [List.take_succ_eq_append_getElem hk, List.flatMap_append]; simp
theorem usedIfs_len (l : List Step) : (usedIfs l).length ≤ 2 * l.length := by
 induction l with
 | nil => simp [usedIfs]
 | cons a l ih =>
  have := stepIfs_len a; unfold usedIfs at *; rw [List.flatMap_cons, List.length_append, List.length_cons]; omega
theorem stepIfs_11 {s : Step} (h1 : (s.ing != 0) = true) (h2 : (s.eg != 0) = true) : stepIfs s = [ifNum s.asn s.ing] ++ [ifNum s.asn s.eg] := by simp [stepIfs, h1, h2]
theorem stepIfs_10 {s : Step} (h1 : (s.ing != 0) = true) (h2 : (s.eg != 0) = false) : stepIfs s = [ifNum s.asn s.ing] := by simp [stepIfs, h1, h2]
theorem stepIfs_01 {s : Step} (h1 : (s.ing != 0) = false) (h2 : (s.eg != 0) = true) : stepIfs s = [ifNum s.asn s.eg] := by simp [stepIfs, h1, h2]
theorem stepIfs_00 {s : Step} (h1 : (s.ing != 0) = false) (h2 : (s.eg != 0) = false) : stepIfs s = [] := by simp [stepIfs, h1, h2]
def affects (p : Pth) (x : Revc) : Bool := validRev x && hasI (usedIfs (pathSteps p.parts)) (ifNum x.asn x.iface)
def revoked (l : List Revc) (p : Pth) (now : Int) : Bool := (activeRevs now l).any (affects p)
set_option maxHeartbeats 400000 in
theorem i_hasInt (l : List Int) (v : Value) (n : Int) (w : World) (hv : RdS Rep.int w v l) :
  Calls Tryz.prog 97 #[v, .int .i64 n] w fun e w' => e = .returned (.bool (hasI l n)) ∧ w = w' := by
 obtain ⟨o, cap, rfl, hsm⟩ := hv.shape
 go_enter Tryz.func97, Tryz.ntmps97
 go_wp2
 go_loop [9] (fun i => ∃ k : Nat, k ≤ l.length ∧ i = .int .i64 k ∧ hasI (l.take k) n = false) (fun i => l.length - (intOf i).toNat)
 case atStart => exact ⟨0, Nat.zero_le _, rfl, rfl⟩
 case round =>
  obtain ⟨k, hk, rfl, hno⟩ := hrel; have HN := Lib.hid hno; clear hno
  by_cases hlt : k < l.length
  ·
   obtain ⟨b, off, rfl, hc⟩ := ints_at hv k hlt
   cases he : (l[k] == n)
   ·
    go_wp2
    go_round
    case rel => exact ⟨k + 1, by omega, by go_num, by unfold hasI; rw [any_snoc _ hlt, he, Bool.or_false]; exact HN.out⟩
    case measure => simp [intOf]; omega
   ·
    have hy : hasI l n = true := any_hit _ hlt he; have HY := Lib.hid hy; clear hy
    go_wp2
    go_ret
    exact ⟨ret_bool HY.out.symm, rfl⟩
  ·
   have hy : hasI l n = false := by rw [← HN.out, List.take_of_length_le (by omega)]
   have HY := Lib.hid hy; clear hy
   go_wp2
   go_ret
   exact ⟨ret_bool HY.out.symm, rfl⟩
set_option maxHeartbeats 400000 in
theorem s_l9Has (l : List Int) (v : Value) (n : Int) (w : World) (hv : RdS Rep.int w v l) :
  Calls Tryz.prog 99 #[v, .int .i64 n] w fun e w' => e = .returned (.bool (hasI l n)) ∧ w = w' := by
 obtain ⟨o, cap, rfl, hsm⟩ := hv.shape
 go_enter Tryz.func99, Tryz.ntmps99
 go_wp2
 go_loop [5] (fun i => ∃ k : Nat, k ≤ l.length ∧ i = .int .i64 k ∧ hasI (l.take k) n = false) (fun i => l.length - (intOf i).toNat)
 case atStart => exact ⟨0, Nat.zero_le _, rfl, rfl⟩
 case round =>
  obtain ⟨k, hk, rfl, hno⟩ := hrel; have HN := Lib.hid hno; clear hno
  by_cases hlt : k < l.length
  ·
   obtain ⟨b, off, rfl, hc⟩ := ints_at hv k hlt
   cases he : (l[k] == n)
   ·
    go_wp2
    go_round
    case rel => exact ⟨k + 1, by omega, by go_num, by unfold hasI; rw [any_snoc _ hlt, he, Bool.or_false]; exact HN.out⟩
    case measure => simp [intOf]; omega
   ·
    have hy : hasI l n = true := any_hit _ hlt he; have HY := Lib.hid hy; clear hy
    go_wp2
    go_ret
    exact ⟨ret_bool HY.out.symm, rfl⟩
  ·
   have hy : hasI l n = false := by rw [← HN.out, List.take_of_length_le (by omega)]
   have HY := Lib.hid hy; clear hy
   go_wp2
   go_ret
   exact ⟨ret_bool HY.out.symm, rfl⟩
set_option maxHeartbeats 4000000 in
theorem i_numbered (l : List Step) (v : Value) (w : World) (hv : RdS Step.rep w v l) (hl : l.length ≤ 1048576) :
  Calls Tryz.prog 150 #[v] w fun e w' => ∃ v', e = .returned v' ∧ OwnF intF 1 w.heap.size 3 w' v' (usedIfs l) ∧ Ext w w' := by
 obtain ⟨o, cap, rfl, hsm⟩ := hv.shape; obtain ⟨E⟩ := elemInt
 go_enter Tryz.func150, Tryz.ntmps150
 go_wp2
 go_loopg [3, 8] l.length (fun gk out i wr => ∃ k : Nat, gk + k = l.length ∧ i = .int .i64 k ∧ OwnF intF 1 w.heap.size 3 wr out (usedIfs (l.take k)) ∧ Ext w wr)
 case atStart => exact ⟨0, rfl, rfl, OwnF.nil _ _ _ _ _, Ext.refl _⟩
 case round =>
  obtain ⟨k, hgk, rfl, hown, hx⟩ := hrel; have hln : (usedIfs (l.take k)).length ≤ 2 * k := Nat.le_trans (usedIfs_len _) (by have := List.length_take_le k l; omega)
  by_cases hlt : k < l.length
  ·
   obtain ⟨b, off, rfl, hc⟩ := Step.at (hv.ext hx) k hlt; have hg' : gk - 1 + (k + 1) = l.length ∧ gk - 1 < gk := by omega
   have HG := Lib.hid hg'; clear hg' hgk; have HS := Lib.hid (usedIfs_snoc hlt); generalize usedIfs (l.take k) = out at *; have hB := blk_new wr (.cells #[.int .i64 l[k].asn, .int .i64 l[k].ing, .int .i64 l[k].eg] 86); have HB := Lib.hid hB; clear hB; have hxa : Ext w (wr.alloc (.cells #[.int .i64 l[k].asn, .int .i64 l[k].ing, .int .i64 l[k].eg] 86)) := hx.alloc _; have hoa := hown.ext ((Ext.refl wr).alloc (.cells #[.int .i64 l[k].asn, .int .i64 l[k].ing, .int .i64 l[k].eg] 86))
   cases h1 : (l[k].ing != 0)
   ·
    cases h2 : (l[k].eg != 0)
    ·
     have HE := Lib.hid (HS.out.trans (by rw [stepIfs_00 h1 h2, List.append_nil]))
     go_wp2_with fail
     go_roundg (gk - 1)
     case measure => exact HG.out.2
     case rel => exact ⟨k + 1, HG.out.1, by go_num, by rw [HE.out]; exact hoa, hxa⟩
    ·
     have HE := Lib.hid (HS.out.trans (by rw [stepIfs_01 h1 h2]))
     go_wp2_with (at_builtin; refine app1 E intFlen intOne rfl _ _ rfl (ifNum l[k].asn l[k].eg) rfl (OwnF.ext hown (((Ext.refl _).alloc _).alloc _)) rfl (by exact blk_list (intF (ifNum l[k].asn l[k].eg)) (blk_new2 wr _ _)) (by omega) (by unfold maxLen; omega) (by exact (hxa.alloc _).size) ?_)
     intro v1 w1 ho1 hg1; have hx1 := Ext.app (hxa.alloc _) hg1 hown (Nat.le_refl _); clear hg1; rw [← HE.out] at ho1
     go_wp2_with fail
     go_roundg (gk - 1)
     case measure => exact HG.out.2
     case rel => exact ⟨k + 1, HG.out.1, by go_num, ho1, hx1⟩

   ·
    cases h2 : (l[k].eg != 0)
    ·
     have HE := Lib.hid (HS.out.trans (by rw [stepIfs_10 h1 h2]))
     go_wp2_with (at_builtin; refine app1 E intFlen intOne rfl _ _ rfl (ifNum l[k].asn l[k].ing) rfl (OwnF.ext hown (((Ext.refl _).alloc _).alloc _)) rfl (by exact blk_list (intF (ifNum l[k].asn l[k].ing)) (blk_new2 wr _ _)) (by omega) (by unfold maxLen; omega) (by exact (hxa.alloc _).size) ?_)
     intro v1 w1 ho1 hg1; have hx1 := Ext.app (hxa.alloc _) hg1 hown (Nat.le_refl _); have hs1 := blk3 (own_ne (OwnF.ext hown (((Ext.refl _).alloc _).alloc _)) (Ext.block ((Ext.refl _).alloc _) HB.out) (by decide) hg1); clear hg1; rw [← HE.out] at ho1
     go_wp2_with fail
     go_roundg (gk - 1)
     case measure => exact HG.out.2
     case rel => exact ⟨k + 1, HG.out.1, by go_num, ho1, hx1⟩

    ·
     have HE := Lib.hid (show usedIfs (l.take (k + 1)) = out ++ [ifNum l[k].asn l[k].ing, ifNum l[k].asn l[k].eg] from HS.out.trans (by rw [stepIfs_11 h1 h2]; rfl))
     go_wp2_with (at_builtin; refine app1 E intFlen intOne rfl _ _ rfl (ifNum l[k].asn l[k].ing) rfl (OwnF.ext hown (((Ext.refl _).alloc _).alloc _)) rfl (by exact blk_list (intF (ifNum l[k].asn l[k].ing)) (blk_new2 wr _ _)) (by omega) (by unfold maxLen; omega) (by exact (hxa.alloc _).size) ?_)
     intro v1 w1 ho1 hg1; have hx1 := Ext.app (hxa.alloc _) hg1 hown (Nat.le_refl _); have hs1 := blk3 (own_ne (OwnF.ext hown (((Ext.refl _).alloc _).alloc _)) (Ext.block ((Ext.refl _).alloc _) HB.out) (by decide) hg1); clear hg1; have hl1 : (out ++ [ifNum l[k].asn l[k].ing]).length = out.length + 1 := by simp
     go_wp2_with (at_builtin; refine app1 E intFlen intOne rfl _ _ rfl (ifNum l[k].asn l[k].eg) rfl (OwnF.ext ho1 ((Ext.refl _).alloc _)) rfl (by exact blk_list (intF (ifNum l[k].asn l[k].eg)) (blk_new w1 _)) (by omega) (by unfold maxLen; omega) (by exact (hx1.alloc _).size) ?_)
     intro v2 w2 ho2 hg2; have hx2 := Ext.app (hx1.alloc _) hg2 ho1 (Nat.le_refl _); clear hg2; rw [← HE.out] at ho2
     go_wp2_with fail
     go_roundg (gk - 1)
     case measure => exact HG.out.2
     case rel => exact ⟨k + 1, HG.out.1, by go_num, ho2, hx2⟩

  ·
   rw [List.take_of_length_le (by omega)] at hown
   go_wp2
   go_ret
   exact ⟨_, rfl, hown, hx⟩
set_option maxHeartbeats 400000 in
theorem i_InterfacesUsed (x : Pth) (v : Value) (w : World) (r : RdS Part.rep w v x.parts) (hl : x.size ≤ 1048576) :
  Calls Tryz.prog 98 #[.agg #[v]] w fun e w' => ∃ v', e = .returned v' ∧ OwnF intF 1 w.heap.size 3 w' v' (usedIfs (pathSteps x.parts)) ∧ Ext w w' := by
 have hx0 : Ext w (w.alloc (.cells #[v] 35)) := (Ext.refl _).alloc _; have hps := pathSteps_len x.parts
 go_enter Tryz.func98, Tryz.ntmps98
 go_wp2_with fail
 refine (i_PathSteps x _ _ (r.ext hx0) hl).mono ?_; rintro e w1 ⟨v1, rfl, o1, h1⟩; have hx1 := hx0.trans h1
 go_wp2_with fail
 refine (i_numbered _ _ _ (OwnF.rd (hf := Step.flen) o1) (by unfold Pth.size at hl; omega)).mono ?_; rintro e w2 ⟨v2, rfl, o2, h2⟩
 go_wp2_with fail
 go_ret
 exact ⟨_, rfl, o2.mono hx1.size, hx1.trans h2⟩
set_option maxHeartbeats 4000000 in
theorem s_InterfacesUsed (x : Pth) (v : Value) (w : World) (r : RdS Part.rep w v x.parts) (hl : x.size ≤ 1048576) :
  Calls Tryz.prog 85 #[.agg #[v]] w fun e w' => ∃ v', e = .returned v' ∧ OwnF intF 1 w.heap.size 3 w' v' (usedIfs (pathSteps x.parts)) ∧ Ext w w' := by
 obtain ⟨E⟩ := elemInt; have hps := pathSteps_len x.parts; have hx0 : Ext w ((w.alloc (.cells #[v] 35)).alloc (.cells #[] 3)) := ((Ext.refl _).alloc _).alloc _; have ho0 := (OwnF.empty intF 1 (w.alloc (.cells #[v] 35)).heap.size 3 (w.alloc (.cells #[v] 35)) (Nat.le_refl _)).mono ((Ext.refl w).alloc (.cells #[v] 35)).size; simp only [nblk_alloc] at ho0
 go_enter Tryz.func85, Tryz.ntmps85
 go_wp2_with fail
 refine (s_PathSteps x _ _ (r.ext hx0) hl).mono ?_; rintro e w1 ⟨v1, rfl, o1, h1⟩; have hx1 := hx0.trans h1; have ho1 := ho0.ext h1; have os1 := o1.mono hx0.size; have hlS : (pathSteps x.parts).length ≤ 1048576 := by unfold Pth.size at hl; omega
 clear ho0 hx0 o1 hps; obtain ⟨o, cap, rfl, hsm⟩ := (OwnF.rd (hf := Step.flen) os1).shape; generalize hL : pathSteps x.parts = l at *; have HL := Lib.hid hL; clear hL
 go_wp2
 go_loopg [3, 5] l.length (fun gk out i wr => ∃ k : Nat, gk + k = l.length ∧ i = .int .i64 k ∧ OwnF intF 1 w.heap.size 3 wr out (usedIfs (l.take k)) ∧ OwnF Step.f 3 w.heap.size 86 wr (.slice o l.length cap) l ∧ Ext w wr)
 case atStart => exact ⟨0, rfl, rfl, ho1, os1, hx1⟩
 case round =>
  obtain ⟨k, hgk, rfl, hown, hos, hx⟩ := hrel; have hln : (usedIfs (l.take k)).length ≤ 2 * k := Nat.le_trans (usedIfs_len _) (by have := List.length_take_le k l; omega)
  by_cases hlt : k < l.length
  ·
   obtain ⟨g, cap', hv', _, _⟩ := hos.some_shape (by omega)
   cases hv'
   have hc := Step.own_at hos k hlt; have hg' : gk - 1 + (k + 1) = l.length ∧ gk - 1 < gk := by omega
   have HG := Lib.hid hg'; clear hg' hgk; have HS := Lib.hid (usedIfs_snoc hlt); generalize usedIfs (l.take k) = out at *
   cases h1 : (l[k].ing != 0)
   ·
    cases h2 : (l[k].eg != 0)
    ·
     have HE := Lib.hid (HS.out.trans (by rw [stepIfs_00 h1 h2, List.append_nil]))
     go_wp2_with fail
     go_roundg (gk - 1)
     case measure => exact HG.out.2
     case rel => exact ⟨k + 1, HG.out.1, by go_num, by rw [HE.out]; exact hown, hos, hx⟩
    ·
     have HE := Lib.hid (HS.out.trans (by rw [stepIfs_01 h1 h2]))
     go_wp2_with fail
     refine planStep (.blk [0, 1, 2, 3, 4, 5, 6, 7, 8, 9, 10, 11, 12] (.one 13 (.one 14 (.blk [15] .done)))) [14] (by kernel_rfl) (by kernel_rfl) ?_; refine blkStep (fun K HK => ?_); simp only [PK]
     go_wp2_with fail
     refine HK.out _ _ ?_; clear HK K; refine oneStep (fun K HK => ?_); simp only [PK]
     go_wp2_with fail
     refine HK.out _ _ ((Ext.refl _).alloc _) ?_; clear HK K; refine badStep (by kernel_rfl) (fun K HK => ?_); simp only [PK]; refine app1 E intFlen intOne rfl _ _ rfl (ifNum l[k].asn l[k].eg) rfl (OwnF.ext hown ((Ext.refl _).drew.alloc _)) rfl (by exact blk_list (intF (ifNum l[k].asn l[k].eg)) (blk_new wr _)) (by omega) (by unfold maxLen; omega) (by exact (hx.drew.alloc _).size) ?_; intro v1 w1 ho1 hg1; have hx1 := Ext.app (hx.drew.alloc _) hg1 hown (Nat.le_refl _); have os1 := OwnF.keptT (OwnF.ext hos ((Ext.refl _).drew.alloc _)) (OwnF.ext hown ((Ext.refl _).drew.alloc _)) (by decide) hg1; clear hg1
     go_wp2_with fail
     refine HK.out _ _ ?_; clear HK K; refine blkStep (fun K HK => ?_); simp only [PK]
     go_wp2_with fail
     refine HK.out _ _ ?_; clear HK K; refine doneStep (by kernel_rfl) ?_

     rw [← HE.out] at ho1
     go_wp2_with fail
     go_roundg (gk - 1)
     case measure => exact HG.out.2
     case rel => exact ⟨k + 1, HG.out.1, by go_num, ho1, os1, hx1⟩

   ·
    cases h2 : (l[k].eg != 0)
    ·
     have HE := Lib.hid (HS.out.trans (by rw [stepIfs_10 h1 h2]))
     go_wp2_with fail
     refine planStep (.blk [0, 1, 2, 3, 4, 5, 6, 7, 8, 9, 10, 11, 12] (.one 13 (.one 14 (.blk [15] .done)))) [14] (by kernel_rfl) (by kernel_rfl) ?_; refine blkStep (fun K HK => ?_); simp only [PK]
     go_wp2_with fail
     refine HK.out _ _ ?_; clear HK K; refine oneStep (fun K HK => ?_); simp only [PK]
     go_wp2_with fail
     refine HK.out _ _ ((Ext.refl _).alloc _) ?_; clear HK K; refine badStep (by kernel_rfl) (fun K HK => ?_); simp only [PK]; refine app1 E intFlen intOne rfl _ _ rfl (ifNum l[k].asn l[k].ing) rfl (OwnF.ext hown ((Ext.refl _).drew.alloc _)) rfl (by exact blk_list (intF (ifNum l[k].asn l[k].ing)) (blk_new wr _)) (by omega) (by unfold maxLen; omega) (by exact (hx.drew.alloc _).size) ?_; intro v1 w1 ho1 hg1; have hx1 := Ext.app (hx.drew.alloc _) hg1 hown (Nat.le_refl _); have os1 := OwnF.keptT (OwnF.ext hos ((Ext.refl _).drew.alloc _)) (OwnF.ext hown ((Ext.refl _).drew.alloc _)) (by decide) hg1; clear hg1
     go_wp2_with fail
     refine HK.out _ _ ?_; clear HK K; refine blkStep (fun K HK => ?_); simp only [PK]
     go_wp2_with fail
     refine HK.out _ _ ?_; clear HK K; refine doneStep (by kernel_rfl) ?_

     rw [← HE.out] at ho1; have hc1 := Step.own_at os1 k hlt
     go_wp2_with fail
     go_roundg (gk - 1)
     case measure => exact HG.out.2
     case rel => exact ⟨k + 1, HG.out.1, by go_num, ho1, os1, hx1⟩

    ·
     have HE := Lib.hid (HS.out.trans (by rw [stepIfs_11 h1 h2, ← List.append_assoc]))
     go_wp2_with fail
     refine planStep (.blk [0, 1, 2, 3, 4, 5, 6, 7, 8, 9, 10, 11, 12] (.one 13 (.one 14 (.blk [15] .done)))) [14] (by kernel_rfl) (by kernel_rfl) ?_; refine blkStep (fun K HK => ?_); simp only [PK]
     go_wp2_with fail
     refine HK.out _ _ ?_; clear HK K; refine oneStep (fun K HK => ?_); simp only [PK]
     go_wp2_with fail
     refine HK.out _ _ ((Ext.refl _).alloc _) ?_; clear HK K; refine badStep (by kernel_rfl) (fun K HK => ?_); simp only [PK]; refine app1 E intFlen intOne rfl _ _ rfl (ifNum l[k].asn l[k].ing) rfl (OwnF.ext hown ((Ext.refl _).drew.alloc _)) rfl (by exact blk_list (intF (ifNum l[k].asn l[k].ing)) (blk_new wr _)) (by omega) (by unfold maxLen; omega) (by exact (hx.drew.alloc _).size) ?_; intro v1 w1 ho1 hg1; have hx1 := Ext.app (hx.drew.alloc _) hg1 hown (Nat.le_refl _); have os1 := OwnF.keptT (OwnF.ext hos ((Ext.refl _).drew.alloc _)) (OwnF.ext hown ((Ext.refl _).drew.alloc _)) (by decide) hg1; clear hg1
     go_wp2_with fail
     refine HK.out _ _ ?_; clear HK K; refine blkStep (fun K HK => ?_); simp only [PK]
     go_wp2_with fail
     refine HK.out _ _ ?_; clear HK K; refine doneStep (by kernel_rfl) ?_

     have hl1 : (out ++ [ifNum l[k].asn l[k].ing]).length = out.length + 1 := by simp
     have hc1 := Step.own_at os1 k hlt; clear hc
     go_wp2_with fail
     refine planStep (.blk [0, 1, 2, 3, 4, 5, 6, 7, 8, 9, 10, 11, 12] (.one 13 (.one 14 (.blk [15] .done)))) [14] (by kernel_rfl) (by kernel_rfl) ?_; refine blkStep (fun K HK => ?_); simp only [PK]
     go_wp2_with fail
     refine HK.out _ _ ?_; clear HK K; refine oneStep (fun K HK => ?_); simp only [PK]
     go_wp2_with fail
     refine HK.out _ _ ((Ext.refl _).alloc _) ?_; clear HK K; refine badStep (by kernel_rfl) (fun K HK => ?_); simp only [PK]; refine app1 E intFlen intOne rfl _ _ rfl (ifNum l[k].asn l[k].eg) rfl (OwnF.ext ho1 ((Ext.refl _).drew.alloc _)) rfl (by exact blk_list (intF (ifNum l[k].asn l[k].eg)) (blk_new w1 _)) (by omega) (by unfold maxLen; omega) (by exact (hx1.drew.alloc _).size) ?_; intro v2 w2 ho2 hg2; have hx2 := Ext.app (hx1.drew.alloc _) hg2 ho1 (Nat.le_refl _); have os2 := OwnF.keptT (OwnF.ext os1 ((Ext.refl _).drew.alloc _)) (OwnF.ext ho1 ((Ext.refl _).drew.alloc _)) (by decide) hg2; clear hg2
     go_wp2_with fail
     refine HK.out _ _ ?_; clear HK K; refine blkStep (fun K HK => ?_); simp only [PK]
     go_wp2_with fail
     refine HK.out _ _ ?_; clear HK K; refine doneStep (by kernel_rfl) ?_

     rw [← HE.out] at ho2
     go_wp2_with fail
     go_roundg (gk - 1)
     case measure => exact HG.out.2
     case rel => exact ⟨k + 1, HG.out.1, by go_num, ho2, os2, hx2⟩

  ·
   rw [List.take_of_length_le (by omega)] at hown
   go_wp2
   go_ret
   rw [HL.out]; exact ⟨_, rfl, hown, hx⟩
set_option maxHeartbeats 2000000 in
theorem i_Affects (y : Pth) (v : Value) (x : Revc) (w : World) (r : RdS Part.rep w v y.parts) (hl : y.size ≤ 1048576) :
  Calls Tryz.prog 24 #[.agg #[v], .agg #[.int .i64 x.asn, .int .i64 x.iface, .int .i64 x.till]] w fun e w' => e = .returned (.bool (affects y x)) ∧ Ext w w' := by
 obtain ⟨o, cap, rfl, hsm⟩ := r.shape; have hx0 := ext2 w (.cells #[.slice o y.parts.length cap] 35) (.cells #[.int .i64 x.asn, .int .i64 x.iface, .int .i64 x.till] 30); have hB := al2 w (.cells #[.slice o y.parts.length cap] 35) (.cells #[.int .i64 x.asn, .int .i64 x.iface, .int .i64 x.till] 30); have HB := Lib.hid hB; clear hB
 go_enter Tryz.func24, Tryz.ntmps24
 go_wp2_with fail
 refine planStep (.blk [0] (.one 1 (.blk [2, 3, 5, 6, 7, 8, 9, 10] (.one 4 (.one 11 (.blk [12, 13] .done)))))) [] (by kernel_rfl) (by kernel_rfl) ?_

 refine blkStep (fun K HK => ?_); simp only [pick, List.filterMap_cons, List.filterMap_nil, List.getElem?_toArray, List.getElem?_cons_zero]
 go_wp2_with fail
 refine HK.out _ _ ?_; clear HK K

 refine oneStep (fun K HK => ?_); simp only [PK]
 go_wp2_with fail

 refine (i_ValidRevocation x _).mono ?_; rintro e w1 ⟨rfl, h1⟩; have hxd := hx0.drew.trans h1; have hc0 := blk1 (Ext.block ((Ext.refl _).drew.trans h1) HB.out.1); have hc1 := blk3 (Ext.block ((Ext.refl _).drew.trans h1) HB.out.2)
 cases hvx : validRev x
 ·
  have ha : affects y x = false := by simp [affects, hvx]
  have HA := Lib.hid ha; clear ha
  go_wp2_with fail
  refine HK.out _ _ (h1) ?_; clear HK K

  refine blkStep (fun K HK => ?_); simp only [PK]
  go_wp2_with fail
  refine HK.out _ _ ?_; clear HK K

  refine oneSkip [9] (by kernel_rfl) ?_; simp only [undefs, Act.put, List.setIfInBounds_toArray, List.set_cons_succ, List.set_cons_zero]

  refine oneSkip [16] (by kernel_rfl) ?_; simp only [undefs, Act.put, List.setIfInBounds_toArray, List.set_cons_succ, List.set_cons_zero]

  refine blkStep (fun K HK => ?_); simp only [PK]
  go_wp2_with fail
  refine HK.out _ _ ?_; clear HK K

  refine doneStep (by kernel_rfl) ?_

  go_wp2_with fail
  go_ret
  exact ⟨ret_bool HA.out.symm, hxd⟩
 ·
  have ha : affects y x = hasI (usedIfs (pathSteps y.parts)) (ifNum x.asn x.iface) := by simp [affects, hvx]
  have HA := Lib.hid ha; clear ha
  go_wp2_with fail
  refine HK.out _ _ (h1) ?_; clear HK K

  refine blkStep (fun K HK => ?_); simp only [PK]
  go_wp2_with fail
  refine HK.out _ _ ?_; clear HK K

  refine oneStep (fun K HK => ?_); simp only [PK]
  go_wp2_with fail

  refine (i_InterfacesUsed y _ _ (r.ext hxd) hl).mono ?_; rintro e w2 ⟨v2, rfl, o2, h2⟩
  go_wp2_with fail
  refine HK.out _ _ (h2) ?_; clear HK K

  refine oneStep (fun K HK => ?_); simp only [PK]
  go_wp2_with fail

  refine (i_hasInt _ _ (ifNum x.asn x.iface) _ (ints_rep o2)).mono ?_; rintro e w3 ⟨rfl, rfl⟩
  go_wp2_with fail
  refine HK.out _ _ ((Ext.refl _)) ?_; clear HK K

  refine blkStep (fun K HK => ?_); simp only [PK]
  go_wp2_with fail
  refine HK.out _ _ ?_; clear HK K

  refine doneStep (by kernel_rfl) ?_

  go_wp2_with fail
  go_ret
  exact ⟨ret_bool HA.out.symm, hxd.trans h2⟩
set_option maxHeartbeats 2000000 in
theorem s_Affects (y : Pth) (v : Value) (x : Revc) (w : World) (r : RdS Part.rep w v y.parts) (hl : y.size ≤ 1048576) :
  Calls Tryz.prog 25 #[.agg #[v], .agg #[.int .i64 x.asn, .int .i64 x.iface, .int .i64 x.till]] w fun e w' => e = .returned (.bool (affects y x)) ∧ Ext w w' := by
 obtain ⟨o, cap, rfl, hsm⟩ := r.shape; have hx0 := ext2 w (.cells #[.slice o y.parts.length cap] 35) (.cells #[.int .i64 x.asn, .int .i64 x.iface, .int .i64 x.till] 30); have hB := al2 w (.cells #[.slice o y.parts.length cap] 35) (.cells #[.int .i64 x.asn, .int .i64 x.iface, .int .i64 x.till] 30); have HB := Lib.hid hB; clear hB
 go_enter Tryz.func25, Tryz.ntmps25
 go_wp2_with fail
 refine planStep (.blk [0] (.one 1 (.blk [2, 3, 5, 6, 7, 8, 9, 10] (.one 4 (.one 11 (.blk [12, 13] .done)))))) [] (by kernel_rfl) (by kernel_rfl) ?_

 refine blkStep (fun K HK => ?_); simp only [pick, List.filterMap_cons, List.filterMap_nil, List.getElem?_toArray, List.getElem?_cons_zero]
 go_wp2_with fail
 refine HK.out _ _ ?_; clear HK K

 refine oneStep (fun K HK => ?_); simp only [PK]
 go_wp2_with fail

 refine (s_ValidRevocation x _).mono ?_; rintro e w1 ⟨rfl, h1⟩; have hxd := hx0.drew.trans h1; have hc0 := blk1 (Ext.block ((Ext.refl _).drew.trans h1) HB.out.1); have hc1 := blk3 (Ext.block ((Ext.refl _).drew.trans h1) HB.out.2)
 cases hvx : validRev x
 ·
  have ha : affects y x = false := by simp [affects, hvx]
  have HA := Lib.hid ha; clear ha
  go_wp2_with fail
  refine HK.out _ _ (h1) ?_; clear HK K

  refine blkStep (fun K HK => ?_); simp only [PK]
  go_wp2_with fail
  refine HK.out _ _ ?_; clear HK K

  refine oneSkip [9] (by kernel_rfl) ?_; simp only [undefs, Act.put, List.setIfInBounds_toArray, List.set_cons_succ, List.set_cons_zero]

  refine oneSkip [16] (by kernel_rfl) ?_; simp only [undefs, Act.put, List.setIfInBounds_toArray, List.set_cons_succ, List.set_cons_zero]

  refine blkStep (fun K HK => ?_); simp only [PK]
  go_wp2_with fail
  refine HK.out _ _ ?_; clear HK K

  refine doneStep (by kernel_rfl) ?_

  go_wp2_with fail
  go_ret
  exact ⟨ret_bool HA.out.symm, hxd⟩
 ·
  have ha : affects y x = hasI (usedIfs (pathSteps y.parts)) (ifNum x.asn x.iface) := by simp [affects, hvx]
  have HA := Lib.hid ha; clear ha
  go_wp2_with fail
  refine HK.out _ _ (h1) ?_; clear HK K

  refine blkStep (fun K HK => ?_); simp only [PK]
  go_wp2_with fail
  refine HK.out _ _ ?_; clear HK K

  refine oneStep (fun K HK => ?_); simp only [PK]
  go_wp2_with fail

  refine (s_InterfacesUsed y _ _ (r.ext hxd) hl).mono ?_; rintro e w2 ⟨v2, rfl, o2, h2⟩
  go_wp2_with fail
  refine HK.out _ _ (h2) ?_; clear HK K

  refine oneStep (fun K HK => ?_); simp only [PK]
  go_wp2_with fail

  refine (s_l9Has _ _ (ifNum x.asn x.iface) _ (ints_rep o2)).mono ?_; rintro e w3 ⟨rfl, rfl⟩
  go_wp2_with fail
  refine HK.out _ _ ((Ext.refl _)) ?_; clear HK K

  refine blkStep (fun K HK => ?_); simp only [PK]
  go_wp2_with fail
  refine HK.out _ _ ?_; clear HK K

  refine doneStep (by kernel_rfl) ?_

  go_wp2_with fail
  go_ret
  exact ⟨ret_bool HA.out.symm, hxd.trans h2⟩
theorem activeRevs_len (now : Int) (l : List Revc) : (activeRevs now l).length ≤ l.length := List.length_filter_le _ _
set_option maxHeartbeats 2000000 in
theorem i_Revoked (l : List Revc) (u : Value) (y : Pth) (v : Value) (now : Int) (w : World) (ru : RdS Revc.rep w u l) (r : RdS Part.rep w v y.parts) (hm : l.length ≤ 1048576) (hl : y.size ≤ 1048576) :
  Calls Tryz.prog 22 #[u, .agg #[v], .int .i64 now] w fun e w' => e = .returned (.bool (revoked l y now)) ∧ Ext w w' := by
 obtain ⟨ov, cv, rfl, _⟩ := r.shape; have hx0 : Ext w (w.alloc (.cells #[.slice ov y.parts.length cv] 35)) := (Ext.refl _).alloc _; have hB := blk_new w (.cells #[.slice ov y.parts.length cv] 35); have HB := Lib.hid hB; clear hB
 go_enter Tryz.func22, Tryz.ntmps22
 go_wp2_with fail
 refine (i_ActiveRevocations l u now _ (ru.ext hx0) hm).mono ?_; rintro e w1 ⟨v1, rfl, o1, h1⟩; have hx1 := hx0.trans h1; have hb1 := h1.block HB.out; have HB1 := Lib.hid hb1; clear hb1; have hal := activeRevs_len now l; have hrv : revoked l y now = (activeRevs now l).any (affects y) := rfl; have HR := Lib.hid hrv; clear hrv; generalize activeRevs now l = a at *; obtain ⟨oa, ca, rfl, hsa⟩ := (OwnF.rd (hf := Revc.flen) o1).shape
 go_wp2
 go_loopg [13] a.length (fun gk i wr => ∃ k : Nat, gk + k = a.length ∧ i = .int .i64 k ∧ (a.take k).any (affects y) = false ∧ Ext w1 wr)
 case atStart => exact ⟨0, rfl, rfl, rfl, Ext.refl _⟩
 case round =>
  obtain ⟨k, hgk, rfl, hno, hx⟩ := hrel; have HN := Lib.hid hno; clear hno
  by_cases hlt : k < a.length
  ·
   obtain ⟨b, off, rfl, hc⟩ := Revc.at ((OwnF.rd (hf := Revc.flen) o1).ext hx) k hlt; have hg' : gk - 1 + (k + 1) = a.length ∧ gk - 1 < gk := by omega
   have HG := Lib.hid hg'; clear hg' hgk; have hbx := blk1 (hx.block HB1.out); have hbx2 := blk1 (Ext.block (hx.alloc (.cells #[.int .i64 a[k].asn, .int .i64 a[k].iface, .int .i64 a[k].till] 30)) HB1.out)
   go_wp2_with fail
   refine (i_Affects y _ a[k] _ (r.ext ((hx1.t hx).alloc _)) hl).mono ?_; rintro e w2 ⟨rfl, h2⟩; have hx2 := (hx.alloc _).trans h2
   cases haf : affects y a[k]
   ·
    have hn2 : (a.take (k + 1)).any (affects y) = false := by rw [any_snoc _ hlt, haf, Bool.or_false]; exact HN.out
    have HN2 := Lib.hid hn2; clear hn2
    go_wp2_with fail
    go_roundg (gk - 1)
    case measure => exact HG.out.2
    case rel => exact ⟨k + 1, HG.out.1, by go_num, HN2.out, hx2⟩
   ·
    have hy : revoked l y now = true := by rw [HR.out]; exact any_hit _ hlt haf
    have HY := Lib.hid hy; clear hy
    go_wp2_with fail
    go_ret
    exact ⟨ret_bool HY.out.symm, hx1.trans hx2⟩
  ·
   have hy : revoked l y now = false := by rw [HR.out, ← HN.out, List.take_of_length_le (by omega)]
   have HY := Lib.hid hy; clear hy
   go_wp2
   go_ret
   exact ⟨ret_bool HY.out.symm, hx1.trans hx⟩
set_option maxHeartbeats 2000000 in
theorem s_Revoked (l : List Revc) (u : Value) (y : Pth) (v : Value) (now : Int) (w : World) (ru : RdS Revc.rep w u l) (r : RdS Part.rep w v y.parts) (hm : l.length ≤ 1048576) (hl : y.size ≤ 1048576) :
  Calls Tryz.prog 23 #[u, .agg #[v], .int .i64 now] w fun e w' => e = .returned (.bool (revoked l y now)) ∧ Ext w w' := by
 obtain ⟨ov, cv, rfl, _⟩ := r.shape; have hx0 : Ext w (w.alloc (.cells #[.slice ov y.parts.length cv] 35)) := (Ext.refl _).alloc _; have hB := blk_new w (.cells #[.slice ov y.parts.length cv] 35); have HB := Lib.hid hB; clear hB
 go_enter Tryz.func23, Tryz.ntmps23
 go_wp2_with fail
 refine (s_ActiveRevocations l u now _ (ru.ext hx0) hm).mono ?_; rintro e w1 ⟨v1, rfl, o1, h1⟩; have hx1 := hx0.trans h1; have hb1 := h1.block HB.out; have HB1 := Lib.hid hb1; clear hb1; have hal := activeRevs_len now l; have hrv : revoked l y now = (activeRevs now l).any (affects y) := rfl; have HR := Lib.hid hrv; clear hrv; generalize activeRevs now l = a at *; obtain ⟨oa, ca, rfl, hsa⟩ := (OwnF.rd (hf := Revc.flen) o1).shape
 go_wp2
 go_loopg [8] a.length (fun gk i wr => ∃ k : Nat, gk + k = a.length ∧ i = .int .i64 k ∧ (a.take k).any (affects y) = false ∧ Ext w1 wr)
 case atStart => exact ⟨0, rfl, rfl, rfl, Ext.refl _⟩
 case round =>
  obtain ⟨k, hgk, rfl, hno, hx⟩ := hrel; have HN := Lib.hid hno; clear hno
  by_cases hlt : k < a.length
  ·
   obtain ⟨b, off, rfl, hc⟩ := Revc.at ((OwnF.rd (hf := Revc.flen) o1).ext hx) k hlt; have hg' : gk - 1 + (k + 1) = a.length ∧ gk - 1 < gk := by omega
   have HG := Lib.hid hg'; clear hg' hgk; have hbx := blk1 (hx.block HB1.out)
   go_wp2_with fail
   refine planStep (.blk [0, 1, 2, 3, 4] (.one 5 .done)) [] (by kernel_rfl) (by kernel_rfl) ?_

   refine blkStep (fun K HK => ?_); simp only [PK]
   go_wp2_with fail
   refine HK.out _ _ ?_; clear HK K

   refine oneStep (fun K HK => ?_); simp only [PK]
   go_wp2_with fail

   refine (s_Affects y _ a[k] _ (r.ext (hx1.t hx).drew) hl).mono ?_; rintro e w2 ⟨rfl, h2⟩; have hx2 := hx.drew.trans h2
   cases haf : affects y a[k]
   ·
    have hn2 : (a.take (k + 1)).any (affects y) = false := by rw [any_snoc _ hlt, haf, Bool.or_false]; exact HN.out
    have HN2 := Lib.hid hn2; clear hn2
    go_wp2_with fail
    refine HK.out _ _ (h2) ?_; clear HK K

    refine doneStep (by kernel_rfl) ?_

    go_wp2_with fail
    go_roundg (gk - 1)
    case measure => exact HG.out.2
    case rel => exact ⟨k + 1, HG.out.1, by go_num, HN2.out, hx2⟩
   ·
    have hy : revoked l y now = true := by rw [HR.out]; exact any_hit _ hlt haf
    have HY := Lib.hid hy; clear hy
    go_wp2_with fail
    refine HK.out _ _ (h2) ?_; clear HK K

    refine doneStep (by kernel_rfl) ?_

    go_wp2_with fail
    go_ret
    exact ⟨ret_bool HY.out.symm, hx1.trans hx2⟩
  ·
   have hy : revoked l y now = false := by rw [HR.out, ← HN.out, List.take_of_length_le (by omega)]
   have HY := Lib.hid hy; clear hy
   go_wp2
   go_ret
   exact ⟨ret_bool HY.out.symm, hx1.trans hx⟩
end
section
open Go.ChangeShapes Go.WideShapes Go.ChangeAt Go.RowKit Go.Deep
def goodP (rl : List Revc) (now : Int) (l : List Pth) : List Pth := l.filter (fun y => !(revoked rl y now))
def badP (rl : List Revc) (now : Int) (l : List Pth) : List Pth := l.filter (fun y => revoked rl y now)
def prefer (rl : List Revc) (l : List Pth) (now : Int) : List Pth := goodP rl now l ++ badP rl now l
theorem pth_one (x : Pth) (o : Option Addr) (n c : Nat) : ∀ u ∈ Pth.c x (.slice o n c), u.oneCell' = true := by
 intro u hu; simp only [Pth.c, List.mem_cons, List.not_mem_nil, or_false] at hu; rw [hu]; rfl
theorem goodP_yes {rl : List Revc} {now : Int} {l : List Pth} {k : Nat} (hk : k < l.length) (h : revoked rl l[k] now = false) : goodP rl now (l.take k) ++ [l[k]] = goodP rl now (l.take (k + 1)) := filter_pos _ hk (by simp [h])
theorem goodP_no {rl : List Revc} {now : Int} {l : List Pth} {k : Nat} (hk : k < l.length) (h : revoked rl l[k] now = true) : goodP rl now (l.take k) = goodP rl now (l.take (k + 1)) := filter_neg _ hk (by simp [h])
theorem badP_yes {rl : List Revc} {now : Int} {l : List Pth} {k : Nat} (hk : k < l.length) (h : revoked rl l[k] now = true) : badP rl now (l.take k) ++ [l[k]] = badP rl now (l.take (k + 1)) := filter_pos _ hk (by simp [h])
theorem badP_no {rl : List Revc} {now : Int} {l : List Pth} {k : Nat} (hk : k < l.length) (h : revoked rl l[k] now = false) : badP rl now (l.take k) = badP rl now (l.take (k + 1)) := filter_neg _ hk (by simp [h])
theorem goodP_len (rl : List Revc) (now : Int) (l : List Pth) (k : Nat) : (goodP rl now (l.take k)).length ≤ k := Nat.le_trans (List.length_filter_le _ _) (List.length_take_le _ _)
theorem badP_len (rl : List Revc) (now : Int) (l : List Pth) (k : Nat) : (badP rl now (l.take k)).length ≤ k := Nat.le_trans (List.length_filter_le _ _) (List.length_take_le _ _)
theorem pszN_parts (l : List Pth) (p : Pth → Bool) : pszN (l.filter p) + pszN (l.filter (fun y => !(p y))) = pszN l := by
 induction l with
 | nil => rfl
 | cons x l ih =>
  unfold pszN at *
  cases h : p x
  ·
   rw [List.filter_cons_of_neg (by simp [h]), List.filter_cons_of_pos (by simp [h])]; simp only [List.map_cons, List.sum_cons]; omega
  ·
   rw [List.filter_cons_of_pos (by simp [h]), List.filter_cons_of_neg (by simp [h])]; simp only [List.map_cons, List.sum_cons]; omega
theorem pszN_app (a b : List Pth) : pszN (a ++ b) = pszN a + pszN b := by unfold pszN; rw [List.map_append, List.sum_append]
theorem len_parts (l : List Pth) (p : Pth → Bool) : (l.filter p).length + (l.filter (fun y => !(p y))).length = l.length := by
 induction l with
 | nil => rfl
 | cons x l ih =>
  cases h : p x
  ·
   rw [List.filter_cons_of_neg (by simp [h]), List.filter_cons_of_pos (by simp [h])]; simp only [List.length_cons]; omega
  ·
   rw [List.filter_cons_of_pos (by simp [h]), List.filter_cons_of_neg (by simp [h])]; simp only [List.length_cons]; omega
theorem prefer_size (rl : List Revc) (l : List Pth) (now : Int) : pthsN (prefer rl l now) = pthsN l := by
 have h1 := pszN_parts l (fun y => revoked rl y now); have h2 := len_parts l (fun y => revoked rl y now); unfold pthsN prefer goodP badP; rw [pszN_app, List.length_append]; omega
set_option maxRecDepth 100000 in
set_option maxHeartbeats 4000000 in
theorem i_PreferUnrevoked (rl : List Revc) (u : Value) (ps : List Pth) (v : Value) (now : Int) (w : World) (ru : RdS Revc.rep w u rl) (rp : RdS Pth.rep w v ps) (hm : rl.length ≤ 1048576) (hl : pthsN ps ≤ 1048576) :
  Calls Tryz.prog 9 #[u, v, .int .i64 now] w fun e w' => ∃ v', e = .returned v' ∧ Pth.ownS.own (rng w.heap.size w'.heap.size) w' v' (prefer rl ps now) ∧ Ext w w' := by
 obtain ⟨E⟩ := elemPth; obtain ⟨o, cap, rfl, hsm⟩ := rp.shape; obtain ⟨ou, cu, rfl, _⟩ := ru.shape; unfold pthsN at hl; have hpr : prefer rl ps now = goodP rl now ps ++ badP rl now ps := rfl; have HPR := Lib.hid hpr; clear hpr
 go_enter Tryz.func9, Tryz.ntmps9
 go_wp2
 go_loopg [7, 8, 13] ps.length (fun gk out bad i wr => ∃ (k : Nat) (S1 S2 : Nat → Prop), gk + k = ps.length ∧ i = .int .i64 k ∧ Pth.ownS.own S1 wr out (goodP rl now (ps.take k)) ∧ Pth.ownS.own S2 wr bad (badP rl now (ps.take k)) ∧ Hid ((∀ b, S1 b → w.heap.size ≤ b ∧ b < wr.heap.size) ∧ (∀ b, S2 b → w.heap.size ≤ b ∧ b < wr.heap.size) ∧ ∀ b, S1 b → ¬ S2 b) ∧ Ext w wr)
 case atStart => exact ⟨0, noB, noB, rfl, rfl, Pth.ownS.nil _, Pth.ownS.nil _, Lib.hid ⟨fun b h => h.elim, fun b h => h.elim, fun b h => h.elim⟩, Ext.refl _⟩
 case round =>
  obtain ⟨k, S1, S2, hgk, rfl, hO, hB, HS, hx⟩ := hrel; have hgl := goodP_len rl now ps k; have hbl := badP_len rl now ps k
  by_cases hlt : k < ps.length
  ·
   obtain ⟨b, off, oh, ch, rfl, hc, hr⟩ := Pth.at (rp.ext hx) k hlt; have hle := pszN_le hlt; have hg0 : gk - 1 + (k + 1) = ps.length ∧ gk - 1 < gk := by omega
   have HG := Lib.hid hg0; clear hg0 hgk; have hxa : Ext wr (wr.alloc (.cells #[.slice oh ps[k].parts.length ch] 35)) := (Ext.refl _).alloc _; have HBX := Lib.hid (blk_new wr (.cells #[.slice oh ps[k].parts.length ch] 35))
   go_wp2_with fail
   refine (i_Revoked rl _ ps[k] _ now _ (ru.ext (hx.t hxa)) (hr.ext hxa) hm (by omega)).mono ?_; rintro e w1 ⟨rfl, h1⟩; have hx1r := hxa.trans h1; have hcx := blk1 (h1.block HBX.out)
   cases hrv : revoked rl ps[k] now
   ·
    have HY := Lib.hid (goodP_yes hlt hrv); have HN := Lib.hid (badP_no hlt hrv); clear hbl; generalize goodP rl now (ps.take k) = gl at *
    go_wp2_with fail
    refine (i_copyPath ps[k] _ _ (hr.ext hx1r) (by omega)).mono ?_; rintro e w2 ⟨u2, rfl, o2, h2⟩; obtain ⟨oo, co, rfl, _⟩ := (Part.ord o2).shape; have hs2 := h2.size; have hs1 := hx1r.size
    go_wp2_with (at_builtin; refine appG (S := S1) (w0 := w1) (c := Pth.c) (hc := Pth.clen) (sub := (·.parts)) (I := Part.own) E rfl _ _ rfl ps[k] (.slice oo ps[k].parts.length co) (rng w1.heap.size w2.heap.size) (pth_one _ _ _ _) rfl (Own.ext hO hx1r) (h2.alloc _) (Own.ext o2 ((Ext.refl _).alloc _)) (fun q hq => ⟨hq.1, by have := hq.2; simp; omega⟩) rfl (by exact blk_list (Pth.c ps[k] (.slice oo ps[k].parts.length co)) (blk_new w2 _)) (by omega) (by unfold maxLen; omega) ?_)
    intro v' w' ho' hg' hvS; have hgs : w2.heap.size + 1 ≤ w'.heap.size := by have := hg'.size; simpa using this
    rw [HY.out] at ho'; have hB' := Own.kept Pth.ownS (Own.ext hB (hx1r.trans (h2.alloc _))) (Chg.ofGrown (S := S1) hg' hvS) (fun b hb h => HS.out.2.2 b h hb); rw [HN.out] at hB'; have hx' := ((hx.trans (hx1r.trans h2)).alloc _).grown hg' (fun q hq => (HS.out.1 q (hvS q hq)).1); have hsw := hx.size
    have HS' : Hid ((∀ b, (S1 b ∨ (w1.heap.size ≤ b ∧ b < w'.heap.size)) → w.heap.size ≤ b ∧ b < w'.heap.size) ∧ (∀ b, S2 b → w.heap.size ≤ b ∧ b < w'.heap.size) ∧ ∀ b, (S1 b ∨ (w1.heap.size ≤ b ∧ b < w'.heap.size)) → ¬ S2 b) := by
     refine Lib.hid ⟨fun b hb => ?_, fun b hb => ?_, fun b hb h => ?_⟩
     ·
      rcases hb with hb | hb
      ·
       have := HS.out.1 b hb; omega
      ·
       omega
     ·
      have := HS.out.2.1 b hb; omega
     ·
      rcases hb with hb | hb
      ·
       exact HS.out.2.2 b hb h
      ·
       have := HS.out.2.1 b h; omega
    clear hg' hvS HS hO hB
    go_wp2_with fail
    go_roundg (gk - 1)
    case measure => exact HG.out.2
    case rel => exact ⟨k + 1, _, S2, HG.out.1, by go_num, ho', hB', HS', hx'⟩
   ·
    have HY := Lib.hid (badP_yes hlt hrv); have HN := Lib.hid (goodP_no hlt hrv); clear hgl; generalize badP rl now (ps.take k) = gl at *
    go_wp2_with fail
    refine (i_copyPath ps[k] _ _ (hr.ext hx1r) (by omega)).mono ?_; rintro e w2 ⟨u2, rfl, o2, h2⟩; obtain ⟨oo, co, rfl, _⟩ := (Part.ord o2).shape; have hs2 := h2.size; have hs1 := hx1r.size
    go_wp2_with (at_builtin; refine appG (S := S2) (w0 := w1) (c := Pth.c) (hc := Pth.clen) (sub := (·.parts)) (I := Part.own) E rfl _ _ rfl ps[k] (.slice oo ps[k].parts.length co) (rng w1.heap.size w2.heap.size) (pth_one _ _ _ _) rfl (Own.ext hB hx1r) (h2.alloc _) (Own.ext o2 ((Ext.refl _).alloc _)) (fun q hq => ⟨hq.1, by have := hq.2; simp; omega⟩) rfl (by exact blk_list (Pth.c ps[k] (.slice oo ps[k].parts.length co)) (blk_new w2 _)) (by omega) (by unfold maxLen; omega) ?_)
    intro v' w' ho' hg' hvS; have hgs : w2.heap.size + 1 ≤ w'.heap.size := by have := hg'.size; simpa using this
    rw [HY.out] at ho'; have hO' := Own.kept Pth.ownS (Own.ext hO (hx1r.trans (h2.alloc _))) (Chg.ofGrown (S := S2) hg' hvS) (fun b hb h => HS.out.2.2 b hb h); rw [HN.out] at hO'; have hx' := ((hx.trans (hx1r.trans h2)).alloc _).grown hg' (fun q hq => (HS.out.2.1 q (hvS q hq)).1); have hsw := hx.size
    have HS' : Hid ((∀ b, S1 b → w.heap.size ≤ b ∧ b < w'.heap.size) ∧ (∀ b, (S2 b ∨ (w1.heap.size ≤ b ∧ b < w'.heap.size)) → w.heap.size ≤ b ∧ b < w'.heap.size) ∧ ∀ b, S1 b → ¬ (S2 b ∨ (w1.heap.size ≤ b ∧ b < w'.heap.size))) := by
     refine Lib.hid ⟨fun b hb => ?_, fun b hb => ?_, fun b h hb => ?_⟩
     ·
      have := HS.out.1 b hb; omega
     ·
      rcases hb with hb | hb
      ·
       have := HS.out.2.1 b hb; omega
      ·
       omega
     ·
      rcases hb with hb | hb
      ·
       exact HS.out.2.2 b h hb
      ·
       have := HS.out.1 b h; omega
    clear hg' hvS HS hO hB
    go_wp2_with fail
    go_roundg (gk - 1)
    case measure => exact HG.out.2
    case rel => exact ⟨k + 1, S1, _, HG.out.1, by go_num, hO', ho', HS', hx'⟩
  ·
   have hkl : ps.take k = ps := List.take_of_length_le (by omega); have hgl' := goodP_len rl now ps k; rw [hkl] at hO hB hgl hbl
   go_wp2_with (at_builtin; refine appGS (S := S1) (S2 := S2) (c := Pth.c) (hc := Pth.clen) (sub := (·.parts)) (I := Part.own) E rfl _ _ rfl pth_one rfl hO rfl hB HS.out.2.2 (by omega) (by unfold maxLen; omega) ?_)
   intro v' w' ho' hg' hvS; have hx' := hx.grown hg' (fun q hq => (HS.out.1 q (hvS q hq)).1); have hgs := hg'.size; have hsw := hx.size
   have ho2 := Pth.ownS.mono (T := rng w.heap.size w'.heap.size) ho' (fun b hb => by
    rcases hb with (hb | hb) | hb
    ·
     have := HS.out.1 b hb; exact ⟨this.1, by omega⟩
    ·
     have := HS.out.2.1 b hb; exact ⟨this.1, by omega⟩
    ·
     exact ⟨by omega, hb.2⟩)
   clear hg' ho'
   go_wp2_with fail
   go_ret
   rw [HPR.out]; exact ⟨_, rfl, ho2, hx'⟩
set_option maxRecDepth 100000 in
set_option maxHeartbeats 4000000 in
theorem s_PreferUnrevoked (rl : List Revc) (u : Value) (ps : List Pth) (v : Value) (now : Int) (w : World) (ru : RdS Revc.rep w u rl) (rp : RdS Pth.rep w v ps) (hm : rl.length ≤ 1048576) (hl : pthsN ps ≤ 1048576) :
  Calls Tryz.prog 18 #[u, v, .int .i64 now] w fun e w' => ∃ v', e = .returned v' ∧ Pth.ownS.own (rng w.heap.size w'.heap.size) w' v' (prefer rl ps now) ∧ Ext w w' := by
 obtain ⟨E⟩ := elemPth; obtain ⟨o, cap, rfl, hsm⟩ := rp.shape; obtain ⟨ou, cu, rfl, _⟩ := ru.shape; unfold pthsN at hl; have hpr : prefer rl ps now = goodP rl now ps ++ badP rl now ps := rfl; have HPR := Lib.hid hpr; clear hpr
 go_enter Tryz.func18, Tryz.ntmps18
 go_wp2
 go_loopg [7, 8] ps.length (fun gk out i wr => ∃ (k : Nat) (S1 : Nat → Prop), gk + k = ps.length ∧ i = .int .i64 k ∧ Pth.ownS.own S1 wr out (goodP rl now (ps.take k)) ∧ Hid (∀ b, S1 b → w.heap.size ≤ b ∧ b < wr.heap.size) ∧ Ext w wr)
 case atStart =>
  refine ⟨0, rng w.heap.size (w.heap.size + 1), rfl, rfl, ?_, Lib.hid (fun b h => ⟨h.1, by have := h.2; simp; omega⟩), (Ext.refl _).alloc _⟩; exact ⟨[], rfl, OwnF.to0 (OwnF.empty (capF Pth.c) 1 w.heap.size 35 w (Nat.le_refl _)), (fun q hq => by cases hq; exact ⟨Nat.le_refl _, Nat.lt_succ_self _⟩), (fun q h => by cases h), (fun i j hi => by cases hi)⟩
 case round =>
  obtain ⟨k, S1, hgk, rfl, hO, HS, hx⟩ := hrel; have hgl : (goodP rl now (ps.take k)).length ≤ k := goodP_len rl now ps k
  by_cases hlt : k < ps.length
  ·
   obtain ⟨b, off, oh, ch, rfl, hc, hr⟩ := Pth.at (rp.ext hx) k hlt; have hle := pszN_le hlt; have hg0 : gk - 1 + (k + 1) = ps.length ∧ gk - 1 < gk := by omega
   have HG := Lib.hid hg0; clear hg0 hgk
   go_wp2_with fail
   refine (s_Revoked rl _ ps[k] _ now _ (ru.ext hx) hr hm (by omega)).mono ?_; rintro e w1 ⟨rfl, hx1r⟩; have hcx := hx1r.cell hc
   cases hrv : revoked rl ps[k] now
   ·
    have HY := Lib.hid (goodP_yes hlt hrv); generalize hge : goodP rl now (ps.take k) = gl at *; have HGL := Lib.hid hge; clear hge
    go_wp2_with fail
    refine (s_l22Copy ps[k] _ _ (hr.ext hx1r) (by omega)).mono ?_; rintro e w2 ⟨u2, rfl, o2, h2⟩; obtain ⟨oo, co, rfl, _⟩ := (Part.ord o2).shape; have hs2 := h2.size; have hs1 := hx1r.size
    go_wp2_with (at_builtin; refine appG (S := S1) (w0 := w1) (c := Pth.c) (hc := Pth.clen) (sub := (·.parts)) (I := Part.own) E rfl _ _ rfl ps[k] (.slice oo ps[k].parts.length co) (rng w1.heap.size w2.heap.size) (pth_one _ _ _ _) rfl (Own.ext hO hx1r) (h2.alloc _) (Own.ext o2 ((Ext.refl _).alloc _)) (fun q hq => ⟨hq.1, by have := hq.2; simp; omega⟩) rfl (by exact blk_list (Pth.c ps[k] (.slice oo ps[k].parts.length co)) (blk_new w2 _)) (by omega) (by unfold maxLen; omega) ?_)
    intro v' w' ho' hg' hvS; have hgs : w2.heap.size + 1 ≤ w'.heap.size := by have := hg'.size; simpa using this
    rw [HY.out] at ho'; have hx' := ((hx.trans (hx1r.trans h2)).alloc _).grown hg' (fun q hq => (HS.out q (hvS q hq)).1); have hsw := hx.size
    have HS' : Hid (∀ b, (S1 b ∨ (w1.heap.size ≤ b ∧ b < w'.heap.size)) → w.heap.size ≤ b ∧ b < w'.heap.size) := by
     refine Lib.hid (fun b hb => ?_)
     rcases hb with hb | hb
     ·
      have := HS.out b hb; omega
     ·
      omega
    clear hg' hvS HS hO
    go_wp2_with fail
    go_roundg (gk - 1)
    case measure => exact HG.out.2
    case rel => exact ⟨k + 1, _, HG.out.1, by go_num, ho', HS', hx'⟩
   ·
    have HN := Lib.hid (goodP_no hlt hrv); have hO' := Own.ext hO hx1r; rw [HN.out] at hO'; have hs1 := hx1r.size; have HS' : Hid (∀ b, S1 b → w.heap.size ≤ b ∧ b < w1.heap.size) := Lib.hid (fun b hb => by have := HS.out b hb; omega); clear hgl
    go_wp2_with fail
    go_roundg (gk - 1)
    case measure => exact HG.out.2
    case rel => exact ⟨k + 1, S1, HG.out.1, by go_num, hO', HS', hx.trans hx1r⟩
  ·
   have hkl : ps.take k = ps := List.take_of_length_le (by omega); rw [hkl] at hO hgl; have e0 : goodP rl now ps ++ badP rl now (ps.take 0) = goodP rl now ps := by rw [List.take_zero]; exact List.append_nil _
   rw [← e0] at hO; have hO0 := hO; clear hO e0
   go_wp2
   go_loopg [7, 9] ps.length (fun gk out i wr => ∃ (k : Nat) (S1 : Nat → Prop), gk + k = ps.length ∧ i = .int .i64 k ∧ Pth.ownS.own S1 wr out (goodP rl now ps ++ badP rl now (ps.take k)) ∧ Hid (∀ b, S1 b → w.heap.size ≤ b ∧ b < wr.heap.size) ∧ Ext w wr)
   case atStart => exact ⟨0, S1, rfl, rfl, hO0, HS, hx⟩
   case round =>
    clear hO0 HS hx hgl hkl hlt hgk; obtain ⟨k, S1, hgk, rfl, hO, HS, hx⟩ := hrel; have hgl : (goodP rl now ps ++ badP rl now (ps.take k)).length ≤ ps.length + k := by have h1 := badP_len rl now ps k; have h2 : (goodP rl now ps).length ≤ ps.length := List.length_filter_le _ _; rw [List.length_append]; omega
    by_cases hlt : k < ps.length
    ·
     obtain ⟨b, off, oh, ch, rfl, hc, hr⟩ := Pth.at (rp.ext hx) k hlt; have hle := pszN_le hlt; have hg0 : gk - 1 + (k + 1) = ps.length ∧ gk - 1 < gk := by omega
     have HG := Lib.hid hg0; clear hg0 hgk
     go_wp2_with fail
     refine (s_Revoked rl _ ps[k] _ now _ (ru.ext hx) hr hm (by omega)).mono ?_; rintro e w1 ⟨rfl, hx1r⟩; have hcx := hx1r.cell hc
     cases hrv : revoked rl ps[k] now
     ·
      have HN := Lib.hid (badP_no hlt hrv); have hO' := Own.ext hO hx1r; rw [HN.out] at hO'; have hs1 := hx1r.size; have HS' : Hid (∀ b, S1 b → w.heap.size ≤ b ∧ b < w1.heap.size) := Lib.hid (fun b hb => by have := HS.out b hb; omega); clear hgl
      go_wp2_with fail
      go_roundg (gk - 1)
      case measure => exact HG.out.2
      case rel => exact ⟨k + 1, S1, HG.out.1, by go_num, hO', HS', hx.trans hx1r⟩
     ·
      have HY := Lib.hid (badP_yes hlt hrv); generalize hge : goodP rl now ps ++ badP rl now (ps.take k) = gl at *; have HGL := Lib.hid hge; clear hge
      go_wp2_with fail
      refine (s_l22Copy ps[k] _ _ (hr.ext hx1r) (by omega)).mono ?_; rintro e w2 ⟨u2, rfl, o2, h2⟩; obtain ⟨oo, co, rfl, _⟩ := (Part.ord o2).shape; have hs2 := h2.size; have hs1 := hx1r.size
      go_wp2_with (at_builtin; refine appG (S := S1) (w0 := w1) (c := Pth.c) (hc := Pth.clen) (sub := (·.parts)) (I := Part.own) E rfl _ _ rfl ps[k] (.slice oo ps[k].parts.length co) (rng w1.heap.size w2.heap.size) (pth_one _ _ _ _) rfl (Own.ext hO hx1r) (h2.alloc _) (Own.ext o2 ((Ext.refl _).alloc _)) (fun q hq => ⟨hq.1, by have := hq.2; simp; omega⟩) rfl (by exact blk_list (Pth.c ps[k] (.slice oo ps[k].parts.length co)) (blk_new w2 _)) (by omega) (by unfold maxLen; omega) ?_)
      intro v' w' ho' hg' hvS; have hgs : w2.heap.size + 1 ≤ w'.heap.size := by have := hg'.size; simpa using this
      rw [← HGL.out, List.append_assoc, HY.out] at ho'; have hx' := ((hx.trans (hx1r.trans h2)).alloc _).grown hg' (fun q hq => (HS.out q (hvS q hq)).1); have hsw := hx.size
      have HS' : Hid (∀ b, (S1 b ∨ (w1.heap.size ≤ b ∧ b < w'.heap.size)) → w.heap.size ≤ b ∧ b < w'.heap.size) := by
       refine Lib.hid (fun b hb => ?_)
       rcases hb with hb | hb
       ·
        have := HS.out b hb; omega
       ·
        omega
      clear hg' hvS HS hO
      go_wp2_with fail
      go_roundg (gk - 1)
      case measure => exact HG.out.2
      case rel => exact ⟨k + 1, _, HG.out.1, by go_num, ho', HS', hx'⟩
    ·
     have hkl : ps.take k = ps := List.take_of_length_le (by omega); rw [hkl] at hO; have ho2 := Pth.ownS.mono (T := rng w.heap.size wr.heap.size) hO (fun b hb => HS.out b hb); clear hO
     go_wp2
     go_ret
     rw [HPR.out]; exact ⟨_, rfl, ho2, hx⟩
end
end Go.Proofs.YtcpfmhgfaliemaaGreat
