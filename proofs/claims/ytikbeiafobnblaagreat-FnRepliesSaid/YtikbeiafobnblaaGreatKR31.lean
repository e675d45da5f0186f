/- What these laws need: FnFlips, FnReplies: Contracts of the functions on steps and on kinds of parts, program and reference, and of the laws over them. Contracts of turning parts around, program and reference. Contract of turning a part around, reference. Contracts of turning paths around, program and reference. -/
import Derived.Test.YtikbeiafobnblaaGreatKR4
import Derived.Test.YtikbeiafobnblaaGreatKR17
namespace Go.Proofs.YtikbeiafobnblaaGreat
section
open Go.ChangeShapes Go.WideShapes Go.ChangeAt Go.RowKit Go.Deep
def revKind (k : Int) : Int := if k == 1 then 4 else if k == 4 then 1 else if k == 2 then 3 else if k == 3 then 2 else k
set_option maxHeartbeats 400000 in
theorem i_ReverseKind (k : Int) (w : World) :
  Calls Tryz.prog 33 #[.int .i64 k] w fun e w' => e = .returned (.int .i64 (revKind k)) ∧ Ext w w' := by
 go_enter Tryz.func33, Tryz.ntmps33
 go_wp2
 all_goals
  go_ret
  refine ⟨ret_int ?_, Ext.refl _⟩
  simp only [revKind, *, if_true, if_false, Bool.false_eq_true]
set_option maxHeartbeats 400000 in
theorem s_ReverseKind (k : Int) (w : World) :
  Calls Tryz.prog 34 #[.int .i64 k] w fun e w' => e = .returned (.int .i64 (revKind k)) ∧ Ext w w' := by
 go_enter Tryz.func34, Tryz.ntmps34
 go_wp2
 all_goals
  go_ret
  refine ⟨ret_int ?_, Ext.refl _⟩
  simp only [revKind, *, if_true, if_false, Bool.false_eq_true]
def revStep (x : Step) : Step := ⟨x.asn, x.eg, x.ing⟩
def revSteps (l : List Step) : List Step := l.reverse.map revStep
theorem elemStep : Nonempty (Elem Tryz.prog 61 123 3 24) := Elem.mk' Tryz.underlying61 Tryz.infoStep rfl (by decide)
theorem revSteps_drop {l : List Step} {k : Nat} (hk : k < l.length) : revSteps (l.drop (k + 1)) ++ [revStep l[k]] = revSteps (l.drop k) := by
 rw [List.drop_eq_getElem_cons hk]; simp only [revSteps, List.reverse_cons, List.map_append, List.map_cons, List.map_nil]
set_option maxHeartbeats 1000000 in
theorem i_ReverseSteps (l : List Step) (v : Value) (w : World) (hv : RdS Step.rep w v l) (hl : l.length ≤ 1048576) :
  Calls Tryz.prog 45 #[v] w fun e w' => ∃ v', e = .returned v' ∧ OwnF Step.f 3 w.heap.size 123 w' v' (revSteps l) ∧ Ext w w' := by
 obtain ⟨o, cap, rfl, hsm⟩ := hv.shape
 obtain ⟨E⟩ := elemStep
 go_enter Tryz.func45, Tryz.ntmps45
 go_wp2
 go_loopw [3, 4] (fun out i wr => ∃ (k : Nat), k ≤ l.length ∧ i = .int .i64 ((k : Int) - 1) ∧ OwnF Step.f 3 w.heap.size 123 wr out (revSteps (l.drop k)) ∧ Ext w wr) (fun _ i _ => (intOf i + 1).toNat)
 case atStart =>
  refine ⟨l.length, Nat.le_refl _, rfl, ?_, ?_⟩
  ·
   rw [List.drop_length]; exact OwnF.nil _ _ _ _ _
  ·
   exact Ext.refl _
 case round =>
  obtain ⟨k, hk, rfl, hown, hx⟩ := hrel
  by_cases hlt : 1 ≤ k
  ·
   obtain ⟨j, rfl⟩ : ∃ j, k = j + 1 := ⟨k - 1, by omega⟩
   have hj : j < l.length := by omega
   obtain ⟨b, off, rfl, hc⟩ := Step.at (hv.ext hx) j hj
   have e1 : (((j + 1 : Nat) : Int) - 1) = (j : Int) := by omega
   rw [e1]
   clear e1
   have hln : (revSteps (l.drop (j + 1))).length + 1 ≤ 1048576 := by simp [revSteps]; omega
   go_wp2
   have hb0 : b < wr.heap.size := World.block_lt_of_cell? wr _ hc.1
   have hj0 : (0 : Int) ≤ (j : Int) := Int.natCast_nonneg _
   have hj1 : (j : Int) < (l.length : Int) := by omega
   have hbw : Ext w ((wr.alloc (.cells #[.int .i64 l[j].asn, .int .i64 l[j].eg, .int .i64 l[j].ing] 123)).drew) := (hx.alloc _).drew
   go_region_held3 (fun w' => w'.cell? ⟨b, off + j * 3, none⟩ = some (.int .i64 l[j].asn) ∧ w'.cell? ⟨b, off + j * 3 + 1, none⟩ = some (.int .i64 l[j].ing) ∧ w'.cell? ⟨b, off + j * 3 + 2, none⟩ = some (.int .i64 l[j].eg))
    (first | go_keep | (obtain ⟨b', off', he, hh⟩ := Step.at (hv.ext ((hx.alloc _).drew.app hg' hown (Nat.le_refl _))) j hj; cases he; exact hh))
    ((refine stepApp1 E Step.flen Step.one (by rfl) _ _ (by rfl) (revStep l[j]) (by rfl) (OwnF.ext hown ((Ext.refl _).alloc _).drew) (by rfl) (blk_list (revStep l[j]).f (blk_new wr _)) (by omega) (by unfold maxLen; omega) hbw.size ?_; intro v' w' ho' hg'))
   have hx' : Ext w w' := (hx.alloc _).drew.app hg' hown (Nat.le_refl _)
   rw [revSteps_drop hj] at ho'
   clear hg'
   go_wp2
   go_roundw
   case rel => exact ⟨j, by omega, rfl, ho', hx'⟩
   case measure => simp [intOf]
  ·
   obtain rfl : k = 0 := by omega
   go_wp2
   go_ret
   exact ⟨_, rfl, hown, hx⟩
end
section
open Go.ChangeShapes Go.WideShapes Go.ChangeAt Go.RowKit Go.Deep
def revPart (x : Part) : Part := ⟨revKind x.kind, x.ts, betaAfter x x.hops.length, x.hops.reverse⟩
set_option maxHeartbeats 1000000 in
theorem i_reversedHops (l : List Hop) (v : Value) (w : World) (hv : RdS Hop.rep w v l) (hl : l.length ≤ 1048576) :
  Calls Tryz.prog 148 #[v] w fun e w' => ∃ v', e = .returned v' ∧ OwnF Hop.f 5 w.heap.size 44 w' v' l.reverse ∧ Ext w w' := by
 obtain ⟨o, cap, rfl, hsm⟩ := hv.shape
 obtain ⟨E⟩ := elemHop
 go_enter Tryz.func148, Tryz.ntmps148
 go_wp2
 go_loopg [3, 4] l.length (fun gk out i wr => i = .int .i64 ((gk : Int) - 1) ∧ gk ≤ l.length ∧ OwnF Hop.f 5 w.heap.size 44 wr out (l.drop gk).reverse ∧ Ext w wr)
 case atStart =>
  refine ⟨rfl, Nat.le_refl _, ?_, Ext.refl _⟩
  rw [List.drop_length]; exact OwnF.nil _ _ _ _ _
 case round =>
  obtain ⟨rfl, hk, hown, hx⟩ := hrel
  cases gk with
  | zero =>
   go_wp2
   go_ret
   exact ⟨_, rfl, hown, hx⟩
  | succ j =>
   have hj : j < l.length := by omega
   obtain ⟨b, off, rfl, hc⟩ := Hop.at (hv.ext hx) j hj
   have e1 : (((j + 1 : Nat) : Int) - 1) = (j : Int) := by omega
   rw [e1]
   clear e1
   have hln : (l.drop (j + 1)).reverse.length + 1 ≤ 1048576 := by simp; omega
   have HE := Lib.hid (rev_drop hj)
   generalize (l.drop (j + 1)).reverse = out at *
   have hj0 : (0 : Int) ≤ (j : Int) := Int.natCast_nonneg _
   go_wp2_with (at_builtin; refine app1 E Hop.flen Hop.one rfl _ _ rfl l[j] rfl (OwnF.ext hown ((Ext.refl _).alloc _)) rfl (by exact blk_list l[j].f (blk_new wr _)) (by omega) (by unfold maxLen; omega) (by exact (hx.alloc _).size) ?_)
   intro v' w' ho' hg'
   have hx' : Ext w w' := (hx.alloc _).app hg' hown (Nat.le_refl _)
   rw [HE.out] at ho'
   clear hg'
   go_wp2_with fail
   go_roundg j
   case measure => omega
   case rel => exact ⟨rfl, by omega, ho', hx'⟩
set_option maxHeartbeats 2000000 in
theorem i_BetaAfter (x : Part) (v : Value) (i : Int) (w : World) (r : RdS Hop.rep w v x.hops) :
  Calls Tryz.prog 147 #[.agg #[.int .i64 x.kind, .int .i64 x.ts, .int .i64 x.beta, v], .int .i64 i] w fun e w' => e = .returned (.int .i64 (betaAfter x i)) ∧ Ext w w' := by
 obtain ⟨o, cap, rfl, hsm⟩ := r.shape
 have hcap := r.capLe
 have hx0 : Ext w (w.alloc (.cells #[.int .i64 x.kind, .int .i64 x.ts, .int .i64 x.beta, .slice o x.hops.length cap] 47)) := (Ext.refl _).alloc _
 have hB := blk_new w (.cells #[.int .i64 x.kind, .int .i64 x.ts, .int .i64 x.beta, .slice o x.hops.length cap] 47)
 have HB := Lib.hid hB; clear hB
 go_enter Tryz.func147, Tryz.ntmps147
 go_wp2_with fail
 refine (i_InRange _ _ _ _).mono ?_
 rintro e w1 ⟨rfl, rfl⟩
 cases hin : inR i 0 x.hops.length
 ·
  have he : betaAfter x i = 0 := by unfold betaAfter; rw [if_neg (inR_false.1 hin)]
  have HE := Lib.hid he; clear he
  go_wp2_with fail
  go_ret
  exact ⟨ret_int HE.out.symm, hx0⟩
 ·
  obtain ⟨h1, h2⟩ := inR_true.1 hin
  obtain ⟨k, rfl⟩ := Int.eq_ofNat_of_zero_le h1
  have he : betaAfter x k = betaTo x k := by unfold betaAfter; rw [if_pos ⟨h1, h2⟩, Int.toNat_natCast]
  have HE := Lib.hid he; clear he
  have hkl : k ≤ x.hops.length := by omega
  have HIN := Lib.hid hin; clear hin
  have q1 : (k : Int) ≤ cap := by omega
  go_wp2
  go_loopg [5, 21] k (fun gk t i wr => ∃ j : Nat, gk + j = k ∧ i = .int .i64 j ∧ t = .int .i64 (betaTo x j) ∧ Hid (wr.heap[w.heap.size]? = some (.cells #[.int .i64 x.kind, .int .i64 x.ts, .int .i64 x.beta, .slice o x.hops.length cap] 47)) ∧ Ext w wr)
  case atStart => exact ⟨0, rfl, rfl, rfl, HB, hx0⟩
  case round =>
   obtain ⟨j, hgk, rfl, rfl, HBj, hx⟩ := hrel
   have hcb := blk4 HBj.out
   by_cases hjk : j < k
   ·
    have hj : j < x.hops.length := by omega
    have HBj2 := Lib.hid (Ext.block ((Ext.refl wr).alloc (.cells #[.int .i64 x.hops[j].asn, .int .i64 x.hops[j].ing, .int .i64 x.hops[j].eg, .int .i64 x.hops[j].exp, .int .i64 x.hops[j].mac] 44)) HBj.out)
    have hcb2 := blk4 HBj2.out
    obtain ⟨b, off, rfl, hc⟩ := Hop.at (r.ext hx) j hj
    have hst := betaTo_succ hj
    have HST := Lib.hid hst; clear hst
    have hg' : gk - 1 + (j + 1) = k ∧ gk - 1 < gk := by omega
    have HG := Lib.hid hg'; clear hg' hgk
    generalize betaTo x j = t0 at *
    go_wp2_with fail
    refine (i_IsReversed _ _).mono ?_
    rintro e w1 ⟨rfl, rfl⟩
    cases hrv : isRev x.kind
    ·
     rw [hrv] at HST
     have HS2 := Lib.hid (HST.out.trans rfl : _ = addMod t0 x.hops[j].mac)
     go_wp2_with fail
     refine (i_AddMod _ _ _).mono ?_
     rintro e w1 ⟨rfl, rfl⟩
     go_wp2_with fail
     go_roundg (gk - 1)
     case measure => exact HG.out.2
     case rel => exact ⟨j + 1, HG.out.1, by go_num, by rw [HS2.out], HBj2, hx.alloc _⟩
    ·
     rw [hrv] at HST
     have HS2 := Lib.hid (HST.out.trans rfl : _ = subMod t0 x.hops[j].mac)
     go_wp2_with fail
     refine (i_SubMod _ _ _).mono ?_
     rintro e w1 ⟨rfl, rfl⟩
     go_wp2_with fail
     go_roundg (gk - 1)
     case measure => exact HG.out.2
     case rel => exact ⟨j + 1, HG.out.1, by go_num, by rw [HS2.out], HBj2, hx.alloc _⟩
   ·
    obtain rfl : j = k := by omega
    go_wp2
    go_ret
    exact ⟨ret_int HE.out.symm, hx⟩
set_option maxHeartbeats 2000000 in
theorem s_BetaAfter (x : Part) (v : Value) (i : Int) (w : World) (r : RdS Hop.rep w v x.hops) :
  Calls Tryz.prog 149 #[.agg #[.int .i64 x.kind, .int .i64 x.ts, .int .i64 x.beta, v], .int .i64 i] w fun e w' => e = .returned (.int .i64 (betaAfter x i)) ∧ Ext w w' := by
 obtain ⟨o, cap, rfl, hsm⟩ := r.shape
 have hcap := r.capLe
 have hx0 : Ext w (w.alloc (.cells #[.int .i64 x.kind, .int .i64 x.ts, .int .i64 x.beta, .slice o x.hops.length cap] 47)) := (Ext.refl _).alloc _
 have hB := blk_new w (.cells #[.int .i64 x.kind, .int .i64 x.ts, .int .i64 x.beta, .slice o x.hops.length cap] 47)
 have HB := Lib.hid hB; clear hB
 go_enter Tryz.func149, Tryz.ntmps149
 go_wp2_with fail
 refine (s_l1In _ _ _ _).mono ?_
 rintro e w1 ⟨rfl, rfl⟩
 cases hin : inR i 0 x.hops.length
 ·
  have he : betaAfter x i = 0 := by unfold betaAfter; rw [if_neg (inR_false.1 hin)]
  have HE := Lib.hid he; clear he
  go_wp2_with fail
  go_ret
  exact ⟨ret_int HE.out.symm, hx0⟩
 ·
  obtain ⟨h1, h2⟩ := inR_true.1 hin
  obtain ⟨k, rfl⟩ := Int.eq_ofNat_of_zero_le h1
  have he : betaAfter x k = betaTo x k := by unfold betaAfter; rw [if_pos ⟨h1, h2⟩, Int.toNat_natCast]
  have HE := Lib.hid he; clear he
  have hkl : k ≤ x.hops.length := by omega
  have HIN := Lib.hid hin; clear hin
  have q1 : (k : Int) ≤ cap := by omega
  go_wp2
  go_loopg [5, 6] k (fun gk t i wr => ∃ j : Nat, gk + j = k ∧ i = .int .i64 j ∧ t = .int .i64 (betaTo x j) ∧ Hid (wr.heap[w.heap.size]? = some (.cells #[.int .i64 x.kind, .int .i64 x.ts, .int .i64 x.beta, .slice o x.hops.length cap] 47)) ∧ Ext w wr)
  case atStart => exact ⟨0, rfl, rfl, rfl, HB, hx0⟩
  case round =>
   obtain ⟨j, hgk, rfl, rfl, HBj, hx⟩ := hrel
   have hcb := blk4 HBj.out
   by_cases hjk : j < k
   ·
    have hj : j < x.hops.length := by omega
    obtain ⟨b, off, rfl, hc⟩ := Hop.at (r.ext hx) j hj
    have hst := betaTo_succ hj
    have HST := Lib.hid hst; clear hst
    have hg' : gk - 1 + (j + 1) = k ∧ gk - 1 < gk := by omega
    have HG := Lib.hid hg'; clear hg' hgk
    generalize betaTo x j = t0 at *
    go_wp2_with fail
    refine (s_IsReversed _ _).mono ?_
    rintro e w1 ⟨rfl, rfl⟩
    cases hrv : isRev x.kind
    ·
     rw [hrv] at HST
     have HS2 := Lib.hid (HST.out.trans rfl : _ = addMod t0 x.hops[j].mac)
     go_wp2_with fail
     refine (s_AddMod _ _ _).mono ?_
     rintro e w1 ⟨rfl, rfl⟩
     go_wp2_with fail
     go_roundg (gk - 1)
     case measure => exact HG.out.2
     case rel => exact ⟨j + 1, HG.out.1, by go_num, by rw [HS2.out], HBj, hx⟩
    ·
     rw [hrv] at HST
     have HS2 := Lib.hid (HST.out.trans rfl : _ = subMod t0 x.hops[j].mac)
     go_wp2_with fail
     refine (s_SubMod _ _ _).mono ?_
     rintro e w1 ⟨rfl, rfl⟩
     go_wp2_with fail
     go_roundg (gk - 1)
     case measure => exact HG.out.2
     case rel => exact ⟨j + 1, HG.out.1, by go_num, by rw [HS2.out], HBj, hx⟩
   ·
    obtain rfl : j = k := by omega
    go_wp2
    go_ret
    exact ⟨ret_int HE.out.symm, hx⟩
set_option maxHeartbeats 2000000 in
theorem i_ReversePart (x : Part) (v : Value) (w : World) (r : RdS Hop.rep w v x.hops) (hl : x.size ≤ 1048576) :
  Calls Tryz.prog 36 #[.agg #[.int .i64 x.kind, .int .i64 x.ts, .int .i64 x.beta, v]] w fun e w' => ∃ u, e = .returned (.agg #[.int .i64 (revPart x).kind, .int .i64 (revPart x).ts, .int .i64 (revPart x).beta, u]) ∧ OwnF Hop.f 5 w.heap.size 44 w' u (revPart x).hops ∧ Ext w w' := by
 obtain ⟨o, cap, rfl, hsm⟩ := r.shape
 have hx0 := ext2 w (.cells #[.int .i64 x.kind, .int .i64 x.ts, .int .i64 x.beta, .slice o x.hops.length cap] 47) (.cells #[.int .i64 0, .int .i64 0, .int .i64 0, .slice none 0 0] 47)
 have hB := (al2 w (.cells #[.int .i64 x.kind, .int .i64 x.ts, .int .i64 x.beta, .slice o x.hops.length cap] 47) (.cells #[.int .i64 0, .int .i64 0, .int .i64 0, .slice none 0 0] 47)).2
 have HB := Lib.hid hB; clear hB
 go_enter Tryz.func36, Tryz.ntmps36
 go_wp2_with fail
 refine planStep (.blk [0, 1, 3, 4, 5, 6, 7, 8, 10, 11] (.one 2 (.one 9 (.one 12 (.blk [13] (.one 14 .done)))))) [14] (by kernel_rfl) (by kernel_rfl) ?_

 refine blkStep (fun K HK => ?_)
 simp only [PK]
 go_wp2_with fail
 refine HK.out _ _ ?_
 clear HK K

 refine oneStep (fun K HK => ?_)
 simp only [PK]
 go_wp2_with fail

 refine (i_ReverseKind x.kind _).mono ?_
 rintro e w1 ⟨rfl, h1⟩
 have hx1 := hx0.drew.trans h1
 go_wp2_with fail
 refine HK.out _ _ (h1) ?_
 clear HK K

 refine oneStep (fun K HK => ?_)
 simp only [PK]
 go_wp2_with fail

 refine (i_BetaAfter x _ _ _ (r.ext hx1)).mono ?_
 rintro e w2 ⟨rfl, h2⟩
 have hx2 := hx1.trans h2
 go_wp2_with fail
 refine HK.out _ _ (h2) ?_
 clear HK K

 refine oneStep (fun K HK => ?_)
 simp only [PK]
 go_wp2_with fail

 refine (i_reversedHops x.hops _ _ (r.ext hx2) hl).mono ?_
 rintro e w3 ⟨u, rfl, ou, h3⟩
 have hx3 := hx2.trans h3
 obtain ⟨oo, co, rfl, _⟩ := (OwnF.rd (hf := Hop.flen) ou).shape
 go_wp2_with fail
 refine HK.out _ _ (h3) ?_
 clear HK K

 refine blkStep (fun K HK => ?_)
 simp only [PK]
 go_wp2_with fail
 refine HK.out _ _ ?_
 clear HK K

 have hb3 := h3.block (h2.block (Ext.block ((Ext.refl _).drew.trans h1) HB.out))
 have c3 := blk4 hb3
 have f0 := fr_of hb3 0
 have f1 := fr_of hb3 1
 have f2 := fr_of hb3 2
 have f3 := fr_of hb3 3
 have hlt3 : w.heap.size + 1 < w2.heap.size := blk_lt (h2.block (Ext.block ((Ext.refl _).drew.trans h1) HB.out))
 clear hb3
 refine badStep (by kernel_rfl) (fun K HK => ?_)
 simp only [PK]

 go_wp2_with fail
 refine HK.out _ _ ?_
 clear HK K
 refine doneStep (by kernel_rfl) ?_

 go_wp2_with fail
 refine bodyPost_ret (v := .agg #[.int .i64 (revKind x.kind), .int .i64 x.ts, .int .i64 (betaAfter x x.hops.length), .slice oo x.hops.reverse.length co]) (by simp [results, Tryz.results36, go_sem, c3]) rfl ⟨_, rfl, ?_, ?_⟩
 ·
  exact (((((ou.set (by simp; omega) _).set (by simp; omega) _).set (by simp; omega) _).set (by simp; omega) _)).mono hx2.size
 ·
  exact (((hx3.setCell (by simp) _).setCell (by simp) _).setCell (by simp) _).setCell (by simp) _
end
section
open Go.ChangeShapes Go.WideShapes Go.ChangeAt Go.RowKit Go.Deep
set_option maxRecDepth 100000 in
set_option maxHeartbeats 4000000 in
theorem s_ReversePart (x : Part) (v : Value) (w : World) (r : RdS Hop.rep w v x.hops) (hl : x.size ≤ 1048576) :
  Calls Tryz.prog 37 #[.agg #[.int .i64 x.kind, .int .i64 x.ts, .int .i64 x.beta, v]] w fun e w' => ∃ u, e = .returned (.agg #[.int .i64 (revPart x).kind, .int .i64 (revPart x).ts, .int .i64 (revPart x).beta, u]) ∧ OwnF Hop.f 5 w.heap.size 44 w' u (revPart x).hops ∧ Ext w w' := by
 unfold Part.size at hl
 obtain ⟨o, cap, rfl, hsm⟩ := r.shape
 obtain ⟨E⟩ := elemHop
 have hx0 := ext2 w (.cells #[.int .i64 x.kind, .int .i64 x.ts, .int .i64 x.beta, .slice o x.hops.length cap] 47) (.cells #[.int .i64 0, .int .i64 0, .int .i64 0, .slice none 0 0] 47)
 have hB := al2 w (.cells #[.int .i64 x.kind, .int .i64 x.ts, .int .i64 x.beta, .slice o x.hops.length cap] 47) (.cells #[.int .i64 0, .int .i64 0, .int .i64 0, .slice none 0 0] 47)
 have HB := Lib.hid hB; clear hB
 go_enter Tryz.func37, Tryz.ntmps37
 go_upto_region 1 with (fail)
 go_cut [3] (fun v3 wx => ∃ B3, v3 = .pointer (some ⟨B3, 0, none⟩) ∧ wx.heap[B3]? = some (.cells #[.int .i64 (revKind x.kind), .int .i64 x.ts, .int .i64 (betaAfter x x.hops.length), .slice none 0 0] 47) ∧ w.heap.size + 1 + 1 ≤ B3 ∧ Ext ((w.alloc (.cells #[.int .i64 x.kind, .int .i64 x.ts, .int .i64 x.beta, .slice o x.hops.length cap] 47)).alloc (.cells #[.int .i64 0, .int .i64 0, .int .i64 0, .slice none 0 0] 47)) wx)
 case first =>
  refine planStep (.blk [0, 1, 3, 4, 5, 6, 7, 8] (.two 2 11 (.two 9 11 (.blk [10] (.one 11 (.one 12 .done))) (.one 9 (.blk [10] (.one 12 .done)))) (.one 2 (.one 9 (.blk [10] (.one 12 .done)))))) [12] (by kernel_rfl) (by kernel_rfl) ?_
  refine blkStep (fun K HK => ?_)
  simp only [PK]
  go_wp2_with fail
  refine HK.out _ _ ?_
  clear HK K

  refine twoStep ?_ ?_
  ·
   refine oneStep (fun K HK => ?_)
   simp only [PK]
   go_wp2_with fail
   refine (s_ReverseKind x.kind _).mono ?_
   rintro e w1 ⟨rfl, h1⟩
   go_wp2_with fail
   refine HK.out _ _ (h1) ?_
   clear HK K
   refine twoStep ?_ ?_
   ·
    refine oneStep (fun K HK => ?_)
    simp only [PK]
    go_wp2_with fail
    refine (s_BetaAfter x _ _ _ (r.ext (hx0.drew.trans h1))).mono ?_
    rintro e w2 ⟨rfl, h2⟩
    go_wp2_with fail
    refine HK.out _ _ (h2) ?_
    clear HK K
    refine blkStep (fun K HK => ?_)
    simp only [PK]
    go_wp2_with fail
    refine HK.out _ _ ?_
    clear HK K
    refine oneStep (fun K HK => ?_)
    simp only [PK]
    go_wp2_with fail
    refine HK.out _ _ ((Ext.refl _).alloc _) ?_
    clear HK K
    refine badStep (by kernel_rfl) (fun K HK => ?_)
    simp only [PK]
    go_wp2_with fail
    refine HK.out _ _ ?_
    clear HK K
    refine doneStep (by kernel_rfl) ?_
    go_wp2_with fail
    go_meet
    exact ⟨_, rfl, blk_new w2 _, by have := (((Ext.refl ((w.alloc (.cells #[.int .i64 x.kind, .int .i64 x.ts, .int .i64 x.beta, .slice o x.hops.length cap] 47)).alloc (.cells #[.int .i64 0, .int .i64 0, .int .i64 0, .slice none 0 0] 47))).drew.trans h1).trans h2).size; simpa using this, (((Ext.refl ((w.alloc (.cells #[.int .i64 x.kind, .int .i64 x.ts, .int .i64 x.beta, .slice o x.hops.length cap] 47)).alloc (.cells #[.int .i64 0, .int .i64 0, .int .i64 0, .slice none 0 0] 47))).drew.trans h1).trans h2).alloc _⟩

   ·
    have hb1 := blk_new w1 (.cells #[.int .i64 0, .int .i64 0, .int .i64 0, .slice none 0 0] 47)
    have HB1 := Lib.hid hb1; clear hb1
    refine oneStep (fun K HK => ?_)
    simp only [PK]
    go_wp2_with fail
    refine HK.out _ _ ((Ext.refl _).alloc _) ?_
    clear HK K
    refine oneStep (fun K HK => ?_)
    simp only [PK]
    go_wp2_with fail
    refine (s_BetaAfter x _ _ _ (r.ext ((hx0.drew.trans h1).alloc _))).mono ?_
    rintro e w2 ⟨rfl, h2⟩
    go_wp2_with fail
    refine HK.out _ _ (h2) ?_
    clear HK K
    refine blkStep (fun K HK => ?_)
    simp only [PK]
    go_wp2_with fail
    refine HK.out _ _ ?_
    clear HK K
    have hb2 := h2.block HB1.out
    have c2 := blk4 hb2
    have f20 := fr_of hb2 0
    have f21 := fr_of hb2 1
    have f22 := fr_of hb2 2
    have f23 := fr_of hb2 3
    have HB2 := Lib.hid hb2; clear hb2
    refine badStep (by kernel_rfl) (fun K HK => ?_)
    simp only [PK]
    go_wp2_with fail
    refine HK.out _ _ ?_
    clear HK K
    refine doneStep (by kernel_rfl) ?_
    go_wp2_with fail
    go_meet
    exact ⟨_, rfl, blk_set4 HB2.out _ _ _ _, by have := ((Ext.refl ((w.alloc (.cells #[.int .i64 x.kind, .int .i64 x.ts, .int .i64 x.beta, .slice o x.hops.length cap] 47)).alloc (.cells #[.int .i64 0, .int .i64 0, .int .i64 0, .slice none 0 0] 47))).drew.trans h1).size; simpa using this, ext_set4 ((((Ext.refl ((w.alloc (.cells #[.int .i64 x.kind, .int .i64 x.ts, .int .i64 x.beta, .slice o x.hops.length cap] 47)).alloc (.cells #[.int .i64 0, .int .i64 0, .int .i64 0, .slice none 0 0] 47))).drew.trans h1).alloc _).trans h2) ((Ext.refl ((w.alloc (.cells #[.int .i64 x.kind, .int .i64 x.ts, .int .i64 x.beta, .slice o x.hops.length cap] 47)).alloc (.cells #[.int .i64 0, .int .i64 0, .int .i64 0, .slice none 0 0] 47))).drew.trans h1).size _ _ _ _⟩

  ·
   have hb1 := blk_new ((w.alloc (.cells #[.int .i64 x.kind, .int .i64 x.ts, .int .i64 x.beta, .slice o x.hops.length cap] 47)).alloc (.cells #[.int .i64 0, .int .i64 0, .int .i64 0, .slice none 0 0] 47)) (.cells #[.int .i64 0, .int .i64 0, .int .i64 0, .slice none 0 0] 47)
   simp only [nblk_alloc] at hb1
   have HB1 := Lib.hid hb1; clear hb1
   refine oneStep (fun K HK => ?_)
   simp only [PK]
   go_wp2_with fail
   refine HK.out _ _ ((Ext.refl _).alloc _) ?_
   clear HK K
   refine oneStep (fun K HK => ?_)
   simp only [PK]
   go_wp2_with fail
   refine (s_ReverseKind x.kind _).mono ?_
   rintro e w1 ⟨rfl, h1⟩
   go_wp2_with fail
   refine HK.out _ _ (h1) ?_
   clear HK K
   refine oneStep (fun K HK => ?_)
   simp only [PK]
   go_wp2_with fail
   refine (s_BetaAfter x _ _ _ (r.ext ((hx0.drew.alloc _).trans h1))).mono ?_
   rintro e w2 ⟨rfl, h2⟩
   go_wp2_with fail
   refine HK.out _ _ (h2) ?_
   clear HK K
   refine blkStep (fun K HK => ?_)
   simp only [PK]
   go_wp2_with fail
   refine HK.out _ _ ?_
   clear HK K
   have hb2 := h2.block (h1.block HB1.out)
   have c2 := blk4 hb2
   have f20 := fr_of hb2 0
   have f21 := fr_of hb2 1
   have f22 := fr_of hb2 2
   have f23 := fr_of hb2 3
   have HB2 := Lib.hid hb2; clear hb2
   refine badStep (by kernel_rfl) (fun K HK => ?_)
   simp only [PK]
   go_wp2_with fail
   refine HK.out _ _ ?_
   clear HK K
   refine doneStep (by kernel_rfl) ?_
   go_wp2_with fail
   go_meet
   exact ⟨_, rfl, blk_set4 HB2.out _ _ _ _, Nat.le_refl _, ext_set4 ((((Ext.refl ((w.alloc (.cells #[.int .i64 x.kind, .int .i64 x.ts, .int .i64 x.beta, .slice o x.hops.length cap] 47)).alloc (.cells #[.int .i64 0, .int .i64 0, .int .i64 0, .slice none 0 0] 47))).drew.alloc _).trans h1).trans h2) (by simp) _ _ _ _⟩

 case rest =>
  obtain ⟨B3, rfl, hb3, hle3, hxc⟩ := hcut
  have HB3 := Lib.hid hb3; clear hb3
  have hlt3 : B3 < wc.heap.size := blk_lt HB3.out
  have HBX := Lib.hid (hxc.block HB.out.1)
  have hcb := blk4 HBX.out
  go_wp2
  clear hcb
  go_loopg [4] x.hops.length (fun gk i wr => i = .int .i64 ((gk : Int) - 1) ∧ gk ≤ x.hops.length ∧ (∃ ok ck, Hid (wr.heap[B3]? = some (.cells #[.int .i64 (revKind x.kind), .int .i64 x.ts, .int .i64 (betaAfter x x.hops.length), .slice ok (x.hops.length - gk) ck] 47)) ∧ OwnF Hop.f 5 wc.heap.size 44 wr (.slice ok (x.hops.length - gk) ck) (x.hops.drop gk).reverse) ∧ wc.heap.size ≤ wr.heap.size ∧ Ext ((w.alloc (.cells #[.int .i64 x.kind, .int .i64 x.ts, .int .i64 x.beta, .slice o x.hops.length cap] 47)).alloc (.cells #[.int .i64 0, .int .i64 0, .int .i64 0, .slice none 0 0] 47)) wr)
  case atStart =>
   refine ⟨rfl, Nat.le_refl _, ⟨none, 0, ?_, ?_⟩, Nat.le_refl _, hxc⟩
   ·
    rw [Nat.sub_self]; exact HB3
   ·
    rw [Nat.sub_self, List.drop_length]; exact OwnF.nil _ _ _ _ _
  case round =>
   obtain ⟨rfl, hk, ⟨ok, ck, HBk, hown⟩, hsw, hx⟩ := hrel
   have hcb := blk4 (hx.block HB.out.1)
   have hc3 := blk4 HBk.out
   cases gk with
   | zero =>
    have hcr := blk4 (hx.block HB.out.2)
    have g0 := fr_of (hx.block HB.out.2) 0
    have g1 := fr_of (hx.block HB.out.2) 1
    have g2 := fr_of (hx.block HB.out.2) 2
    have g3 := fr_of (hx.block HB.out.2) 3
    have hsz := hxc.size
    simp only [nblk_alloc] at hsz
    go_wp2
    refine bodyPost_ret (v := .agg #[.int .i64 (revKind x.kind), .int .i64 x.ts, .int .i64 (betaAfter x x.hops.length), .slice ok (x.hops.length - 0) ck]) (by simp [results, Tryz.results37, go_sem, hcr]) rfl ⟨_, rfl, ?_, ?_⟩
    ·
     exact (((((hown.set (by simp; omega) _).set (by simp; omega) _).set (by simp; omega) _).set (by simp; omega) _)).mono (by omega)
    ·
     exact ((((hx0.trans hx).setCell (by simp) _).setCell (by simp) _).setCell (by simp) _).setCell (by simp) _
   | succ j =>
    have hj : j < x.hops.length := by omega
    obtain ⟨b, off, rfl, hc⟩ := Hop.at (r.ext (hx0.trans hx)) j hj
    have e1 : (((j + 1 : Nat) : Int) - 1) = (j : Int) := by omega
    rw [e1]
    clear e1
    have hln : (x.hops.drop (j + 1)).reverse.length + 1 ≤ 1048576 := by simp; omega
    have HE := Lib.hid (rev_drop hj)
    have hle : (x.hops.drop j).reverse.length = (x.hops.drop (j + 1)).reverse.length + 1 := by simp; omega
    have HLE := Lib.hid hle; clear hle
    generalize (x.hops.drop (j + 1)).reverse = out at *
    have hj0 : (0 : Int) ≤ (j : Int) := Int.natCast_nonneg _
    have hj1 : (j : Int) < (x.hops.length : Int) := by omega
    go_wp2_with fail
    refine planStep (.blk [0, 1, 2, 3, 4, 5, 6] (.one 7 (.one 8 (.blk [9] (.one 10 .done))))) [8, 10] (by kernel_rfl) (by kernel_rfl) ?_

    refine blkStep (fun K HK => ?_)
    simp only [PK]
    go_wp2_with fail
    refine HK.out _ _ ?_
    clear HK K

    refine oneStep (fun K HK => ?_)
    simp only [PK]
    go_wp2_with fail
    refine HK.out _ _ ((Ext.refl _).alloc _) ?_
    clear HK K
    refine badStep (by kernel_rfl) (fun K HK => ?_)
    simp only [PK]

    refine app1 E Hop.flen Hop.one rfl _ _ rfl x.hops[j] rfl (OwnF.ext hown ((Ext.refl _).drew.alloc _)) rfl (by exact blk_list x.hops[j].f (blk_new wr _)) (by omega) (by unfold maxLen; omega) (by exact Nat.le_trans hsw ((Ext.refl wr).drew.alloc _).size) ?_
    intro v' w' ho' hg'
    have hsw' : wc.heap.size ≤ w'.heap.size := Nat.le_trans (Nat.le_trans hsw ((Ext.refl wr).drew.alloc _).size) hg'.size
    have hx' := Ext.app (hx.drew.alloc _) hg' hown hxc.size
    have hb3' := own_ne (OwnF.ext hown ((Ext.refl _).drew.alloc _)) (Ext.block ((Ext.refl _).drew.alloc _) HBk.out) (by decide) hg'
    rw [HE.out] at ho'
    obtain ⟨on, cn, hve, _⟩ := (OwnF.rd (hf := Hop.flen) ho').shape
    rw [show (x.hops.drop j).reverse.length = x.hops.length - j from by simp] at hve
    subst hve
    have c3' := blk4 hb3'
    have f3' := fr_of hb3' 3
    have hb4 := blk_set hb3' 3 (.slice on (x.hops.length - j) cn)
    simp only [List.setIfInBounds_toArray, List.set_cons_succ, List.set_cons_zero] at hb4
    have HB4 := Lib.hid hb4; clear hb4 hb3'
    have hx4 := hx'.setCell (p := ⟨B3, 3, none⟩) (by simp; omega) (.slice on (x.hops.length - j) cn)
    have HO4 := Lib.hid (ho'.set (p := ⟨B3, 3, none⟩) (by simpa using hlt3) (.slice on (x.hops.length - j) cn))
    clear hg' ho'
    go_wp2_with fail
    refine HK.out _ _ ?_
    clear HK K
    refine blkStep (fun K HK => ?_)
    simp only [PK]
    go_wp2_with fail
    refine HK.out _ _ ?_
    clear HK K

    refine badStep (by kernel_rfl) (fun K HK => ?_)
    simp only [PK]

    go_wp2_with fail
    refine HK.out _ _ ?_
    clear HK K
    refine doneStep (by kernel_rfl) ?_

    go_wp2_with fail
    go_roundg j
    case measure => omega
    case rel => exact ⟨rfl, by omega, ⟨on, cn, HB4, HO4.out⟩, by simpa using hsw', hx4⟩
end
section
open Go.ChangeShapes Go.WideShapes Go.ChangeAt Go.RowKit Go.Deep
def revParts (l : List Part) : List Part := (l.map revPart).reverse
def revPath (x : Pth) : Pth := ⟨revParts x.parts⟩
theorem revParts_drop {l : List Part} {k : Nat} (hk : k < l.length) : revParts (l.drop (k + 1)) ++ [revPart l[k]] = revParts (l.drop k) := by
 unfold revParts
 rw [List.drop_eq_getElem_cons hk, List.map_cons, List.reverse_cons]
theorem revParts_len (l : List Part) : (revParts l).length = l.length := by simp [revParts]
theorem revParts_hops (l : List Part) : hopsN (revParts l) = hopsN l := by
 have h : ∀ l : List Part, hopsN (l.map revPart) = hopsN l := by
  intro l
  induction l with
  | nil => rfl
  | cons x l ih => rw [List.map_cons, hopsN_cons, hopsN_cons, ih]; simp [revPart]
 have h2 : ∀ l : List Part, hopsN l.reverse = hopsN l := by
  intro l
  induction l with
  | nil => rfl
  | cons x l ih =>
   rw [List.reverse_cons, hopsN_cons, ← ih]
   simp [hopsN, Part.size]; omega
 unfold revParts
 rw [h2, h]
theorem elemPart : Nonempty (Elem Tryz.prog 24 47 4 48) := Elem.mk' Tryz.underlying24 Tryz.infoPart rfl (by decide)
theorem part_one (x : Part) (o : Option Addr) (n c : Nat) : ∀ u ∈ Part.c x (.slice o n c), u.oneCell' = true := by
 intro u hu
 simp only [Part.c, List.mem_cons, List.not_mem_nil, or_false] at hu
 rcases hu with rfl | rfl | rfl | rfl <;> rfl
set_option maxRecDepth 100000 in
set_option maxHeartbeats 4000000 in
theorem i_ReversePath (x : Pth) (v : Value) (w : World) (r : RdS Part.rep w v x.parts) (hl : x.size ≤ 1048576) :
  Calls Tryz.prog 26 #[.agg #[v]] w fun e w' => ∃ u, e = .returned (.agg #[u]) ∧ Part.own.own (rng w.heap.size w'.heap.size) w' u (revPath x).parts ∧ Ext w w' := by
 obtain ⟨ps⟩ := x
 unfold Pth.size at hl
 dsimp only at r hl ⊢
 obtain ⟨o, cap, rfl, hsm⟩ := r.shape
 obtain ⟨E⟩ := elemPart
 have hx0 := ext2 w (.cells #[.slice o ps.length cap] 26) (.cells #[.slice none 0 0] 26)
 have hB := al3 w (.cells #[.slice o ps.length cap] 26) (.cells #[.slice none 0 0] 26) (.cells #[.slice none 0 0] 26)
 have HB := Lib.hid hB; clear hB
 have HB2 := Lib.hid (al2 w (.cells #[.slice o ps.length cap] 26) (.cells #[.slice none 0 0] 26))
 go_enter Tryz.func26, Tryz.ntmps26
 go_wp2
 go_loopg [4] ps.length (fun gk i wr => i = .int .i64 ((gk : Int) - 1) ∧ gk ≤ ps.length ∧ (∃ ok ck, Hid (wr.heap[w.heap.size + 1 + 1]? = some (.cells #[.slice ok (ps.length - gk) ck] 26)) ∧ Part.own.own (rng (w.heap.size + 1 + 1 + 1) wr.heap.size) wr (.slice ok (ps.length - gk) ck) (revParts (ps.drop gk))) ∧ w.heap.size + 1 + 1 + 1 ≤ wr.heap.size ∧ Ext ((w.alloc (.cells #[.slice o ps.length cap] 26)).alloc (.cells #[.slice none 0 0] 26)) wr)
 case atStart =>
  refine ⟨rfl, Nat.le_refl _, ⟨none, 0, ?_, ?_⟩, by simp, (Ext.refl _).alloc _⟩
  ·
   rw [Nat.sub_self]; exact Lib.hid HB.out.2.2
  ·
   rw [Nat.sub_self, List.drop_length]; exact Part.own.mono (Part.own.nil _) (fun b hb => hb.elim)
 case round =>
  obtain ⟨rfl, hk, ⟨ok, ck, HBk, hown⟩, hsw, hx⟩ := hrel
  have hcb := blk1 (hx.block HB2.out.1)
  have hc3 := blk1 HBk.out
  cases gk with
  | zero =>
   have hcr := blk1 (hx.block HB2.out.2)
   have g0 := fr_of (hx.block HB2.out.2) 0
   go_wp2
   refine bodyPost_ret (v := .agg #[.slice ok (ps.length - 0) ck]) (by simp [results, Tryz.results26, go_sem, hcr]) rfl ⟨_, rfl, ?_, ?_⟩
   ·
    refine Part.own.mono (Own.kept Part.own hown (⟨rfl, rfl, rfl, by simp [World.setCell], fun q hq hn => Below.heap_setCell _ _ _ _ hn⟩ : Chg (fun q => q = w.heap.size + 1) wr (wr.setCell ⟨w.heap.size + 1, 0, none⟩ (.slice ok (ps.length - 0) ck))) (fun q hq e => by have := hq.1; omega)) (fun q hq => ⟨by have := hq.1; omega, by simpa using hq.2⟩)
   ·
    exact (hx0.trans hx).setCell (by simp) _
  | succ j =>
   have hj : j < ps.length := by omega
   obtain ⟨b, off, oh, ch, rfl, hc, hr⟩ := Part.at r j hj
   have hcx := Part.at_ext (hx0.trans hx) hc
   have hrj := hr.ext (hx0.trans hx)
   clear hc
   have e1 : (((j + 1 : Nat) : Int) - 1) = (j : Int) := by omega
   rw [e1]
   clear e1
   have hle := hopsN_le hj
   have hln : (revParts (ps.drop (j + 1))).length + 1 ≤ 1048576 := by rw [revParts_len]; simp; omega
   have HE := Lib.hid (revParts_drop hj)
   generalize revParts (ps.drop (j + 1)) = out at *
   have hj0 : (0 : Int) ≤ (j : Int) := Int.natCast_nonneg _
   have hj1 : (j : Int) < (ps.length : Int) := by omega
   go_wp2_with fail
   refine planStep (.blk [0, 1, 2, 3, 4, 5, 6] (.one 7 (.one 8 (.one 9 (.blk [10] (.one 11 .done)))))) [9, 11] (by kernel_rfl) (by kernel_rfl) ?_
   refine blkStep (fun K HK => ?_)
   simp only [PK]
   go_wp2_with fail
   refine HK.out _ _ ?_
   clear HK K
   refine oneStep (fun K HK => ?_)
   simp only [PK]
   go_wp2_with fail
   refine (i_ReversePart ps[j] _ _ (hrj.ext (Ext.refl _).drew) (by unfold Part.size; omega)).mono ?_
   rintro e w1 ⟨u, rfl, ou, h1⟩
   obtain ⟨oo, co, rfl, _⟩ := (OwnF.rd (hf := Hop.flen) ou).shape
   go_wp2_with fail
   refine HK.out _ _ (h1) ?_
   clear HK K
   refine oneStep (fun K HK => ?_)
   simp only [PK]
   go_wp2_with fail
   refine HK.out _ _ ((Ext.refl _).alloc _) ?_
   clear HK K
   refine badStep (by kernel_rfl) (fun K HK => ?_)
   simp only [PK]
   refine appN (lo := w.heap.size + 1 + 1 + 1) (c := Part.c) (hc := Part.clen) (sub := (·.hops)) (I := Own.flat Hop.f 5 Hop.flen 44) E rfl _ _ rfl (revPart ps[j]) (.slice oo (revPart ps[j]).hops.length co) (rng wr.heap.size w1.heap.size) (part_one _ _ _ _) rfl hown ((((Ext.refl wr).drew.trans h1).alloc _)) (Own.ext (O := Own.flat Hop.f 5 Hop.flen 44) (Own.ofF (hf := Hop.flen) ou) ((Ext.refl _).alloc _)) (fun q hq => ⟨hq.1, Nat.lt_of_lt_of_le hq.2 ((Ext.refl _).alloc _).size⟩) (by simpa using hsw) rfl (by exact blk_list (Part.c (revPart ps[j]) (.slice oo (revPart ps[j]).hops.length co)) (blk_new w1 _)) (by omega) (by unfold maxLen; omega) ?_
   intro v' w' ho' hg' hvlo
   have hx' := (hx.drew.trans h1 |>.alloc _).grown hg' (fun q hq => Nat.le_trans (by simp) (hvlo q hq))
   have hb3' := (hg'.block (w.heap.size + 1 + 1) (blk_lt (Ext.block ((((Ext.refl wr).drew.trans h1).alloc _)) HBk.out)) (fun e => by have := hvlo _ e.symm; omega)).trans (Ext.block ((((Ext.refl wr).drew.trans h1).alloc _)) HBk.out)
   rw [HE.out] at ho'
   obtain ⟨on, cn, hve, _⟩ := (Part.ord ho').shape
   rw [revParts_len, show (ps.drop j).length = ps.length - j from by simp] at hve
   subst hve
   have c3' := blk1 hb3'
   have f3' := fr_of hb3' 0
   have hb4 := blk_set hb3' 0 (.slice on (ps.length - j) cn)
   simp only [List.setIfInBounds_toArray, List.set_cons_zero] at hb4
   have HB4 := Lib.hid hb4; clear hb4 hb3'
   have hx4 := hx'.setCell (p := ⟨w.heap.size + 1 + 1, 0, none⟩) (by simp) (.slice on (ps.length - j) cn)
   have HO4 := Lib.hid (Own.kept Part.own ho' (⟨rfl, rfl, rfl, by simp [World.setCell], fun q hq hn => Below.heap_setCell _ _ _ _ hn⟩ : Chg (fun q => q = w.heap.size + 1 + 1) w' (w'.setCell ⟨w.heap.size + 1 + 1, 0, none⟩ (.slice on (ps.length - j) cn))) (fun q hq e => by have := hq.1; omega))
   have hsw' : w.heap.size + 1 + 1 + 1 ≤ w'.heap.size := Nat.le_trans hsw (Nat.le_trans ((((Ext.refl wr).drew.trans h1).alloc _)).size hg'.size)
   clear hg' ho' hvlo
   go_wp2_with fail
   refine HK.out _ _ ?_
   clear HK K
   refine blkStep (fun K HK => ?_)
   simp only [PK]
   go_wp2_with fail
   refine HK.out _ _ ?_
   clear HK K
   refine badStep (by kernel_rfl) (fun K HK => ?_)
   simp only [PK]
   go_wp2_with fail
   refine HK.out _ _ ?_
   clear HK K
   refine doneStep (by kernel_rfl) ?_
   go_wp2_with fail
   go_roundg j
   case measure => omega
   case rel => exact ⟨rfl, by omega, ⟨on, cn, HB4, by simpa using HO4.out⟩, by simpa using hsw', hx4⟩
set_option maxRecDepth 100000 in
set_option maxHeartbeats 4000000 in
theorem s_ReversePath (x : Pth) (v : Value) (w : World) (r : RdS Part.rep w v x.parts) (hl : x.size ≤ 1048576) :
  Calls Tryz.prog 39 #[.agg #[v]] w fun e w' => ∃ u, e = .returned (.agg #[u]) ∧ Part.own.own (rng w.heap.size w'.heap.size) w' u (revPath x).parts ∧ Ext w w' := by
 obtain ⟨ps⟩ := x
 unfold Pth.size at hl
 dsimp only at r hl ⊢
 obtain ⟨o, cap, rfl, hsm⟩ := r.shape
 obtain ⟨E⟩ := elemPart
 have hx0 := ext2 w (.cells #[.slice o ps.length cap] 26) (.cells #[.slice none 0 0] 26)
 have hB := al3 w (.cells #[.slice o ps.length cap] 26) (.cells #[.slice none 0 0] 26) (.cells #[.slice none 0 0] 26)
 have HB := Lib.hid hB; clear hB
 have HB2 := Lib.hid (al2 w (.cells #[.slice o ps.length cap] 26) (.cells #[.slice none 0 0] 26))
 go_enter Tryz.func39, Tryz.ntmps39
 go_wp2
 go_loopg [4] ps.length (fun gk i wr => i = .int .i64 ((gk : Int) - 1) ∧ gk ≤ ps.length ∧ (∃ ok ck, Hid (wr.heap[w.heap.size + 1 + 1]? = some (.cells #[.slice ok (ps.length - gk) ck] 26)) ∧ Part.own.own (rng (w.heap.size + 1 + 1 + 1) wr.heap.size) wr (.slice ok (ps.length - gk) ck) (revParts (ps.drop gk))) ∧ w.heap.size + 1 + 1 + 1 ≤ wr.heap.size ∧ Ext ((w.alloc (.cells #[.slice o ps.length cap] 26)).alloc (.cells #[.slice none 0 0] 26)) wr)
 case atStart =>
  refine ⟨rfl, Nat.le_refl _, ⟨none, 0, ?_, ?_⟩, by simp, (Ext.refl _).alloc _⟩
  ·
   rw [Nat.sub_self]; exact Lib.hid HB.out.2.2
  ·
   rw [Nat.sub_self, List.drop_length]; exact Part.own.mono (Part.own.nil _) (fun b hb => hb.elim)
 case round =>
  obtain ⟨rfl, hk, ⟨ok, ck, HBk, hown⟩, hsw, hx⟩ := hrel
  have hcb := blk1 (hx.block HB2.out.1)
  have hc3 := blk1 HBk.out
  cases gk with
  | zero =>
   have hcr := blk1 (hx.block HB2.out.2)
   have g0 := fr_of (hx.block HB2.out.2) 0
   go_wp2
   refine bodyPost_ret (v := .agg #[.slice ok (ps.length - 0) ck]) (by simp [results, Tryz.results39, go_sem, hcr]) rfl ⟨_, rfl, ?_, ?_⟩
   ·
    refine Part.own.mono (Own.kept Part.own hown (⟨rfl, rfl, rfl, by simp [World.setCell], fun q hq hn => Below.heap_setCell _ _ _ _ hn⟩ : Chg (fun q => q = w.heap.size + 1) wr (wr.setCell ⟨w.heap.size + 1, 0, none⟩ (.slice ok (ps.length - 0) ck))) (fun q hq e => by have := hq.1; omega)) (fun q hq => ⟨by have := hq.1; omega, by simpa using hq.2⟩)
   ·
    exact (hx0.trans hx).setCell (by simp) _
  | succ j =>
   have hj : j < ps.length := by omega
   obtain ⟨b, off, oh, ch, rfl, hc, hr⟩ := Part.at r j hj
   have hcx := Part.at_ext (hx0.trans hx) hc
   have hrj := hr.ext (hx0.trans hx)
   clear hc
   have e1 : (((j + 1 : Nat) : Int) - 1) = (j : Int) := by omega
   rw [e1]
   clear e1
   have hle := hopsN_le hj
   have hln : (revParts (ps.drop (j + 1))).length + 1 ≤ 1048576 := by rw [revParts_len]; simp; omega
   have HE := Lib.hid (revParts_drop hj)
   generalize revParts (ps.drop (j + 1)) = out at *
   have hj0 : (0 : Int) ≤ (j : Int) := Int.natCast_nonneg _
   have hj1 : (j : Int) < (ps.length : Int) := by omega
   go_wp2_with fail
   refine (s_ReversePart ps[j] _ _ (hrj.ext (Ext.refl _)) (by unfold Part.size; omega)).mono ?_
   rintro e w1 ⟨u, rfl, ou, h1⟩
   obtain ⟨oo, co, rfl, _⟩ := (OwnF.rd (hf := Hop.flen) ou).shape
   have hb3a := blk1 (Ext.block (h1.trans ((Ext.refl _).alloc (.cells #[.int .i64 (revPart ps[j]).kind, .int .i64 (revPart ps[j]).ts, .int .i64 (revPart ps[j]).beta, .slice oo (revPart ps[j]).hops.length co] 47))) HBk.out)
   have hsz1 : w.heap.size + 1 + 1 + 1 ≤ w1.heap.size := Nat.le_trans hsw h1.size
   have hb3b := blk1 (h1.block HBk.out)
   go_wp2_with (at_builtin; refine appN (lo := w.heap.size + 1 + 1 + 1) (c := Part.c) (hc := Part.clen) (sub := (·.hops)) (I := Own.flat Hop.f 5 Hop.flen 44) E rfl _ _ rfl (revPart ps[j]) (.slice oo (revPart ps[j]).hops.length co) (rng wr.heap.size w1.heap.size) (part_one _ _ _ _) rfl hown ((((Ext.refl wr).trans h1).alloc _).alloc _) (Own.ext (O := Own.flat Hop.f 5 Hop.flen 44) (Own.ofF (hf := Hop.flen) ou) (((Ext.refl _).alloc _).alloc _)) (fun q hq => ⟨hq.1, Nat.lt_of_lt_of_le hq.2 (((Ext.refl _).alloc _).alloc _).size⟩) (by simpa using hsw) rfl (by exact blk_list (Part.c (revPart ps[j]) (.slice oo (revPart ps[j]).hops.length co)) (blk_new2 w1 _ _)) (by omega) (by unfold maxLen; omega) ?_)
   intro v' w' ho' hg' hvlo
   have hx' := (hx.trans h1 |>.alloc _ |>.alloc _).grown hg' (fun q hq => Nat.le_trans (by simp) (hvlo q hq))
   have hb3' := (hg'.block (w.heap.size + 1 + 1) (blk_lt (Ext.block ((((Ext.refl wr).trans h1).alloc _).alloc _) HBk.out)) (fun e => by have := hvlo _ e.symm; omega)).trans (Ext.block ((((Ext.refl wr).trans h1).alloc _).alloc _) HBk.out)
   rw [HE.out] at ho'
   obtain ⟨on, cn, hve, _⟩ := (Part.ord ho').shape
   rw [revParts_len, show (ps.drop j).length = ps.length - j from by simp] at hve
   subst hve
   have c3' := blk1 hb3'
   have f3' := fr_of hb3' 0
   have hb4 := blk_set hb3' 0 (.slice on (ps.length - j) cn)
   simp only [List.setIfInBounds_toArray, List.set_cons_zero] at hb4
   have HB4 := Lib.hid hb4; clear hb4 hb3'
   have hx4 := hx'.setCell (p := ⟨w.heap.size + 1 + 1, 0, none⟩) (by simp) (.slice on (ps.length - j) cn)
   have HO4 := Lib.hid (Own.kept Part.own ho' (⟨rfl, rfl, rfl, by simp [World.setCell], fun q hq hn => Below.heap_setCell _ _ _ _ hn⟩ : Chg (fun q => q = w.heap.size + 1 + 1) w' (w'.setCell ⟨w.heap.size + 1 + 1, 0, none⟩ (.slice on (ps.length - j) cn))) (fun q hq e => by have := hq.1; omega))
   have hsw' : w.heap.size + 1 + 1 + 1 ≤ w'.heap.size := Nat.le_trans hsw (Nat.le_trans ((((Ext.refl wr).trans h1).alloc _).alloc _).size hg'.size)
   clear hg' ho' hvlo
   go_wp2_with fail
   go_roundg j
   case measure => omega
   case rel => exact ⟨rfl, by omega, ⟨on, cn, HB4, by simpa using HO4.out⟩, by simpa using hsw', hx4⟩
end
end Go.Proofs.YtikbeiafobnblaaGreat
