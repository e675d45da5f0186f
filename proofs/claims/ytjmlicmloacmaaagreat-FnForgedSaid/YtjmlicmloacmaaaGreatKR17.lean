/- What these laws need: FnFlips, FnForged, FnReplies: Contracts of the functions on parts and paths, program and reference. Contracts of the functions on steps and on kinds of parts, program and reference, and of the laws over them. Contracts of turning parts around, program and reference. -/
import Derived.Deep.DeepCutAuto
import Derived.Deep.LoopGhost
import Derived.IntWalk
import Derived.Test.YtjmlicmloacmaaaGreatKR3
namespace Go.Proofs.YtjmlicmloacmaaaGreat
section
open Go.ChangeShapes Go.WideShapes Go.ChangeAt Go.RowKit Go.Deep
set_option maxHeartbeats 1000000 in
theorem i_PartIngress (x : Part) (v : Value) (i : Int) (w : World) (r : RdS Hop.rep w v x.hops) :
  Calls Tryz.prog 174 #[.agg #[.int .i64 x.kind, .int .i64 x.ts, .int .i64 x.beta, v], .int .i64 i] w fun e w' => e = .returned (.int .i64 (partIn x i)) ∧ Ext w w' := by
 obtain ⟨o, cap, rfl, hsm⟩ := r.shape
 have hx0 : Ext w (w.alloc (.cells #[.int .i64 x.kind, .int .i64 x.ts, .int .i64 x.beta, .slice o x.hops.length cap] 47)) := (Ext.refl _).alloc _
 go_enter Tryz.func174, Tryz.ntmps174
 go_wp2_with fail
 refine (i_InRange _ _ _ _).mono ?_
 rintro e w1 ⟨rfl, rfl⟩
 cases hin : inR i 0 (x.hops.length - 1)
 ·
  have he : partIn x i = 0 := by unfold partIn; rw [if_neg (inR_false.1 hin)]
  have HE := Lib.hid he; clear he
  go_wp2_with fail
  go_ret
  exact ⟨ret_int HE.out.symm, hx0⟩
 ·
  obtain ⟨h1, h2⟩ := inR_true.1 hin
  obtain ⟨k, rfl⟩ := Int.eq_ofNat_of_zero_le h1
  have hk : k < x.hops.length := by omega
  have he := partIn_at hk
  have HE := Lib.hid he; clear he
  obtain ⟨b, off, rfl, hc⟩ := Hop.at (r.ext hx0) k hk
  go_wp2_with fail
  refine (i_IsReversed _ _).mono ?_
  rintro e w1 ⟨rfl, rfl⟩
  cases hrv : isRev x.kind
  ·
   have hh : hopIn x.kind x.hops[k] = x.hops[k].ing := by simp [hopIn, hrv]
   have HH := Lib.hid (HE.out.trans hh); clear hh
   go_wp2_with fail
   go_ret
   exact ⟨ret_int HH.out.symm, hx0⟩
  ·
   have hh : hopIn x.kind x.hops[k] = x.hops[k].eg := by simp [hopIn, hrv]
   have HH := Lib.hid (HE.out.trans hh); clear hh
   go_wp2_with fail
   go_ret
   exact ⟨ret_int HH.out.symm, hx0⟩
set_option maxHeartbeats 1000000 in
theorem i_PartEgress (x : Part) (v : Value) (i : Int) (w : World) (r : RdS Hop.rep w v x.hops) :
  Calls Tryz.prog 173 #[.agg #[.int .i64 x.kind, .int .i64 x.ts, .int .i64 x.beta, v], .int .i64 i] w fun e w' => e = .returned (.int .i64 (partEg x i)) ∧ Ext w w' := by
 obtain ⟨o, cap, rfl, hsm⟩ := r.shape
 have hx0 : Ext w (w.alloc (.cells #[.int .i64 x.kind, .int .i64 x.ts, .int .i64 x.beta, .slice o x.hops.length cap] 47)) := (Ext.refl _).alloc _
 go_enter Tryz.func173, Tryz.ntmps173
 go_wp2_with fail
 refine (i_InRange _ _ _ _).mono ?_
 rintro e w1 ⟨rfl, rfl⟩
 cases hin : inR i 0 (x.hops.length - 1)
 ·
  have he : partEg x i = 0 := by unfold partEg; rw [if_neg (inR_false.1 hin)]
  have HE := Lib.hid he; clear he
  go_wp2_with fail
  go_ret
  exact ⟨ret_int HE.out.symm, hx0⟩
 ·
  obtain ⟨h1, h2⟩ := inR_true.1 hin
  obtain ⟨k, rfl⟩ := Int.eq_ofNat_of_zero_le h1
  have hk : k < x.hops.length := by omega
  have he := partEg_at hk
  have HE := Lib.hid he; clear he
  obtain ⟨b, off, rfl, hc⟩ := Hop.at (r.ext hx0) k hk
  go_wp2_with fail
  refine (i_IsReversed _ _).mono ?_
  rintro e w1 ⟨rfl, rfl⟩
  cases hrv : isRev x.kind
  ·
   have hh : hopEg x.kind x.hops[k] = x.hops[k].eg := by simp [hopEg, hrv]
   have HH := Lib.hid (HE.out.trans hh); clear hh
   go_wp2_with fail
   go_ret
   exact ⟨ret_int HH.out.symm, hx0⟩
  ·
   have hh : hopEg x.kind x.hops[k] = x.hops[k].ing := by simp [hopEg, hrv]
   have HH := Lib.hid (HE.out.trans hh); clear hh
   go_wp2_with fail
   go_ret
   exact ⟨ret_int HH.out.symm, hx0⟩
end
section
open Go.ChangeShapes Go.WideShapes Go.ChangeAt Go.RowKit Go.Deep
theorem elemStep : Nonempty (Elem Tryz.prog 54 59 3 24) := Elem.mk' Tryz.underlying54 Tryz.infoStep rfl (by decide)
end
section
open Go.ChangeShapes Go.WideShapes Go.ChangeAt Go.RowKit Go.Deep
set_option maxHeartbeats 2000000 in
theorem i_BetaAfter (x : Part) (v : Value) (i : Int) (w : World) (r : RdS Hop.rep w v x.hops) :
  Calls Tryz.prog 166 #[.agg #[.int .i64 x.kind, .int .i64 x.ts, .int .i64 x.beta, v], .int .i64 i] w fun e w' => e = .returned (.int .i64 (betaAfter x i)) ∧ Ext w w' := by
 obtain ⟨o, cap, rfl, hsm⟩ := r.shape
 have hcap := r.capLe
 have hx0 : Ext w (w.alloc (.cells #[.int .i64 x.kind, .int .i64 x.ts, .int .i64 x.beta, .slice o x.hops.length cap] 47)) := (Ext.refl _).alloc _
 have hB := blk_new w (.cells #[.int .i64 x.kind, .int .i64 x.ts, .int .i64 x.beta, .slice o x.hops.length cap] 47)
 have HB := Lib.hid hB; clear hB
 go_enter Tryz.func166, Tryz.ntmps166
 go_wp2_with fail
 refine (i_InRange _ _ _ _).mono ?_
 rintro e w1 ⟨rfl, rfl⟩
 cases hin : inR i 0 x.hops.length
 ·
  have he : betaAfter x i = 0 := by unfold betaAfter; rw [if_neg (inR_false.1 hin)]
  have HE := Lib.hid he; clear he
  go_wp2_with fail
  go_ret
  exact ⟨ret_int HE.out.symm, hx0⟩
 ·
  obtain ⟨h1, h2⟩ := inR_true.1 hin
  obtain ⟨k, rfl⟩ := Int.eq_ofNat_of_zero_le h1
  have he : betaAfter x k = betaTo x k := by unfold betaAfter; rw [if_pos ⟨h1, h2⟩, Int.toNat_natCast]
  have HE := Lib.hid he; clear he
  have hkl : k ≤ x.hops.length := by omega
  have HIN := Lib.hid hin; clear hin
  have q1 : (k : Int) ≤ cap := by omega
  go_wp2
  go_loopg [5, 21] k (fun gk t i wr => ∃ j : Nat, gk + j = k ∧ i = .int .i64 j ∧ t = .int .i64 (betaTo x j) ∧ Hid (wr.heap[w.heap.size]? = some (.cells #[.int .i64 x.kind, .int .i64 x.ts, .int .i64 x.beta, .slice o x.hops.length cap] 47)) ∧ Ext w wr)
  case atStart => exact ⟨0, rfl, rfl, rfl, HB, hx0⟩
  case round =>
   obtain ⟨j, hgk, rfl, rfl, HBj, hx⟩ := hrel
   have hcb := blk4 HBj.out
   by_cases hjk : j < k
   ·
    have hj : j < x.hops.length := by omega
    have HBj2 := Lib.hid (Ext.block ((Ext.refl wr).alloc (.cells #[.int .i64 x.hops[j].asn, .int .i64 x.hops[j].ing, .int .i64 x.hops[j].eg, .int .i64 x.hops[j].exp, .int .i64 x.hops[j].mac] 44)) HBj.out)
    have hcb2 := blk4 HBj2.out
    obtain ⟨b, off, rfl, hc⟩ := Hop.at (r.ext hx) j hj
    have hst := betaTo_succ hj
    have HST := Lib.hid hst; clear hst
    have hg' : gk - 1 + (j + 1) = k ∧ gk - 1 < gk := by omega
    have HG := Lib.hid hg'; clear hg' hgk
    generalize betaTo x j = t0 at *
    go_wp2_with fail
    refine (i_IsReversed _ _).mono ?_
    rintro e w1 ⟨rfl, rfl⟩
    cases hrv : isRev x.kind
    ·
     rw [hrv] at HST
     have HS2 := Lib.hid (HST.out.trans rfl : _ = addMod t0 x.hops[j].mac)
     go_wp2_with fail
     refine (i_AddMod _ _ _).mono ?_
     rintro e w1 ⟨rfl, rfl⟩
     go_wp2_with fail
     go_roundg (gk - 1)
     case measure => exact HG.out.2
     case rel => exact ⟨j + 1, HG.out.1, by go_num, by rw [HS2.out], HBj2, hx.alloc _⟩
    ·
     rw [hrv] at HST
     have HS2 := Lib.hid (HST.out.trans rfl : _ = subMod t0 x.hops[j].mac)
     go_wp2_with fail
     refine (i_SubMod _ _ _).mono ?_
     rintro e w1 ⟨rfl, rfl⟩
     go_wp2_with fail
     go_roundg (gk - 1)
     case measure => exact HG.out.2
     case rel => exact ⟨j + 1, HG.out.1, by go_num, by rw [HS2.out], HBj2, hx.alloc _⟩
   ·
    obtain rfl : j = k := by omega
    go_wp2
    go_ret
    exact ⟨ret_int HE.out.symm, hx⟩
set_option maxHeartbeats 2000000 in
theorem s_BetaAfter (x : Part) (v : Value) (i : Int) (w : World) (r : RdS Hop.rep w v x.hops) :
  Calls Tryz.prog 168 #[.agg #[.int .i64 x.kind, .int .i64 x.ts, .int .i64 x.beta, v], .int .i64 i] w fun e w' => e = .returned (.int .i64 (betaAfter x i)) ∧ Ext w w' := by
 obtain ⟨o, cap, rfl, hsm⟩ := r.shape
 have hcap := r.capLe
 have hx0 : Ext w (w.alloc (.cells #[.int .i64 x.kind, .int .i64 x.ts, .int .i64 x.beta, .slice o x.hops.length cap] 47)) := (Ext.refl _).alloc _
 have hB := blk_new w (.cells #[.int .i64 x.kind, .int .i64 x.ts, .int .i64 x.beta, .slice o x.hops.length cap] 47)
 have HB := Lib.hid hB; clear hB
 go_enter Tryz.func168, Tryz.ntmps168
 go_wp2_with fail
 refine (s_l1In _ _ _ _).mono ?_
 rintro e w1 ⟨rfl, rfl⟩
 cases hin : inR i 0 x.hops.length
 ·
  have he : betaAfter x i = 0 := by unfold betaAfter; rw [if_neg (inR_false.1 hin)]
  have HE := Lib.hid he; clear he
  go_wp2_with fail
  go_ret
  exact ⟨ret_int HE.out.symm, hx0⟩
 ·
  obtain ⟨h1, h2⟩ := inR_true.1 hin
  obtain ⟨k, rfl⟩ := Int.eq_ofNat_of_zero_le h1
  have he : betaAfter x k = betaTo x k := by unfold betaAfter; rw [if_pos ⟨h1, h2⟩, Int.toNat_natCast]
  have HE := Lib.hid he; clear he
  have hkl : k ≤ x.hops.length := by omega
  have HIN := Lib.hid hin; clear hin
  have q1 : (k : Int) ≤ cap := by omega
  go_wp2
  go_loopg [5, 6] k (fun gk t i wr => ∃ j : Nat, gk + j = k ∧ i = .int .i64 j ∧ t = .int .i64 (betaTo x j) ∧ Hid (wr.heap[w.heap.size]? = some (.cells #[.int .i64 x.kind, .int .i64 x.ts, .int .i64 x.beta, .slice o x.hops.length cap] 47)) ∧ Ext w wr)
  case atStart => exact ⟨0, rfl, rfl, rfl, HB, hx0⟩
  case round =>
   obtain ⟨j, hgk, rfl, rfl, HBj, hx⟩ := hrel
   have hcb := blk4 HBj.out
   by_cases hjk : j < k
   ·
    have hj : j < x.hops.length := by omega
    obtain ⟨b, off, rfl, hc⟩ := Hop.at (r.ext hx) j hj
    have hst := betaTo_succ hj
    have HST := Lib.hid hst; clear hst
    have hg' : gk - 1 + (j + 1) = k ∧ gk - 1 < gk := by omega
    have HG := Lib.hid hg'; clear hg' hgk
    generalize betaTo x j = t0 at *
    go_wp2_with fail
    refine (s_IsReversed _ _).mono ?_
    rintro e w1 ⟨rfl, rfl⟩
    cases hrv : isRev x.kind
    ·
     rw [hrv] at HST
     have HS2 := Lib.hid (HST.out.trans rfl : _ = addMod t0 x.hops[j].mac)
     go_wp2_with fail
     refine (s_AddMod _ _ _).mono ?_
     rintro e w1 ⟨rfl, rfl⟩
     go_wp2_with fail
     go_roundg (gk - 1)
     case measure => exact HG.out.2
     case rel => exact ⟨j + 1, HG.out.1, by go_num, by rw [HS2.out], HBj, hx⟩
    ·
     rw [hrv] at HST
     have HS2 := Lib.hid (HST.out.trans rfl : _ = subMod t0 x.hops[j].mac)
     go_wp2_with fail
     refine (s_SubMod _ _ _).mono ?_
     rintro e w1 ⟨rfl, rfl⟩
     go_wp2_with fail
     go_roundg (gk - 1)
     case measure => exact HG.out.2
     case rel => exact ⟨j + 1, HG.out.1, by go_num, by rw [HS2.out], HBj, hx⟩
   ·
    obtain rfl : j = k := by omega
    go_wp2
    go_ret
    exact ⟨ret_int HE.out.symm, hx⟩
end
end Go.Proofs.YtjmlicmloacmaaaGreat
