/- What these laws need: FnParts: Contracts of the arithmetic modulo the prime, program and reference. Contracts of turning parts around, program and reference. Contracts of copying hops, parts and paths, program and reference. Contracts of turning paths around, program and reference. -/
import Derived.Test.YtikbeiafobnblaaKQ17
import Derived.Test.YtikbeiafobnblaaKQ21
namespace Go.Proofs.Ytikbeiafobnblaa
section
open Go.ChangeShapes Go.WideShapes Go.ChangeAt Go.RowKit Go.Deep
theorem subMod_no1 {b s : Int} (h : isRes b = false) : subMod b s = 0 := by simp [subMod, h]
theorem subMod_no2 {b s : Int} (h : isRes s = false) : subMod b s = 0 := by simp [subMod, h]
set_option maxHeartbeats 400000 in
theorem i_SubMod (b s : Int) (w : World) : Calls Try.prog 125 #[.int .i64 b, .int .i64 s] w fun e w' => e = .returned (.int .i64 (subMod b s)) ∧ w = w' := by
 go_enter Try.func125, Try.ntmps125
 go_wp2_with fail
 refine (i_isResidue _ _).mono ?_
 rintro e w1 ⟨rfl, rfl⟩
 cases h1 : isRes b
 ·
  have HE := Lib.hid (subMod_no1 (s := s) h1)
  go_wp2_with fail
  go_ret
  exact ⟨ret_int HE.out.symm, rfl⟩
 ·
  go_wp2_with fail
  refine (i_isResidue _ _).mono ?_
  rintro e w1 ⟨rfl, rfl⟩
  cases h2 : isRes s
  ·
   have HE := Lib.hid (subMod_no2 (b := b) h2)
   go_wp2_with fail
   go_ret
   exact ⟨ret_int HE.out.symm, rfl⟩
  ·
   have HE := Lib.hid (subMod_yes h1 h2)
   obtain ⟨a1, a2⟩ := isRes_true.1 h1
   obtain ⟨a3, a4⟩ := isRes_true.1 h2
   go_wp2_with fail
   go_ret
   exact ⟨ret_int HE.out.symm, rfl⟩
set_option maxHeartbeats 400000 in
theorem s_SubMod (b s : Int) (w : World) : Calls Try.prog 127 #[.int .i64 b, .int .i64 s] w fun e w' => e = .returned (.int .i64 (subMod b s)) ∧ w = w' := by
 go_enter Try.func127, Try.ntmps127
 go_wp2_with fail
 refine (s_l3Ok _ _).mono ?_
 rintro e w1 ⟨rfl, rfl⟩
 cases h1 : isRes b
 ·
  have HE := Lib.hid (subMod_no1 (s := s) h1)
  go_wp2_with fail
  go_ret
  exact ⟨ret_int HE.out.symm, rfl⟩
 ·
  go_wp2_with fail
  refine (s_l3Ok _ _).mono ?_
  rintro e w1 ⟨rfl, rfl⟩
  cases h2 : isRes s
  ·
   have HE := Lib.hid (subMod_no2 (b := b) h2)
   go_wp2_with fail
   go_ret
   exact ⟨ret_int HE.out.symm, rfl⟩
  ·
   have HE := Lib.hid (subMod_yes h1 h2)
   obtain ⟨a1, a2⟩ := isRes_true.1 h1
   obtain ⟨a3, a4⟩ := isRes_true.1 h2
   go_wp2_with fail
   go_ret
   exact ⟨ret_int HE.out.symm, rfl⟩
end
section
open Go.ChangeShapes Go.WideShapes Go.ChangeAt Go.RowKit Go.Deep
theorem RdS.upto {α : Type} {r : Rep α} {w : World} {o : Option Addr} {m cap : Nat} {l : List α} (h : RdS r w (.slice o m cap) l) (k : Nat) (hk : k ≤ l.length) : RdS r w (.slice o k cap) (l.take k) := by
 obtain ⟨o', cap', hv, h1, h2, hn, h3⟩ := h
 cases hv
 have hl : (l.take k).length = k := by simp; omega
 refine ⟨o, cap, by rw [hl], by omega, h2, hn, fun i hi => ?_⟩
 obtain ⟨b, off, cs, a1, a2, a3⟩ := h3 i (by omega)
 exact ⟨b, off, cs, a1, a2, by simpa using a3⟩
set_option maxHeartbeats 1000000 in
theorem i_reversedHops (l : List Hop) (v : Value) (w : World) (hv : RdS Hop.rep w v l) (hl : l.length ≤ 1048576) :
  Calls Try.prog 122 #[v] w fun e w' => ∃ v', e = .returned v' ∧ OwnF Hop.f 5 w.heap.size 146 w' v' l.reverse ∧ Ext w w' := by
 obtain ⟨o, cap, rfl, hsm⟩ := hv.shape
 obtain ⟨E⟩ := elemHop
 go_enter Try.func122, Try.ntmps122
 go_wp2
 go_loopg [3, 4] l.length (fun gk out i wr => i = .int .i64 ((gk : Int) - 1) ∧ gk ≤ l.length ∧ OwnF Hop.f 5 w.heap.size 146 wr out (l.drop gk).reverse ∧ Ext w wr)
 case atStart =>
  refine ⟨rfl, Nat.le_refl _, ?_, Ext.refl _⟩
  rw [List.drop_length]; exact OwnF.nil _ _ _ _ _
 case round =>
  obtain ⟨rfl, hk, hown, hx⟩ := hrel
  cases gk with
  | zero =>
   go_wp2
   go_ret
   exact ⟨_, rfl, hown, hx⟩
  | succ j =>
   have hj : j < l.length := by omega
   obtain ⟨b, off, rfl, hc⟩ := Hop.at (hv.ext hx) j hj
   have e1 : (((j + 1 : Nat) : Int) - 1) = (j : Int) := by omega
   rw [e1]
   clear e1
   have hln : (l.drop (j + 1)).reverse.length + 1 ≤ 1048576 := by simp; omega
   have HE := Lib.hid (rev_drop hj)
   generalize (l.drop (j + 1)).reverse = out at *
   have hj0 : (0 : Int) ≤ (j : Int) := Int.natCast_nonneg _
   go_wp2_with (at_builtin; refine app1 E Hop.flen Hop.one rfl _ _ rfl l[j] rfl (OwnF.ext hown ((Ext.refl _).alloc _)) rfl (by exact blk_list l[j].f (blk_new wr _)) (by omega) (by unfold maxLen; omega) (by exact (hx.alloc _).size) ?_)
   intro v' w' ho' hg'
   have hx' : Ext w w' := (hx.alloc _).app hg' hown (Nat.le_refl _)
   rw [HE.out] at ho'
   clear hg'
   go_wp2_with fail
   go_roundg j
   case measure => omega
   case rel => exact ⟨rfl, by omega, ho', hx'⟩
set_option maxHeartbeats 2000000 in
theorem i_BetaAfter (x : Part) (v : Value) (i : Int) (w : World) (r : RdS Hop.rep w v x.hops) :
  Calls Try.prog 40 #[.agg #[.int .i64 x.kind, .int .i64 x.ts, .int .i64 x.beta, v], .int .i64 i] w fun e w' => e = .returned (.int .i64 (betaAfter x i)) ∧ Ext w w' := by
 obtain ⟨o, cap, rfl, hsm⟩ := r.shape
 have hcap := r.capLe
 have hx0 : Ext w (w.alloc (.cells #[.int .i64 x.kind, .int .i64 x.ts, .int .i64 x.beta, .slice o x.hops.length cap] 78)) := (Ext.refl _).alloc _
 have hB := blk_new w (.cells #[.int .i64 x.kind, .int .i64 x.ts, .int .i64 x.beta, .slice o x.hops.length cap] 78)
 have HB := Lib.hid hB; clear hB
 go_enter Try.func40, Try.ntmps40
 go_wp2_with fail
 refine (i_InRange _ _ _ _).mono ?_
 rintro e w1 ⟨rfl, rfl⟩
 cases hin : inR i 0 x.hops.length
 ·
  have he : betaAfter x i = 0 := by unfold betaAfter; rw [if_neg (inR_false.1 hin)]
  have HE := Lib.hid he; clear he
  go_wp2_with fail
  go_ret
  exact ⟨ret_int HE.out.symm, hx0⟩
 ·
  obtain ⟨h1, h2⟩ := inR_true.1 hin
  obtain ⟨k, rfl⟩ := Int.eq_ofNat_of_zero_le h1
  have he : betaAfter x k = betaTo x k := by unfold betaAfter; rw [if_pos ⟨h1, h2⟩, Int.toNat_natCast]
  have HE := Lib.hid he; clear he
  have hkl : k ≤ x.hops.length := by omega
  have HIN := Lib.hid hin; clear hin
  have q1 : (k : Int) ≤ cap := by omega
  go_wp2
  go_loopg [5, 21] k (fun gk t i wr => ∃ j : Nat, gk + j = k ∧ i = .int .i64 j ∧ t = .int .i64 (betaTo x j) ∧ Hid (wr.heap[w.heap.size]? = some (.cells #[.int .i64 x.kind, .int .i64 x.ts, .int .i64 x.beta, .slice o x.hops.length cap] 78)) ∧ Ext w wr)
  case atStart => exact ⟨0, rfl, rfl, rfl, HB, hx0⟩
  case round =>
   obtain ⟨j, hgk, rfl, rfl, HBj, hx⟩ := hrel
   have hcb := blk4 HBj.out
   by_cases hjk : j < k
   ·
    have hj : j < x.hops.length := by omega
    have HBj2 := Lib.hid (Ext.block ((Ext.refl wr).alloc (.cells #[.int .i64 x.hops[j].asn, .int .i64 x.hops[j].ing, .int .i64 x.hops[j].eg, .int .i64 x.hops[j].exp, .int .i64 x.hops[j].mac] 146)) HBj.out)
    have hcb2 := blk4 HBj2.out
    obtain ⟨b, off, rfl, hc⟩ := Hop.at (r.ext hx) j hj
    have hst := betaTo_succ hj
    have HST := Lib.hid hst; clear hst
    have hg' : gk - 1 + (j + 1) = k ∧ gk - 1 < gk := by omega
    have HG := Lib.hid hg'; clear hg' hgk
    generalize betaTo x j = t0 at *
    go_wp2_with fail
    refine (i_IsReversed _ _).mono ?_
    rintro e w1 ⟨rfl, rfl⟩
    cases hrv : isRev x.kind
    ·
     rw [hrv] at HST
     have HS2 := Lib.hid (HST.out.trans rfl : _ = addMod t0 x.hops[j].mac)
     go_wp2_with fail
     refine (i_AddMod _ _ _).mono ?_
     rintro e w1 ⟨rfl, rfl⟩
     go_wp2_with fail
     go_roundg (gk - 1)
     case measure => exact HG.out.2
     case rel => exact ⟨j + 1, HG.out.1, by go_num, by rw [HS2.out], HBj2, hx.alloc _⟩
    ·
     rw [hrv] at HST
     have HS2 := Lib.hid (HST.out.trans rfl : _ = subMod t0 x.hops[j].mac)
     go_wp2_with fail
     refine (i_SubMod _ _ _).mono ?_
     rintro e w1 ⟨rfl, rfl⟩
     go_wp2_with fail
     go_roundg (gk - 1)
     case measure => exact HG.out.2
     case rel => exact ⟨j + 1, HG.out.1, by go_num, by rw [HS2.out], HBj2, hx.alloc _⟩
   ·
    obtain rfl : j = k := by omega
    go_wp2
    go_ret
    exact ⟨ret_int HE.out.symm, hx⟩
set_option maxHeartbeats 2000000 in
theorem s_BetaAfter (x : Part) (v : Value) (i : Int) (w : World) (r : RdS Hop.rep w v x.hops) :
  Calls Try.prog 41 #[.agg #[.int .i64 x.kind, .int .i64 x.ts, .int .i64 x.beta, v], .int .i64 i] w fun e w' => e = .returned (.int .i64 (betaAfter x i)) ∧ Ext w w' := by
 obtain ⟨o, cap, rfl, hsm⟩ := r.shape
 have hcap := r.capLe
 have hx0 : Ext w (w.alloc (.cells #[.int .i64 x.kind, .int .i64 x.ts, .int .i64 x.beta, .slice o x.hops.length cap] 78)) := (Ext.refl _).alloc _
 have hB := blk_new w (.cells #[.int .i64 x.kind, .int .i64 x.ts, .int .i64 x.beta, .slice o x.hops.length cap] 78)
 have HB := Lib.hid hB; clear hB
 go_enter Try.func41, Try.ntmps41
 go_wp2_with fail
 refine (s_l1In _ _ _ _).mono ?_
 rintro e w1 ⟨rfl, rfl⟩
 cases hin : inR i 0 x.hops.length
 ·
  have he : betaAfter x i = 0 := by unfold betaAfter; rw [if_neg (inR_false.1 hin)]
  have HE := Lib.hid he; clear he
  go_wp2_with fail
  go_ret
  exact ⟨ret_int HE.out.symm, hx0⟩
 ·
  obtain ⟨h1, h2⟩ := inR_true.1 hin
  obtain ⟨k, rfl⟩ := Int.eq_ofNat_of_zero_le h1
  have he : betaAfter x k = betaTo x k := by unfold betaAfter; rw [if_pos ⟨h1, h2⟩, Int.toNat_natCast]
  have HE := Lib.hid he; clear he
  have hkl : k ≤ x.hops.length := by omega
  have HIN := Lib.hid hin; clear hin
  have q1 : (k : Int) ≤ cap := by omega
  go_wp2
  go_loopg [5, 6] k (fun gk t i wr => ∃ j : Nat, gk + j = k ∧ i = .int .i64 j ∧ t = .int .i64 (betaTo x j) ∧ Hid (wr.heap[w.heap.size]? = some (.cells #[.int .i64 x.kind, .int .i64 x.ts, .int .i64 x.beta, .slice o x.hops.length cap] 78)) ∧ Ext w wr)
  case atStart => exact ⟨0, rfl, rfl, rfl, HB, hx0⟩
  case round =>
   obtain ⟨j, hgk, rfl, rfl, HBj, hx⟩ := hrel
   have hcb := blk4 HBj.out
   by_cases hjk : j < k
   ·
    have hj : j < x.hops.length := by omega
    obtain ⟨b, off, rfl, hc⟩ := Hop.at (r.ext hx) j hj
    have hst := betaTo_succ hj
    have HST := Lib.hid hst; clear hst
    have hg' : gk - 1 + (j + 1) = k ∧ gk - 1 < gk := by omega
    have HG := Lib.hid hg'; clear hg' hgk
    generalize betaTo x j = t0 at *
    go_wp2_with fail
    refine (s_IsReversed _ _).mono ?_
    rintro e w1 ⟨rfl, rfl⟩
    cases hrv : isRev x.kind
    ·
     rw [hrv] at HST
     have HS2 := Lib.hid (HST.out.trans rfl : _ = addMod t0 x.hops[j].mac)
     go_wp2_with fail
     refine (s_AddMod _ _ _).mono ?_
     rintro e w1 ⟨rfl, rfl⟩
     go_wp2_with fail
     go_roundg (gk - 1)
     case measure => exact HG.out.2
     case rel => exact ⟨j + 1, HG.out.1, by go_num, by rw [HS2.out], HBj, hx⟩
    ·
     rw [hrv] at HST
     have HS2 := Lib.hid (HST.out.trans rfl : _ = subMod t0 x.hops[j].mac)
     go_wp2_with fail
     refine (s_SubMod _ _ _).mono ?_
     rintro e w1 ⟨rfl, rfl⟩
     go_wp2_with fail
     go_roundg (gk - 1)
     case measure => exact HG.out.2
     case rel => exact ⟨j + 1, HG.out.1, by go_num, by rw [HS2.out], HBj, hx⟩
   ·
    obtain rfl : j = k := by omega
    go_wp2
    go_ret
    exact ⟨ret_int HE.out.symm, hx⟩
end
section
open Go.ChangeShapes Go.WideShapes Go.ChangeAt Go.RowKit Go.Deep
theorem elemPartC : Nonempty (Elem Try.prog 44 78 4 48) := Elem.mk' Try.underlying44 Try.infoPart rfl (by decide)
theorem take_snocE {α : Type} {l : List α} {k : Nat} (hk : k < l.length) : l.take k ++ [l[k]] = l.take (k + 1) := (List.take_succ_eq_append_getElem hk).symm
end
section
open Go.ChangeShapes Go.WideShapes Go.ChangeAt Go.RowKit Go.Deep
theorem revParts_hops (l : List Part) : hopsN (revParts l) = hopsN l := by
 have h : ∀ l : List Part, hopsN (l.map revPart) = hopsN l := by
  intro l
  induction l with
  | nil => rfl
  | cons x l ih => rw [List.map_cons, hopsN_cons, hopsN_cons, ih]; simp [revPart]
 have h2 : ∀ l : List Part, hopsN l.reverse = hopsN l := by
  intro l
  induction l with
  | nil => rfl
  | cons x l ih =>
   rw [List.reverse_cons, hopsN_cons, ← ih]
   simp [hopsN, Part.size]; omega
 unfold revParts
 rw [h2, h]
end
end Go.Proofs.Ytikbeiafobnblaa
