/- What these laws need: FnFlips, FnForwards, FnReplies: Contracts of links, interfaces and failed interfaces of a topology, program and reference. What is checked of hop fields, parts, paths and packets, and how a packet goes on, as plain functions. Contracts of the far ends of links, of rows of hop fields and of parts, program and reference. The steps of a path, once more: from a place in it on, hop by hop. What a packet's walk does on a well-formed path: its steps are the path's steps from its place on, as far as it comes. When a packet that began right is delivered: exactly if every hop on its way verifies and is in time, where every AS permits. Contracts of the tests of parts and paths, program and reference. Contracts of the tests of whole paths: order of parts, interfaces, codes, expiry, program and reference. Contracts of simple, verified and usable paths, program and reference. -/
import Derived.Test.YtikbeiafobnblaaGreatKR8
import Derived.Test.YtikbeiafobnblaaGreatKR18
namespace Go.Proofs.YtikbeiafobnblaaGreat
section
open Go.ChangeShapes Go.WideShapes Go.ChangeAt Go.RowKit Go.Deep
set_option maxHeartbeats 1000000 in
theorem i_usesInterface (x : Lnk) (r d : Int) (w : World) :
  Calls Tryz.prog 254 #[.agg #[.int .i64 x.a, .int .i64 x.ai, .int .i64 x.b, .int .i64 x.bi, .int .i64 x.kind], .int .i64 r, .int .i64 d] w fun e w' => e = .returned (.bool (usesIf x r d)) ∧ Ext w w' := by
 go_enter Tryz.func254, Tryz.ntmps254
 cases h1 : (x.a == r) <;> cases h2 : (x.ai == d) <;> cases h3 : (x.b == r) <;> cases h4 : (x.bi == d)
 all_goals
  go_wp2
  go_ret
  exact ⟨ret_bool (by unfold usesIf; rw [h1, h2, h3, h4]; rfl), (Ext.refl _).alloc _⟩
set_option maxHeartbeats 1000000 in
theorem i_LinkIndex (t : Topo) (v1 v2 : Value) (r d : Int) (w : World) (h2 : RdS Lnk.rep w v2 t.links) :
  Calls Tryz.prog 193 #[.agg #[v1, v2], .int .i64 r, .int .i64 d] w fun e w' => e = .returned (.int .i64 (linkIdx t.links r d)) ∧ Ext w w' := by
 obtain ⟨o, cap, rfl, hsm⟩ := h2.shape
 have hx0 : Ext w (w.alloc (.cells #[v1, .slice o t.links.length cap] 33)) := (Ext.refl _).alloc _
 have hB := blk_new w (.cells #[v1, .slice o t.links.length cap] 33)
 have HB := Lib.hid hB; clear hB
 have hv := h2.ext hx0
 have hLI : linkIdx t.links r d = linkFrom r d 0 t.links := rfl
 have HLI := Lib.hid hLI; clear hLI
 generalize t.links = l at *
 go_enter Tryz.func193, Tryz.ntmps193
 go_wp2
 go_loopg [12] l.length (fun gk i wr => ∃ k : Nat, gk + k = l.length ∧ i = .int .i64 k ∧ Hid (linkFrom r d k (l.drop k) = linkFrom r d 0 l) ∧ Ext (w.alloc (.cells #[v1, .slice o l.length cap] 33)) wr)
 case atStart => exact ⟨0, rfl, rfl, Lib.hid rfl, Ext.refl _⟩
 case round =>
  obtain ⟨k, hgk, rfl, HK, hx⟩ := hrel
  have hc0 := blk2 (Ext.block hx HB.out)
  by_cases hlt : k < l.length
  ·
   obtain ⟨b, off, rfl, hc⟩ := Lnk.at (hv.ext hx) k hlt
   have hg' : gk - 1 + (k + 1) = l.length ∧ gk - 1 < gk := by omega
   have HG := Lib.hid hg'; clear hg' hgk
   go_wp2_with fail
   refine (i_usesInterface l[k] r d _).mono ?_
   rintro e w2 ⟨rfl, k2⟩
   have hx2 := (hx.alloc _).trans k2
   cases hu : usesIf l[k] r d
   ·
    have HK2 := Lib.hid ((linkFrom_no hlt hu).symm.trans HK.out)
    go_wp2_with fail
    go_roundg (gk - 1)
    case measure => exact HG.out.2
    case rel => exact ⟨k + 1, HG.out.1, by go_num, HK2, hx2⟩
   ·
    have HY := Lib.hid ((HLI.out.trans HK.out.symm).trans (linkFrom_yes hlt hu))
    go_wp2_with fail
    go_ret
    exact ⟨ret_int HY.out.symm, hx0.trans hx2⟩
  ·
   have HY := Lib.hid (HLI.out.trans (HK.out.symm.trans (show _ = (-1 : Int) by rw [List.drop_of_length_le (by omega)]; rfl)))
   go_wp2
   go_ret
   exact ⟨ret_int HY.out.symm, hx0.trans hx⟩
end
section
open Go.RowKit
def hopsIn (now : Int) (l : List Hop) : Bool := l.all (fun h => decide (now ≤ h.exp))
def partIn' (now : Int) (x : Part) : Bool := decide (x.ts ≤ now) && hopsIn now x.hops
def usable (t : Topo) (p : Pth) (now : Int) : Bool := simple t p && verPath t p && allTo (fun i => partIn' now (partAt p.parts i)) p.parts.length
end
section
open Go.ChangeShapes Go.WideShapes Go.ChangeAt Go.RowKit Go.Deep
set_option maxHeartbeats 1000000 in
theorem i_RemoteEnd (t : Topo) (v1 v2 : Value) (r d : Int) (w : World) (hk : RdS Lnk.rep w v2 t.links) :
  Calls Tryz.prog 95 #[.agg #[v1, v2], .int .i64 r, .int .i64 d] w fun e w' => e = .returned (.tuple #[.int .i64 (remEnd t r d).1, .int .i64 (remEnd t r d).2]) ∧ Ext w w' := by
 obtain ⟨o, cap, rfl, hsm⟩ := hk.shape
 have hx0 : Ext w (w.alloc (.cells #[v1, .slice o t.links.length cap] 33)) := (Ext.refl _).alloc _
 have HB0 := Lib.hid (blk_new w (.cells #[v1, .slice o t.links.length cap] 33))
 go_enter Tryz.func95, Tryz.ntmps95
 have cf1 := blk2 HB0.out
 go_wp2_with fail
 refine (i_LinkIndex t _ _ r d _ (hk.ext hx0)).mono ?_
 rintro e w1 ⟨rfl, hz1⟩
 have hil := linkIdx_lt t.links r d
 by_cases hn : linkIdx t.links r d < 0
 ·
  have HE := Lib.hid (remEnd_no hn)
  try clear cf1
  have cf2 := blk2 (Ext.block hz1 HB0.out)
  go_wp2_with fail
  go_ret2
  exact ⟨ret_pair HE.out, (hx0.trans hz1)⟩
 ·
  have hin : (linkIdx t.links r d).toNat < t.links.length := by omega
  have HE := Lib.hid (remEnd_at hn hin)
  have hn0 : 0 ≤ linkIdx t.links r d := by omega
  obtain ⟨b, off, rfl, hc⟩ := Lnk.at (hk.ext (hx0.trans hz1)) _ hin
  generalize linkIdx t.links r d = i at *
  generalize t.links[i.toNat] = x at *
  try clear cf1
  have cf3 := blk2 (Ext.block hz1 HB0.out)
  have hx1 : Ext w1 (w1.alloc (.cells #[.int .i64 x.a, .int .i64 x.ai, .int .i64 x.b, .int .i64 x.bi, .int .i64 x.kind] 191)) := (Ext.refl _).alloc _
  have HB1 := Lib.hid (blk_new w1 (.cells #[.int .i64 x.a, .int .i64 x.ai, .int .i64 x.b, .int .i64 x.bi, .int .i64 x.kind] 191))
  cases b1 : (x.a == r) <;> cases b2 : (x.ai == d)
  all_goals
   go_wp2_with fail
   have cl := blk5 HB1.out
   refine wp_region_ext (by kernel_rfl) (by kernel_rfl) ?_
   have q0 := ExtW.cell (cl.1)
   have q1 := ExtW.cell (cl.2.1)
   have q2 := ExtW.cell (cl.2.2.1)
   have q3 := ExtW.cell (cl.2.2.2.1)
   have q4 := ExtW.cell (cl.2.2.2.2)
   repeat (first | go_big_quiet_step (fail) | quiet_step (fail))
   refine wpQuiet_nil ?_
   intro w9 hw9
   have h9 := ExtW.out hw9
   clear hw9 q0 q1 q2 q3 q4 cl
   go_wp2_with fail
   go_ret2
   exact ⟨ret_pair (by rw [HE.out, b1, b2]; rfl), ((hx0.trans hz1).trans hx1).trans h9⟩
set_option maxRecDepth 100000 in
set_option maxHeartbeats 4000000 in
theorem i_hopsOk (t : Topo) (v1 v2 : Value) (l : List Hop) (v : Value) (w : World) (ha : RdS ASd.rep w v1 t.ases) (hv : RdS Hop.rep w v l) :
  Calls Tryz.prog 235 #[.agg #[v1, v2], v] w fun e w' => e = .returned (.bool (hopsOk t l)) ∧ Ext w w' := by
 obtain ⟨o, cap, rfl, hsm⟩ := hv.shape
 have hcap := hv.capLe
 have hx0 : Ext w (w.alloc (.cells #[v1, v2] 33)) := (Ext.refl _).alloc _
 have HB0 := Lib.hid (blk_new w (.cells #[v1, v2] 33))
 go_enter Tryz.func235, Tryz.ntmps235
 have cf1 := blk2 HB0.out
 go_wp2_with fail
 refine (i_InRange _ _ _ _).mono ?_
 rintro e _ ⟨rfl, rfl⟩
 cases hr : inR (l.length : Int) 1 8
 ·
  have HE := Lib.hid (show hopsOk t l = false by unfold hopsOk; rw [hr]; rfl)
  go_wp2_with fail
  go_ret
  exact ⟨ret_bool HE.out.symm, hx0⟩
 ·
  have HL := Lib.hid (show hopsOk t l = allTo (hopFresh t l) l.length by unfold hopsOk; rw [hr]; rfl)
  clear hr
  go_wp2_with fail
  go_loopg [15] l.length (fun gk i wr => ∃ k : Nat, gk + k = l.length ∧ i = .int .i64 k ∧ Hid (allTo (hopFresh t l) k = true) ∧ Ext (w.alloc (.cells #[v1, v2] 33)) wr)
  case atStart => exact ⟨0, rfl, rfl, Lib.hid rfl, Ext.refl _⟩
  case round =>
   obtain ⟨k, hgk, rfl, HK, hx⟩ := hrel
   by_cases hlt : k < l.length
   ·
    have HG := Lib.hid (show gk - 1 + (k + 1) = l.length ∧ gk - 1 < gk by omega); clear hgk
    have HAT := Lib.hid (hopAt_at hlt)
    obtain ⟨b, off, rfl, hc⟩ := Hop.at (hv.ext (hx0.trans hx)) k hlt
    try clear cf1
    have cf2 := blk2 (Ext.block hx HB0.out)
    generalize hlk : l[k] = h at *
    have HLK := Lib.hid hlk; clear hlk
    have hx1 : Ext wr (wr.alloc (.cells #[.int .i64 h.asn, .int .i64 h.ing, .int .i64 h.eg, .int .i64 h.exp, .int .i64 h.mac] 44)) := (Ext.refl _).alloc _
    have HB1 := Lib.hid (blk_new wr (.cells #[.int .i64 h.asn, .int .i64 h.ing, .int .i64 h.eg, .int .i64 h.exp, .int .i64 h.mac] 44))
    go_wp2_with fail
    refine (i_ValidHop h _).mono ?_
    rintro e w2 ⟨rfl, hz2⟩
    cases b1 : validHop h
    ·
     have HE := Lib.hid (HL.out.trans (allTo_no hlt (show hopFresh t l k = false by unfold hopFresh; rw [HAT.out]; rw [b1]; rfl)))
     have cf3 := blk2 (Ext.block ((hx.trans hx1).trans hz2) HB0.out)
     have cf4 := blk5 (Ext.block hz2 HB1.out)
     go_wp2_with fail
     go_ret
     exact ⟨ret_bool HE.out.symm, (((hx0.trans hx).trans hx1).trans hz2)⟩
    ·
     have cf5 := blk2 (Ext.block ((hx.trans hx1).trans hz2) HB0.out)
     have cf6 := blk5 (Ext.block hz2 HB1.out)
     go_wp2_with fail
     refine (i_isAS t _ _ h.asn _ (ha.ext (((hx0.trans hx).trans hx1).trans hz2))).mono ?_
     rintro e w3 ⟨rfl, hz3⟩
     cases b2 : isAs t h.asn
     ·
      have HE := Lib.hid (HL.out.trans (allTo_no hlt (show hopFresh t l k = false by unfold hopFresh; rw [HAT.out]; rw [b1, b2]; rfl)))
      try clear cf5
      try clear cf6
      have cf7 := blk2 (Ext.block (((hx.trans hx1).trans hz2).trans hz3) HB0.out)
      have cf8 := blk5 (Ext.block (hz2.trans hz3) HB1.out)
      go_wp2_with fail
      go_ret
      exact ⟨ret_bool HE.out.symm, ((((hx0.trans hx).trans hx1).trans hz2).trans hz3)⟩
     ·
      try clear cf5
      try clear cf6
      have cf9 := blk2 (Ext.block (((hx.trans hx1).trans hz2).trans hz3) HB0.out)
      have cf10 := blk5 (Ext.block (hz2.trans hz3) HB1.out)
      go_wp2_with fail
      obtain ⟨go, hgo⟩ : ∃ go : Nat, go = gk := ⟨_, rfl⟩
      subst hgo
      obtain ⟨wo, hwo⟩ : ∃ wo : World, wo = wr := ⟨_, rfl⟩
      subst hwo
      have hkc : k ≤ cap := by omega
      go_loopg [34] k (fun gk j ws => ∃ m : Nat, gk + m = k ∧ j = .int .i64 m ∧ Hid (hasI ((l.map (·.asn)).take m) h.asn = false) ∧ Ext w3 ws)
      case atStart => exact ⟨0, rfl, rfl, Lib.hid rfl, Ext.refl _⟩
      case round =>
       obtain ⟨m, hgm, rfl, HM, hy⟩ := hrel
       by_cases hmk : m < k
       ·
        have hml : m < l.length := by omega
        have HG2 := Lib.hid (show gk - 1 + (m + 1) = k ∧ gk - 1 < gk by omega); clear hgm
        obtain ⟨b2, off2, he2, hd⟩ := Hop.at (hv.ext (((((hx0.trans hx).trans hx1).trans hz2).trans hz3).trans hy)) m hml
        cases he2
        have HS := Lib.hid (any_snoc (fun x => x == h.asn) (l := l.map (·.asn)) (k := m) (by simpa using hml))
        try clear cf9
        try clear cf10
        have cf11 := blk2 (Ext.block ((((hx.trans hx1).trans hz2).trans hz3).trans hy) HB0.out)
        have cf12 := blk5 (Ext.block ((hz2.trans hz3).trans hy) HB1.out)
        have cy := blk5 (Ext.block (((hz2.trans hz3).trans hy).trans ((Ext.refl wr).alloc (.cells #[.int .i64 l[m].asn, .int .i64 l[m].ing, .int .i64 l[m].eg, .int .i64 l[m].exp, .int .i64 l[m].mac] 44))) HB1.out)
        cases b3 : (l[m].asn == h.asn)
        ·
         have HM2 := Lib.hid (show hasI ((l.map (·.asn)).take (m + 1)) h.asn = false by unfold hasI at HM ⊢; rw [HS.out, HM.out]; simpa using b3)
         go_wp2_with fail
         go_roundg (gk - 1)
         case measure => exact HG2.out.2
         case rel => exact ⟨m + 1, HG2.out.1, by go_num, HM2, hy.alloc _⟩
        ·
         have HE := Lib.hid (HL.out.trans (allTo_no hlt (show hopFresh t l k = false by unfold hopFresh; rw [HAT.out, b1, b2]; simp only [Bool.true_and, Bool.not_eq_false']; exact List.any_eq_true.2 ⟨l[m].asn, List.mem_take_iff_getElem.2 ⟨m, by simp; omega, by simp⟩, b3⟩)))
         go_wp2_with fail
         go_ret
         exact ⟨ret_bool HE.out.symm, (((((hx0.trans hx).trans hx1).trans hz2).trans hz3).trans hy).alloc _⟩
       ·
        obtain rfl : m = k := by omega
        have HK2 := Lib.hid (allTo_snoc HK.out (show hopFresh t l m = true by unfold hopFresh; rw [HAT.out, b1, b2, HM.out]; rfl))
        go_wp2
        go_roundg (go - 1)
        case measure => exact HG.out.2
        case rel => exact ⟨m + 1, HG.out.1, by go_num, HK2, ((((hx.trans hx1).trans hz2).trans hz3).trans hy)⟩
   ·
    obtain rfl : k = l.length := by omega
    have HE := Lib.hid (HL.out.trans HK.out)
    try clear cf1
    have cf13 := blk2 (Ext.block hx HB0.out)
    go_wp2_with fail
    go_ret
    exact ⟨ret_bool HE.out.symm, (hx0.trans hx)⟩
end
section
open Go.RowKit
theorem hopsTo_join (k : Int) (X : List Step) (s : Step) (h : Hop) (hs : List Hop) (he : s.asn = h.asn) : ∀ i ≤ hs.length, hopsTo true k (X ++ [s]) (h :: hs) (i + 1) = X ++ (⟨h.asn, s.ing, hopEg k h⟩ :: (hs.take i).map (stepOf k))
  | 0, _ => by
    rw [hopsTo_succ (by simp)]
    have hm : mergeB (true && (0 : Nat) == 0) (X ++ [s]) h = true := by simp [mergeB, he]
    show stepOne (true && (0 : Nat) == 0) k (X ++ [s]) h = _
    rw [stepOne_yes2 hm (by simp)]
    simp
  | i + 1, hi => by
    rw [hopsTo_succ (by simp; omega), hopsTo_join k X s h hs he i (by omega)]
    rw [stepOne_no (by simp [mergeB])]
    rw [List.take_succ_eq_append_getElem (by omega), List.map_append]
    simp only [List.append_assoc, List.cons_append, List.getElem_cons_succ]
    rfl
theorem hopsTo_first (k : Int) (hs : List Hop) : ∀ i ≤ hs.length, hopsTo false k [] hs i = (hs.take i).map (stepOf k)
  | 0, _ => by simp [hopsTo]
  | i + 1, hi => by
    rw [hopsTo_succ (by omega), hopsTo_first k hs i (by omega), stepOne_no (by simp [mergeB]), List.take_succ_eq_append_getElem (by omega), List.map_append]
    rfl
theorem endsIn_cons (s : Step) (l : List Step) : endsIn (s :: l) = ⟨s.asn, 0, s.eg⟩ :: l := by simp [endsIn]
end
section
open Go.RowKit
theorem good_of_wf {t : Topo} {p : Pth} (h : wfPath t p = true) : GoodP t p.parts := by
  unfold wfPath at h
  simp only [Bool.and_eq_true] at h
  have hp := allTo_true.1 h.2
  have hv : ∀ j, j < p.parts.length → validPart t (partAt p.parts j) = true := fun j hj => by
    have := hp j hj; unfold partOk at this; simp only [Bool.and_eq_true] at this; exact this.1
  have ho : ∀ j, j < p.parts.length → hopsOk t (partAt p.parts j).hops = true := fun j hj => by
    have := hv j hj; unfold validPart at this; simp only [Bool.and_eq_true] at this; exact this.1.1.1.2
  refine ⟨fun j hj => ?_, fun j hj => ?_, fun j hj i hi => ?_, fun j hj i hi => ?_⟩
  · have := ho j hj
    unfold hopsOk at this
    simp only [Bool.and_eq_true] at this
    have := (inR_true.1 this.1).1
    omega
  · have := hp (j + 1) hj
    unfold partOk at this
    simp only [Bool.and_eq_true, Nat.add_sub_cancel] at this
    have h2 := this.2
    simp only [Nat.add_eq_zero_iff, Nat.one_ne_zero, and_false, decide_false, Bool.false_or] at h2
    unfold followAt at h2
    simp only [Bool.and_eq_true, beq_iff_eq] at h2
    exact h2.2
  · have := hv j hj
    unfold validPart at this
    simp only [Bool.and_eq_true] at this
    exact allTo_true.1 this.2 i (by omega)
  · have := ho j hj
    unfold hopsOk at this
    simp only [Bool.and_eq_true] at this
    have := allTo_true.1 this.2 i hi
    unfold hopFresh at this
    simp only [Bool.and_eq_true] at this
    exact this.1.1
theorem vh_asn {h : Hop} (hv : validHop h = true) : 0 ≤ h.asn ∧ h.asn ≤ 7 := by
  unfold validHop at hv
  simp only [Bool.and_eq_true] at hv
  exact inR_true.1 hv.1.1.1.1.1
end
section
open Go.RowKit
/-- The hop at a place verifies. -/
def verAt (t : Topo) (ps : List Part) (j i : Nat) : Bool := verHop t (partAt ps j).ts (betaFor (partAt ps j) i) (hopAt (partAt ps j).hops i)
/-- The hop at a place is in time. -/
def timeAt (now : Int) (ps : List Part) (j i : Nat) : Bool := decide ((partAt ps j).ts ≤ now) && decide (now ≤ (hopAt (partAt ps j).hops i).exp)
def validAt (ps : List Part) (j i : Nat) : Prop := j < ps.length ∧ i < (partAt ps j).hops.length
def betaOk (x : Pkt) : Prop := x.beta = betaTo (curPart x) x.hi.toNat
theorem betaTo_res {x : Part} {k : Nat} (h : k < x.hops.length) : isRes (betaTo x (k + 1)) = true := by
  rw [betaTo_succ h]; split; exact subMod_res _ _; exact addMod_res _ _
end
section
open Go.ChangeShapes Go.WideShapes Go.ChangeAt Go.RowKit Go.Deep
set_option maxRecDepth 100000 in
set_option maxHeartbeats 4000000 in
theorem i_ValidPart (t : Topo) (v1 v2 : Value) (x : Part) (v : Value) (w : World) (ha : RdS ASd.rep w v1 t.ases) (hk : RdS Lnk.rep w v2 t.links) (r : RdS Hop.rep w v x.hops) :
  Calls Tryz.prog 153 #[.agg #[v1, v2], .agg #[.int .i64 x.kind, .int .i64 x.ts, .int .i64 x.beta, v]] w fun e w' => e = .returned (.bool (validPart t x)) ∧ Ext w w' := by
 obtain ⟨o, cap, rfl, hsm⟩ := r.shape
 have hx0 := ext2 w (.cells #[v1, v2] 33) (.cells #[.int .i64 x.kind, .int .i64 x.ts, .int .i64 x.beta, .slice o x.hops.length cap] 47)
 have HB0 := Lib.hid (al2 w (.cells #[v1, v2] 33) (.cells #[.int .i64 x.kind, .int .i64 x.ts, .int .i64 x.beta, .slice o x.hops.length cap] 47))
 go_enter Tryz.func153, Tryz.ntmps153
 have cf1 := blk2 HB0.out.1
 have cf2 := blk4 HB0.out.2
 go_wp2_with fail
 refine (i_InRange _ _ _ _).mono ?_
 rintro e _ ⟨rfl, rfl⟩
 cases bb : inR x.kind 1 4
 ·
  have HE := Lib.hid (validPart_1 (t := t) (x := x) bb)
  go_wp2_with fail
  go_ret
  exact ⟨ret_bool HE.out.symm, hx0⟩
 ·
  have B1 := Lib.hid bb; clear bb
  go_wp2_with fail
  refine (i_hopsOk t _ _ x.hops _ _ (ha.ext hx0) (r.ext hx0)).mono ?_
  rintro e w2 ⟨rfl, hz2⟩
  cases bb : hopsOk t x.hops
  ·
   have HE := Lib.hid (validPart_2 (t := t) (x := x) bb)
   try clear cf1
   try clear cf2
   have cf3 := blk2 (Ext.block hz2 HB0.out.1)
   have cf4 := blk4 (Ext.block hz2 HB0.out.2)
   go_wp2_with fail
   go_ret
   exact ⟨ret_bool HE.out.symm, (hx0.trans hz2)⟩
  ·
   have B2 := Lib.hid bb; clear bb
   try clear cf1
   try clear cf2
   have cf5 := blk2 (Ext.block hz2 HB0.out.1)
   have cf6 := blk4 (Ext.block hz2 HB0.out.2)
   go_wp2_with fail
   refine (i_InRange _ _ _ _).mono ?_
   rintro e _ ⟨rfl, rfl⟩
   cases bb : inR x.ts 0 1000000
   ·
    have HE := Lib.hid (validPart_3 (t := t) (x := x) bb)
    go_wp2_with fail
    go_ret
    exact ⟨ret_bool HE.out.symm, (hx0.trans hz2)⟩
   ·
    have B3 := Lib.hid bb; clear bb
    go_wp2_with fail
    refine (i_isResidue _ _).mono ?_
    rintro e _ ⟨rfl, rfl⟩
    cases bb : isRes x.beta
    ·
     have HE := Lib.hid (validPart_4 (t := t) (x := x) bb)
     go_wp2_with fail
     go_ret
     exact ⟨ret_bool HE.out.symm, (hx0.trans hz2)⟩
    ·
     have B4 := Lib.hid bb; clear bb
     have hlen : 1 ≤ x.hops.length := by
      have h := B2.out
      unfold hopsOk at h
      simp only [Bool.and_eq_true] at h
      have := inR_true.1 h.1
      omega
     go_wp2_with fail
     go_loopg [5] (x.hops.length - 1) (fun gk i wr => ∃ k : Nat, gk + k = x.hops.length - 1 ∧ i = .int .i64 k ∧ Hid (allTo (joinAt t x) k = true) ∧ Ext w2 wr)
     case atStart => exact ⟨0, rfl, rfl, Lib.hid rfl, Ext.refl _⟩
     case round =>
      obtain ⟨k, hgk, rfl, HK, hx⟩ := hrel
      by_cases hlt : (k : Int) < (x.hops.length : Int) - 1
      ·
       have HG := Lib.hid (show gk - 1 + (k + 1) = x.hops.length - 1 ∧ gk - 1 < gk by omega); clear hgk
       have h1 : k < x.hops.length := by omega
       have h2 : k + 1 < x.hops.length := by omega
       have h3 : k < x.hops.length - 1 := by omega
       have HJ := Lib.hid (joinAt_of (t := t) h1 h2)
       try clear cf5
       try clear cf6
       have cf7 := blk2 (Ext.block (hz2.trans hx) HB0.out.1)
       have cf8 := blk4 (Ext.block (hz2.trans hx) HB0.out.2)
       go_wp2_with fail
       refine (i_PartEgress x _ (k : Int) _ (r.ext ((hx0.trans hz2).trans hx))).mono ?_
       rintro e w5 ⟨rfl, hz5⟩
       obtain ⟨b, off, rfl, hc⟩ := Hop.at (r.ext (((hx0.trans hz2).trans hx).trans hz5)) k h1
       obtain ⟨b2, off2, he2, hd⟩ := Hop.at (r.ext (((hx0.trans hz2).trans hx).trans hz5)) (k + 1) h2
       cases he2
       generalize he : partEg x (k : Int) = eg at *
       have HEG := Lib.hid he; clear he
       have h4 : (k : Int) < (x.hops.length : Int) := by omega
       have h5 : (k : Int) + 1 < (x.hops.length : Int) := by omega
       try clear cf7
       try clear cf8
       have cf9 := blk2 (Ext.block ((hz2.trans hx).trans hz5) HB0.out.1)
       have cf10 := blk4 (Ext.block ((hz2.trans hx).trans hz5) HB0.out.2)
       go_wp2_with fail
       refine wp_region_ext (by kernel_rfl) (by kernel_rfl) ?_
       have q0 := ExtW.cell (cf9.1)
       have q1 := ExtW.cell (cf9.2)
       have q2 := ExtW.cell (cf10.1)
       have q3 := ExtW.cell (cf10.2.1)
       have q4 := ExtW.cell (cf10.2.2.1)
       have q5 := ExtW.cell (cf10.2.2.2)
       have q6 := ExtW.cell (hc.1)
       have q7 := ExtW.cell (hc.2.1)
       have q8 := ExtW.cell (hc.2.2.1)
       have q9 := ExtW.cell (hc.2.2.2.1)
       have q10 := ExtW.cell (hc.2.2.2.2)
       have q11 := ExtW.cell (hd.1)
       have q12 := ExtW.cell (hd.2.1)
       have q13 := ExtW.cell (hd.2.2.1)
       have q14 := ExtW.cell (hd.2.2.2.1)
       have q15 := ExtW.cell (hd.2.2.2.2)
       repeat (first | go_big_quiet_step (((first | (go_at_call 95; exact Calls.ext_of (i_RemoteEnd t _ _ x.hops[k].asn eg _ ((hk.ext (((hx0.trans hz2).trans hx).trans hz5)).ext (ExtW.h _))))))) | quiet_step (((first | (go_at_call 95; exact Calls.ext_of (i_RemoteEnd t _ _ x.hops[k].asn eg _ ((hk.ext (((hx0.trans hz2).trans hx).trans hz5)).ext (ExtW.h _))))))))
       refine wpQuiet_nil ?_
       intro w6 hw6
       have hz6 := ExtW.out hw6
       clear hw6 q0 q1 q2 q3 q4 q5 q6 q7 q8 q9 q10 q11 q12 q13 q14 q15
       generalize hR : remEnd t x.hops[k].asn eg = R at *
       have HR := Lib.hid hR; clear hR
       cases b1 : (eg == 0)
       ·
        cases b2 : (R.1 == x.hops[k + 1].asn)
        ·
         have b2' : (R.1 != x.hops[k + 1].asn) = true := by simp only [bne, b2]; rfl
         have HE := Lib.hid (validPart_5 (t := t) h3 (show joinAt t x k = false by rw [HJ.out]; simp only [bne, b1, b2, Bool.not_false, Bool.false_and, Bool.and_false]))
         try clear cf9
         try clear cf10
         have cf11 := blk2 (Ext.block (((hz2.trans hx).trans hz5).trans hz6) HB0.out.1)
         have cf12 := blk4 (Ext.block (((hz2.trans hx).trans hz5).trans hz6) HB0.out.2)
         have cf13 := Hop.at_ext hz6 hc
         have cf14 := Hop.at_ext hz6 hd
         go_wp2_with fail
         go_ret
         exact ⟨ret_bool HE.out.symm, ((((hx0.trans hz2).trans hx).trans hz5).trans hz6)⟩
        ·
         have b2' : (R.1 != x.hops[k + 1].asn) = false := by simp only [bne, b2]; rfl
         try clear cf9
         try clear cf10
         have cf15 := blk2 (Ext.block (((hz2.trans hx).trans hz5).trans hz6) HB0.out.1)
         have cf16 := blk4 (Ext.block (((hz2.trans hx).trans hz5).trans hz6) HB0.out.2)
         have cf17 := Hop.at_ext hz6 hc
         have cf18 := Hop.at_ext hz6 hd
         go_wp2_with fail
         refine (i_PartIngress x _ ((k : Int) + 1) _ (r.ext ((((hx0.trans hz2).trans hx).trans hz5).trans hz6))).mono ?_
         rintro e w7 ⟨rfl, hz7⟩
         cases b3 : (R.2 == partIn x ((k : Int) + 1))
         ·
          have b3' : (R.2 != partIn x ((k : Int) + 1)) = true := by simp only [bne, b3]; rfl
          have HE := Lib.hid (validPart_5 (t := t) h3 (show joinAt t x k = false by rw [HJ.out]; simp only [bne, b1, b2, b3, Bool.not_false, Bool.and_false, Bool.true_and]))
          try clear cf15
          try clear cf16
          try clear cf17
          try clear cf18
          have cf19 := blk2 (Ext.block ((((hz2.trans hx).trans hz5).trans hz6).trans hz7) HB0.out.1)
          have cf20 := blk4 (Ext.block ((((hz2.trans hx).trans hz5).trans hz6).trans hz7) HB0.out.2)
          have cf21 := Hop.at_ext (hz6.trans hz7) hc
          have cf22 := Hop.at_ext (hz6.trans hz7) hd
          go_wp2_with fail
          go_ret
          exact ⟨ret_bool HE.out.symm, (((((hx0.trans hz2).trans hx).trans hz5).trans hz6).trans hz7)⟩
         ·
          have b3' : (R.2 != partIn x ((k : Int) + 1)) = false := by simp only [bne, b3]; rfl
          have HK2 := Lib.hid (allTo_snoc HK.out (show joinAt t x k = true by rw [HJ.out]; simp only [bne, b1, b2, b3]; rfl))
          try clear cf15
          try clear cf16
          try clear cf17
          try clear cf18
          have cf23 := blk2 (Ext.block ((((hz2.trans hx).trans hz5).trans hz6).trans hz7) HB0.out.1)
          have cf24 := blk4 (Ext.block ((((hz2.trans hx).trans hz5).trans hz6).trans hz7) HB0.out.2)
          have cf25 := Hop.at_ext (hz6.trans hz7) hc
          have cf26 := Hop.at_ext (hz6.trans hz7) hd
          go_wp2_with fail
          go_roundg (gk - 1)
          case measure => exact HG.out.2
          case rel => exact ⟨k + 1, HG.out.1, by go_num, HK2, (((hx.trans hz5).trans hz6).trans hz7)⟩
       ·
        have HE := Lib.hid (validPart_5 (t := t) h3 (show joinAt t x k = false by rw [HJ.out]; simp only [bne, b1, Bool.not_true, Bool.false_and]))
        try clear cf9
        try clear cf10
        have cf27 := blk2 (Ext.block (((hz2.trans hx).trans hz5).trans hz6) HB0.out.1)
        have cf28 := blk4 (Ext.block (((hz2.trans hx).trans hz5).trans hz6) HB0.out.2)
        have cf29 := Hop.at_ext hz6 hc
        have cf30 := Hop.at_ext hz6 hd
        go_wp2_with fail
        go_ret
        exact ⟨ret_bool HE.out.symm, ((((hx0.trans hz2).trans hx).trans hz5).trans hz6)⟩
      ·
       obtain rfl : k = x.hops.length - 1 := by omega
       have HE := Lib.hid (show validPart t x = true by unfold validPart; rw [B1.out, B2.out, B3.out, B4.out, HK.out]; rfl)
       have h6 : ¬ (((x.hops.length - 1 : Nat) : Int) < (x.hops.length : Int) - 1) := by omega
       try clear cf5
       try clear cf6
       have cf31 := blk2 (Ext.block (hz2.trans hx) HB0.out.1)
       have cf32 := blk4 (Ext.block (hz2.trans hx) HB0.out.2)
       go_wp2_with fail
       go_ret
       exact ⟨ret_bool HE.out.symm, ((hx0.trans hz2).trans hx)⟩
end
section
open Go.ChangeShapes Go.WideShapes Go.ChangeAt Go.RowKit Go.Deep
set_option maxHeartbeats 400000 in
theorem i_placeOf (k : Int) (w : World) :
  Calls Tryz.prog 154 #[.int .i64 k] w fun e w' => e = .returned (.int .i64 (rank k)) ∧ w = w' := by
 go_enter Tryz.func154, Tryz.ntmps154

 cases b1 : (k == 1) <;> cases b2 : (k == 2) <;> cases b3 : (k == 3)
 all_goals
  go_wp2
  go_ret
  exact ⟨ret_int (by unfold rank; rw [b1, b2, b3]; rfl), rfl⟩
set_option maxRecDepth 100000 in
set_option maxHeartbeats 8000000 in
theorem i_WellFormedPath (t : Topo) (v1 v2 : Value) (p : Pth) (v : Value) (w : World) (ha : RdS ASd.rep w v1 t.ases) (hk : RdS Lnk.rep w v2 t.links) (r : RdS Part.rep w v p.parts) :
  Calls Tryz.prog 47 #[.agg #[v1, v2], .agg #[v]] w fun e w' => e = .returned (.bool (wfPath t p)) ∧ Ext w w' := by
 obtain ⟨o, cap, rfl, hsm⟩ := r.shape
 have hx0 := ext2 w (.cells #[v1, v2] 33) (.cells #[.slice o p.parts.length cap] 26)
 have HB0 := Lib.hid (al2 w (.cells #[v1, v2] 33) (.cells #[.slice o p.parts.length cap] 26))
 go_enter Tryz.func47, Tryz.ntmps47
 have cf1 := blk2 HB0.out.1
 have cf2 := blk1 HB0.out.2
 go_wp2_with fail
 refine (i_InRange _ _ _ _).mono ?_
 rintro e _ ⟨rfl, rfl⟩
 cases bb : inR (p.parts.length : Int) 1 3
 ·
  have HE := Lib.hid (show wfPath t p = false by unfold wfPath; rw [bb]; rfl)
  go_wp2_with fail
  go_ret
  exact ⟨ret_bool HE.out.symm, hx0⟩
 ·
  have HL := Lib.hid (show wfPath t p = allTo (partOk t p.parts) p.parts.length by unfold wfPath; rw [bb]; rfl)
  clear bb
  obtain ⟨W0, hW0⟩ : ∃ W0 : World, W0 = (w.alloc (.cells #[v1, v2] 33)).alloc (.cells #[.slice o p.parts.length cap] 26) := ⟨_, rfl⟩
  rw [← hW0] at hx0 HB0
  go_wp2_with fail
  rw [← hW0]
  clear hW0
  go_loopg [16] p.parts.length (fun gk i wr => ∃ k : Nat, gk + k = p.parts.length ∧ i = .int .i64 k ∧ Hid (allTo (partOk t p.parts) k = true) ∧ Ext W0 wr)
  case atStart => exact ⟨0, rfl, rfl, Lib.hid rfl, Ext.refl _⟩
  case round =>
   obtain ⟨k, hgk, rfl, HK, hx⟩ := hrel
   by_cases hlt : k < p.parts.length
   ·
    have HG := Lib.hid (show gk - 1 + (k + 1) = p.parts.length ∧ gk - 1 < gk by omega); clear hgk
    have HAT := Lib.hid (partAt_at hlt)
    obtain ⟨b, off, oh, ch, rfl, hc, hr⟩ := Part.at (r.ext (hx0.trans hx)) k hlt
    have h4 : (k : Int) < (p.parts.length : Int) := by omega
    try clear cf1
    try clear cf2
    have cf3 := blk2 (Ext.block hx HB0.out.1)
    have cf4 := blk1 (Ext.block hx HB0.out.2)
    have hx1 : Ext wr (wr.alloc (.cells #[.int .i64 p.parts[k].kind, .int .i64 p.parts[k].ts, .int .i64 p.parts[k].beta, .slice oh p.parts[k].hops.length ch] 47)) := (Ext.refl _).alloc _
    have HB1 := Lib.hid (blk_new wr (.cells #[.int .i64 p.parts[k].kind, .int .i64 p.parts[k].ts, .int .i64 p.parts[k].beta, .slice oh p.parts[k].hops.length ch] 47))
    have cf5 := blk2 (Ext.block (hx.trans hx1) HB0.out.1)
    have cf6 := blk1 (Ext.block (hx.trans hx1) HB0.out.2)
    have cf7 := blk4 HB1.out
    have cf8 := Part.at_ext hx1 hc
    go_wp2_with fail
    refine (i_ValidPart t _ _ p.parts[k] _ _ (ha.ext ((hx0.trans hx).trans hx1)) (hk.ext ((hx0.trans hx).trans hx1)) (hr.ext hx1)).mono ?_
    rintro e w1 ⟨rfl, hz1⟩
    cases b1 : validPart t p.parts[k]
    ·
     have HE := Lib.hid (wf_no (t := t) hlt (show partOk t p.parts k = false by unfold partOk; rw [HAT.out, b1]; rfl))
     try clear cf5
     try clear cf6
     try clear cf7
     try clear cf8
     have cf9 := blk2 (Ext.block ((hx.trans hx1).trans hz1) HB0.out.1)
     have cf10 := blk1 (Ext.block ((hx.trans hx1).trans hz1) HB0.out.2)
     have cf11 := blk4 (Ext.block hz1 HB1.out)
     have cf12 := Part.at_ext (hx1.trans hz1) hc
     go_wp2_with fail
     go_ret
     exact ⟨ret_bool HE.out.symm, (((hx0.trans hx).trans hx1).trans hz1)⟩
    ·
     have hl1 := validPart_len b1
     rcases Nat.eq_zero_or_pos k with rfl | hk0
     ·
      have HK2 : Hid (allTo (partOk t p.parts) (0 + 1) = true) := Lib.hid (allTo_snoc rfl (show partOk t p.parts 0 = true by unfold partOk; rw [HAT.out, b1]; rfl))
      try clear cf5
      try clear cf6
      try clear cf7
      try clear cf8
      have cf13 := blk2 (Ext.block ((hx.trans hx1).trans hz1) HB0.out.1)
      have cf14 := blk1 (Ext.block ((hx.trans hx1).trans hz1) HB0.out.2)
      have cf15 := blk4 (Ext.block hz1 HB1.out)
      have cf16 := Part.at_ext (hx1.trans hz1) hc
      go_wp2_with fail
      go_roundg (gk - 1)
      case measure => exact HG.out.2
      case rel => exact ⟨0 + 1, HG.out.1, by go_num, HK2, ((hx.trans hx1).trans hz1)⟩
     ·
      obtain ⟨j, hj⟩ : ∃ j, k = j + 1 := ⟨k - 1, by omega⟩
      have hjl : j < p.parts.length := by omega
      have hvj := partOk_valid HK.out (show j < k by omega) hjl
      have hl2 := validPart_len hvj
      have HJJ := Lib.hid hj
      have hk1 : (0 : Int) < (k : Int) := by omega
      have hw2 : (k : Int) - 1 = (j : Int) := by omega
      obtain ⟨bj, offj, ohj, chj, ej, hd, hrj⟩ := Part.at (r.ext (((hx0.trans hx).trans hx1).trans hz1)) j hjl
      cases ej
      have h7 : (j : Int) < (p.parts.length : Int) := by omega
      have h8 : (0 : Int) ≤ (j : Int) := by omega
      have hl3 : p.parts[j].hops.length - 1 < p.parts[j].hops.length := by omega
      have hl4 : 0 < p.parts[k].hops.length := by omega
      have HF := Lib.hid (followAt_of hj hjl hlt hl3 hl4)
      have hwl : IntKind.i64.wrap ((p.parts[j].hops.length : Int) - 1) = ((p.parts[j].hops.length - 1 : Nat) : Int) := by rw [IntWalk.i64_in _ (by omega)]; omega
      have hl5 : ((p.parts[j].hops.length - 1 : Nat) : Int) < (p.parts[j].hops.length : Int) := by omega
      have hl6 : (0 : Int) ≤ ((p.parts[j].hops.length - 1 : Nat) : Int) := by omega
      have hl7 : (0 : Int) < (p.parts[k].hops.length : Int) := by omega
      clear hj hvj
      obtain ⟨b3, off3, e3, ht3⟩ := Hop.at hrj (p.parts[j].hops.length - 1) hl3
      obtain ⟨b4, off4, e4, ht4⟩ := Hop.at (hr.ext (hx1.trans hz1)) 0 hl4
      cases e3
      cases e4
      simp only [Nat.zero_mul, Nat.add_zero] at ht4
      try clear cf5
      try clear cf6
      try clear cf7
      try clear cf8
      have cf17 := blk2 (Ext.block ((hx.trans hx1).trans hz1) HB0.out.1)
      have cf18 := blk1 (Ext.block ((hx.trans hx1).trans hz1) HB0.out.2)
      have cf19 := blk4 (Ext.block hz1 HB1.out)
      have cf20 := Part.at_ext (hx1.trans hz1) hc
      generalize hlst : p.parts[j].hops.length - 1 = lst at *
      have HLST := Lib.hid hlst; clear hlst
      have hx2 : Ext w1 (w1.alloc (.cells #[.int .i64 p.parts[j].kind, .int .i64 p.parts[j].ts, .int .i64 p.parts[j].beta, .slice (some ⟨b3, off3, none⟩) p.parts[j].hops.length chj] 47)) := (Ext.refl _).alloc _
      have HB2 := Lib.hid (blk_new w1 (.cells #[.int .i64 p.parts[j].kind, .int .i64 p.parts[j].ts, .int .i64 p.parts[j].beta, .slice (some ⟨b3, off3, none⟩) p.parts[j].hops.length chj] 47))
      go_wp2_with fail
      clear hw2
      by_cases hge : rank p.parts[k].kind ≤ rank p.parts[j].kind
      ·
       have hge2 : decide (rank p.parts[k].kind ≤ rank p.parts[j].kind) = true := decide_eq_true hge
       have cf21 := blk2 (Ext.block (((hx.trans hx1).trans hz1).trans hx2) HB0.out.1)
       have cf22 := blk1 (Ext.block (((hx.trans hx1).trans hz1).trans hx2) HB0.out.2)
       have cf23 := blk4 (Ext.block (hz1.trans hx2) HB1.out)
       have cf24 := blk4 HB2.out
       have cf25 := Part.at_ext ((hx1.trans hz1).trans hx2) hc
       have cf26 := Part.at_ext hx2 hd
       have cf27 := Hop.at_ext hx2 ht3
       have cf28 := hop0_ext hx2 ht4
       go_wp2_with fail
       refine wp_region_ext (by kernel_rfl) (by kernel_rfl) ?_
       have q0 := ExtW.cell (cf21.1)
       have q1 := ExtW.cell (cf21.2)
       have q2 := ExtW.cell (cf22)
       have q3 := ExtW.cell (cf23.1)
       have q4 := ExtW.cell (cf23.2.1)
       have q5 := ExtW.cell (cf23.2.2.1)
       have q6 := ExtW.cell (cf23.2.2.2)
       have q7 := ExtW.cell (cf24.1)
       have q8 := ExtW.cell (cf24.2.1)
       have q9 := ExtW.cell (cf24.2.2.1)
       have q10 := ExtW.cell (cf24.2.2.2)
       have q11 := ExtW.cell (cf25.1)
       have q12 := ExtW.cell (cf25.2.1)
       have q13 := ExtW.cell (cf25.2.2.1)
       have q14 := ExtW.cell (cf25.2.2.2)
       have q15 := ExtW.cell (cf26.1)
       have q16 := ExtW.cell (cf26.2.1)
       have q17 := ExtW.cell (cf26.2.2.1)
       have q18 := ExtW.cell (cf26.2.2.2)
       have q19 := ExtW.cell (cf27.1)
       have q20 := ExtW.cell (cf27.2.1)
       have q21 := ExtW.cell (cf27.2.2.1)
       have q22 := ExtW.cell (cf27.2.2.2.1)
       have q23 := ExtW.cell (cf27.2.2.2.2)
       have q24 := ExtW.cell (cf28.1)
       have q25 := ExtW.cell (cf28.2.1)
       have q26 := ExtW.cell (cf28.2.2.1)
       have q27 := ExtW.cell (cf28.2.2.2.1)
       have q28 := ExtW.cell (cf28.2.2.2.2)
       repeat (first | go_big_quiet_step (((first | (go_at_call 154; exact Calls.ext_same (i_placeOf _ _))))) | quiet_step (((first | (go_at_call 154; exact Calls.ext_same (i_placeOf _ _))))))
       refine wpQuiet_nil ?_
       intro w2 hw2
       have hz2 := ExtW.out hw2
       clear hw2 q0 q1 q2 q3 q4 q5 q6 q7 q8 q9 q10 q11 q12 q13 q14 q15 q16 q17 q18 q19 q20 q21 q22 q23 q24 q25 q26 q27 q28
       have HE := Lib.hid (wf_no (t := t) hlt (show partOk t p.parts k = false by unfold partOk; rw [show k - 1 = j by rw [HJJ.out]; rfl, HF.out, decide_eq_false (by omega)]; simp; omega))
       try clear cf21
       try clear cf22
       try clear cf23
       try clear cf24
       try clear cf25
       try clear cf26
       try clear cf27
       try clear cf28
       have cf29 := blk2 (Ext.block ((((hx.trans hx1).trans hz1).trans hx2).trans hz2) HB0.out.1)
       have cf30 := blk1 (Ext.block ((((hx.trans hx1).trans hz1).trans hx2).trans hz2) HB0.out.2)
       have cf31 := blk4 (Ext.block ((hz1.trans hx2).trans hz2) HB1.out)
       have cf32 := blk4 (Ext.block hz2 HB2.out)
       have cf33 := Part.at_ext (((hx1.trans hz1).trans hx2).trans hz2) hc
       have cf34 := Part.at_ext (hx2.trans hz2) hd
       have cf35 := Hop.at_ext (hx2.trans hz2) ht3
       have cf36 := hop0_ext (hx2.trans hz2) ht4
       go_wp2_with fail
       go_ret
       exact ⟨ret_bool HE.out.symm, (((((hx0.trans hx).trans hx1).trans hz1).trans hx2).trans hz2)⟩
      ·
       have hge2 : decide (rank p.parts[k].kind ≤ rank p.parts[j].kind) = false := decide_eq_false hge
       cases b5 : (p.parts[j].hops[lst].asn == p.parts[k].hops[0].asn)
       ·
        have b5' : (p.parts[j].hops[lst].asn != p.parts[k].hops[0].asn) = true := by simp only [bne, b5]; rfl
        have cf37 := blk2 (Ext.block (((hx.trans hx1).trans hz1).trans hx2) HB0.out.1)
        have cf38 := blk1 (Ext.block (((hx.trans hx1).trans hz1).trans hx2) HB0.out.2)
        have cf39 := blk4 (Ext.block (hz1.trans hx2) HB1.out)
        have cf40 := blk4 HB2.out
        have cf41 := Part.at_ext ((hx1.trans hz1).trans hx2) hc
        have cf42 := Part.at_ext hx2 hd
        have cf43 := Hop.at_ext hx2 ht3
        have cf44 := hop0_ext hx2 ht4
        go_wp2_with fail
        refine wp_region_ext (by kernel_rfl) (by kernel_rfl) ?_
        have q0 := ExtW.cell (cf37.1)
        have q1 := ExtW.cell (cf37.2)
        have q2 := ExtW.cell (cf38)
        have q3 := ExtW.cell (cf39.1)
        have q4 := ExtW.cell (cf39.2.1)
        have q5 := ExtW.cell (cf39.2.2.1)
        have q6 := ExtW.cell (cf39.2.2.2)
        have q7 := ExtW.cell (cf40.1)
        have q8 := ExtW.cell (cf40.2.1)
        have q9 := ExtW.cell (cf40.2.2.1)
        have q10 := ExtW.cell (cf40.2.2.2)
        have q11 := ExtW.cell (cf41.1)
        have q12 := ExtW.cell (cf41.2.1)
        have q13 := ExtW.cell (cf41.2.2.1)
        have q14 := ExtW.cell (cf41.2.2.2)
        have q15 := ExtW.cell (cf42.1)
        have q16 := ExtW.cell (cf42.2.1)
        have q17 := ExtW.cell (cf42.2.2.1)
        have q18 := ExtW.cell (cf42.2.2.2)
        have q19 := ExtW.cell (cf43.1)
        have q20 := ExtW.cell (cf43.2.1)
        have q21 := ExtW.cell (cf43.2.2.1)
        have q22 := ExtW.cell (cf43.2.2.2.1)
        have q23 := ExtW.cell (cf43.2.2.2.2)
        have q24 := ExtW.cell (cf44.1)
        have q25 := ExtW.cell (cf44.2.1)
        have q26 := ExtW.cell (cf44.2.2.1)
        have q27 := ExtW.cell (cf44.2.2.2.1)
        have q28 := ExtW.cell (cf44.2.2.2.2)
        repeat (first | go_big_quiet_step (((first | (go_at_call 154; exact Calls.ext_same (i_placeOf _ _))))) | quiet_step (((first | (go_at_call 154; exact Calls.ext_same (i_placeOf _ _))))))
        refine wpQuiet_nil ?_
        intro w3 hw3
        have hz3 := ExtW.out hw3
        clear hw3 q0 q1 q2 q3 q4 q5 q6 q7 q8 q9 q10 q11 q12 q13 q14 q15 q16 q17 q18 q19 q20 q21 q22 q23 q24 q25 q26 q27 q28
        have HE := Lib.hid (wf_no (t := t) hlt (show partOk t p.parts k = false by unfold partOk; rw [show k - 1 = j by rw [HJJ.out]; rfl, HF.out]; simp only [b5]; simp; omega))
        try clear cf37
        try clear cf38
        try clear cf39
        try clear cf40
        try clear cf41
        try clear cf42
        try clear cf43
        try clear cf44
        have cf45 := blk2 (Ext.block ((((hx.trans hx1).trans hz1).trans hx2).trans hz3) HB0.out.1)
        have cf46 := blk1 (Ext.block ((((hx.trans hx1).trans hz1).trans hx2).trans hz3) HB0.out.2)
        have cf47 := blk4 (Ext.block ((hz1.trans hx2).trans hz3) HB1.out)
        have cf48 := blk4 (Ext.block hz3 HB2.out)
        have cf49 := Part.at_ext (((hx1.trans hz1).trans hx2).trans hz3) hc
        have cf50 := Part.at_ext (hx2.trans hz3) hd
        have cf51 := Hop.at_ext (hx2.trans hz3) ht3
        have cf52 := hop0_ext (hx2.trans hz3) ht4
        go_wp2_with fail
        go_ret
        exact ⟨ret_bool HE.out.symm, (((((hx0.trans hx).trans hx1).trans hz1).trans hx2).trans hz3)⟩
       ·
        have b5' : (p.parts[j].hops[lst].asn != p.parts[k].hops[0].asn) = false := by simp only [bne, b5]; rfl
        have cf53 := blk2 (Ext.block (((hx.trans hx1).trans hz1).trans hx2) HB0.out.1)
        have cf54 := blk1 (Ext.block (((hx.trans hx1).trans hz1).trans hx2) HB0.out.2)
        have cf55 := blk4 (Ext.block (hz1.trans hx2) HB1.out)
        have cf56 := blk4 HB2.out
        have cf57 := Part.at_ext ((hx1.trans hz1).trans hx2) hc
        have cf58 := Part.at_ext hx2 hd
        have cf59 := Hop.at_ext hx2 ht3
        have cf60 := hop0_ext hx2 ht4
        go_wp2_with fail
        refine wp_region_ext (by kernel_rfl) (by kernel_rfl) ?_
        have q0 := ExtW.cell (cf53.1)
        have q1 := ExtW.cell (cf53.2)
        have q2 := ExtW.cell (cf54)
        have q3 := ExtW.cell (cf55.1)
        have q4 := ExtW.cell (cf55.2.1)
        have q5 := ExtW.cell (cf55.2.2.1)
        have q6 := ExtW.cell (cf55.2.2.2)
        have q7 := ExtW.cell (cf56.1)
        have q8 := ExtW.cell (cf56.2.1)
        have q9 := ExtW.cell (cf56.2.2.1)
        have q10 := ExtW.cell (cf56.2.2.2)
        have q11 := ExtW.cell (cf57.1)
        have q12 := ExtW.cell (cf57.2.1)
        have q13 := ExtW.cell (cf57.2.2.1)
        have q14 := ExtW.cell (cf57.2.2.2)
        have q15 := ExtW.cell (cf58.1)
        have q16 := ExtW.cell (cf58.2.1)
        have q17 := ExtW.cell (cf58.2.2.1)
        have q18 := ExtW.cell (cf58.2.2.2)
        have q19 := ExtW.cell (cf59.1)
        have q20 := ExtW.cell (cf59.2.1)
        have q21 := ExtW.cell (cf59.2.2.1)
        have q22 := ExtW.cell (cf59.2.2.2.1)
        have q23 := ExtW.cell (cf59.2.2.2.2)
        have q24 := ExtW.cell (cf60.1)
        have q25 := ExtW.cell (cf60.2.1)
        have q26 := ExtW.cell (cf60.2.2.1)
        have q27 := ExtW.cell (cf60.2.2.2.1)
        have q28 := ExtW.cell (cf60.2.2.2.2)
        repeat (first | go_big_quiet_step (((first | (go_at_call 154; exact Calls.ext_same (i_placeOf _ _))))) | quiet_step (((first | (go_at_call 154; exact Calls.ext_same (i_placeOf _ _))))))
        refine wpQuiet_nil ?_
        intro w4 hw4
        have hz4 := ExtW.out hw4
        clear hw4 q0 q1 q2 q3 q4 q5 q6 q7 q8 q9 q10 q11 q12 q13 q14 q15 q16 q17 q18 q19 q20 q21 q22 q23 q24 q25 q26 q27 q28
        have HK2 := Lib.hid (allTo_snoc HK.out (show partOk t p.parts k = true by unfold partOk; rw [show k - 1 = j by rw [HJJ.out]; rfl, HAT.out, b1, HF.out]; simp only [b5, decide_eq_true (show rank p.parts[j].kind < rank p.parts[k].kind by omega)]; simp))
        try clear cf53
        try clear cf54
        try clear cf55
        try clear cf56
        try clear cf57
        try clear cf58
        try clear cf59
        try clear cf60
        have cf61 := blk2 (Ext.block ((((hx.trans hx1).trans hz1).trans hx2).trans hz4) HB0.out.1)
        have cf62 := blk1 (Ext.block ((((hx.trans hx1).trans hz1).trans hx2).trans hz4) HB0.out.2)
        have cf63 := blk4 (Ext.block ((hz1.trans hx2).trans hz4) HB1.out)
        have cf64 := blk4 (Ext.block hz4 HB2.out)
        have cf65 := Part.at_ext (((hx1.trans hz1).trans hx2).trans hz4) hc
        have cf66 := Part.at_ext (hx2.trans hz4) hd
        have cf67 := Hop.at_ext (hx2.trans hz4) ht3
        have cf68 := hop0_ext (hx2.trans hz4) ht4
        go_wp2_with fail
        go_roundg (gk - 1)
        case measure => exact HG.out.2
        case rel => exact ⟨k + 1, HG.out.1, by go_num, HK2, ((((hx.trans hx1).trans hz1).trans hx2).trans hz4)⟩
   ·
    obtain rfl : k = p.parts.length := by omega
    have HE := Lib.hid (HL.out.trans HK.out)
    try clear cf1
    try clear cf2
    have cf69 := blk2 (Ext.block hx HB0.out.1)
    have cf70 := blk1 (Ext.block hx HB0.out.2)
    go_wp2_with fail
    go_ret
    exact ⟨ret_bool HE.out.symm, (hx0.trans hx)⟩
end
section
open Go.ChangeShapes Go.WideShapes Go.ChangeAt Go.RowKit Go.Deep
set_option maxRecDepth 100000 in
set_option maxHeartbeats 4000000 in
theorem i_SimplePath (t : Topo) (v1 v2 : Value) (p : Pth) (v : Value) (w : World) (ha : RdS ASd.rep w v1 t.ases) (hk : RdS Lnk.rep w v2 t.links) (r : RdS Part.rep w v p.parts) (hl : p.size ≤ 1048576) :
  Calls Tryz.prog 93 #[.agg #[v1, v2], .agg #[v]] w fun e w' => e = .returned (.bool (simple t p)) ∧ Ext w w' := by
 obtain ⟨o, cap, rfl, hsm⟩ := r.shape
 have hx0 := ext2 w (.cells #[v1, v2] 33) (.cells #[.slice o p.parts.length cap] 26)
 have HB0 := Lib.hid (al2 w (.cells #[v1, v2] 33) (.cells #[.slice o p.parts.length cap] 26))
 go_enter Tryz.func93, Tryz.ntmps93
 have cf1 := blk2 HB0.out.1
 have cf2 := blk1 HB0.out.2
 go_wp2_with fail
 refine (i_WellFormedPath t _ _ p _ _ (ha.ext hx0) (hk.ext hx0) (r.ext hx0)).mono ?_
 rintro e w1 ⟨rfl, hz1⟩
 cases bb : wfPath t p
 ·
  have HE := Lib.hid (show simple t p = false by unfold simple; rw [bb]; rfl)
  try clear cf1
  try clear cf2
  have cf3 := blk2 (Ext.block hz1 HB0.out.1)
  have cf4 := blk1 (Ext.block hz1 HB0.out.2)
  go_wp2_with fail
  go_ret
  exact ⟨ret_bool HE.out.symm, (hx0.trans hz1)⟩
 ·
  have HS := Lib.hid (show simple t p = allTo (freshAt (usedIfs (pathSteps p.parts))) (usedIfs (pathSteps p.parts)).length by unfold simple; rw [bb]; rfl)
  have hul := usedIfs_len (pathSteps p.parts)
  have hpl := pathSteps_len p.parts
  have HNO := Lib.hid (fun (k : Nat) => simple_no (t := t) (p := p) (k := k))
  clear bb
  try clear cf1
  try clear cf2
  have cf5 := blk2 (Ext.block hz1 HB0.out.1)
  have cf6 := blk1 (Ext.block hz1 HB0.out.2)
  go_wp2_with fail
  refine (i_InterfacesUsed p _ _ (r.ext (hx0.trans hz1)) hl).mono ?_
  rintro e w2 ⟨u, rfl, oq, hz2⟩
  generalize usedIfs (pathSteps p.parts) = l at *
  obtain ⟨og, cg, rfl, _⟩ := (ints_rep oq).shape
  have hcg := (ints_rep oq).capLe
  have hqr := ints_rep oq
  clear oq
  try clear cf5
  try clear cf6
  have cf7 := blk2 (Ext.block (hz1.trans hz2) HB0.out.1)
  have cf8 := blk1 (Ext.block (hz1.trans hz2) HB0.out.2)
  go_wp2_with fail
  go_loopg [16] l.length (fun gk i wr => ∃ k : Nat, gk + k = l.length ∧ i = .int .i64 k ∧ Hid (allTo (freshAt l) k = true) ∧ Ext w2 wr)
  case atStart => exact ⟨0, rfl, rfl, Lib.hid rfl, Ext.refl _⟩
  case round =>
   obtain ⟨k, hgk, rfl, HK, hx⟩ := hrel
   by_cases hlt : k < l.length
   ·
    have HG := Lib.hid (show gk - 1 + (k + 1) = l.length ∧ gk - 1 < gk by omega); clear hgk
    have HAT := Lib.hid (freshAt_at hlt)
    obtain ⟨bq, oq, rfl, hq⟩ := ints_at (hqr.ext hx) k hlt
    have hqk := RdS.upto hqr k (by omega)
    have hkc : k ≤ cg := by omega
    have h4 : (k : Int) < (l.length : Int) := by omega
    have h6 : (k : Int) ≤ (cg : Int) := by omega
    try clear cf7
    try clear cf8
    have cf9 := blk2 (Ext.block ((hz1.trans hz2).trans hx) HB0.out.1)
    have cf10 := blk1 (Ext.block ((hz1.trans hz2).trans hx) HB0.out.2)
    go_wp2_with fail
    refine (i_hasInt (l.take k) _ l[k] _ (hqk.ext hx)).mono ?_
    rintro e _ ⟨rfl, rfl⟩
    cases b1 : hasI (l.take k) l[k]
    ·
     have HK2 := Lib.hid (allTo_snoc HK.out (show freshAt l k = true by rw [HAT.out, b1]; rfl))
     go_wp2_with fail
     go_roundg (gk - 1)
     case measure => exact HG.out.2
     case rel => exact ⟨k + 1, HG.out.1, by go_num, HK2, hx⟩
    ·
     have HE := Lib.hid (HNO.out k hlt (by rw [HAT.out, b1]; rfl))
     go_wp2_with fail
     go_ret
     exact ⟨ret_bool HE.out.symm, (((hx0.trans hz1).trans hz2).trans hx)⟩
   ·
    obtain rfl : k = l.length := by omega
    have HE := Lib.hid (HS.out.trans HK.out)
    try clear cf7
    try clear cf8
    have cf11 := blk2 (Ext.block ((hz1.trans hz2).trans hx) HB0.out.1)
    have cf12 := blk1 (Ext.block ((hz1.trans hz2).trans hx) HB0.out.2)
    go_wp2_with fail
    go_ret
    exact ⟨ret_bool HE.out.symm, (((hx0.trans hz1).trans hz2).trans hx)⟩
end
end Go.Proofs.YtikbeiafobnblaaGreat
