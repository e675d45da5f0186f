/- Contracts of simple, verified and usable paths, program and reference. No condition but the bounds that each theorem names. -/
import Derived.Test.YtiabfgebfjmplaaGreatW22v
import Derived.Test.YtiabfgebfjmplaaGreatW30p
namespace Go.Proofs.YtiabfgebfjmplaaGreat
open Go.ChangeShapes Go.WideShapes Go.ChangeAt Go.RowKit Go.Deep

theorem wf_len {t : Topo} {p : Pth} (h : wfPath t p = true) : 1 ≤ p.parts.length ∧ p.parts.length ≤ 3 := by
  unfold wfPath at h
  simp only [Bool.and_eq_true] at h
  have := inR_true.1 h.1
  omega
theorem simple_no {t : Topo} {p : Pth} {k : Nat} (hk : k < (usedIfs (pathSteps p.parts)).length) (h : freshAt (usedIfs (pathSteps p.parts)) k = false) : simple t p = false := by unfold simple; rw [allTo_no hk h]; simp
theorem verPart_no {t : Topo} {x : Part} {k : Nat} (hk : k < x.hops.length) (h : verHop t x.ts (betaFor x k) x.hops[k] = false) : verPart t x = false := by
  unfold verPart; exact allTo_no hk (by rw [hopAt_at hk]; exact h)
theorem verPath_no {t : Topo} {p : Pth} {k : Nat} (hk : k < p.parts.length) (h : verPart t p.parts[k] = false) : verPath t p = false := by
  unfold verPath; exact allTo_no hk (by rw [partAt_at hk]; exact h)
theorem usable_no {t : Topo} {p : Pth} {now : Int} {k : Nat} (hk : k < p.parts.length) (h : partIn' now p.parts[k] = false) : usable t p now = false := by
  unfold usable; rw [allTo_no hk (by rw [partAt_at hk]; exact h)]; simp
theorem revPath_sizeB (x : Pth) : (revPath x).size = x.size := by unfold Pth.size revPath; dsimp only; rw [revParts_len, revParts_hops]
def bidir (t : Topo) (p : Pth) (now : Int) : Bool := usable t p now && usable t (revPath p) now






set_option maxRecDepth 100000 in
set_option maxHeartbeats 4000000 in
theorem i_SimplePath (t : Topo) (v1 v2 : Value) (p : Pth) (v : Value) (w : World) (ha : RdS ASd.rep w v1 t.ases) (hk : RdS Lnk.rep w v2 t.links) (r : RdS Part.rep w v p.parts) (hl : p.size ≤ 1048576) :
    Calls Tryz.prog 118 #[.agg #[v1, v2], .agg #[v]] w fun e w' => e = .returned (.bool (simple t p)) ∧ Ext w w' := by
  obtain ⟨o, cap, rfl, hsm⟩ := r.shape
  have hx0 := ext2 w (.cells #[v1, v2] 47) (.cells #[.slice o p.parts.length cap] 38)
  have HB0 := Lib.hid (al2 w (.cells #[v1, v2] 47) (.cells #[.slice o p.parts.length cap] 38))
  go_enter Tryz.func118, Tryz.ntmps118
  have cf1 := blk2 HB0.out.1
  have cf2 := blk1 HB0.out.2
  go_wp2_with fail
  refine (i_WellFormedPath t _ _ p _ _ (ha.ext hx0) (hk.ext hx0) (r.ext hx0)).mono ?_
  rintro e w1 ⟨rfl, hz1⟩
  cases bb : wfPath t p
  · have HE := Lib.hid (show simple t p = false by unfold simple; rw [bb]; rfl)
    try clear cf1
    try clear cf2
    have cf3 := blk2 (Ext.block hz1 HB0.out.1)
    have cf4 := blk1 (Ext.block hz1 HB0.out.2)
    go_wp2_with fail
    go_ret
    exact ⟨ret_bool HE.out.symm, (hx0.trans hz1)⟩
  · have HS := Lib.hid (show simple t p = allTo (freshAt (usedIfs (pathSteps p.parts))) (usedIfs (pathSteps p.parts)).length by unfold simple; rw [bb]; rfl)
    have hul := usedIfs_len (pathSteps p.parts)
    have hpl := pathSteps_len p.parts
    have HNO := Lib.hid (fun (k : Nat) => simple_no (t := t) (p := p) (k := k))
    clear bb
    try clear cf1
    try clear cf2
    have cf5 := blk2 (Ext.block hz1 HB0.out.1)
    have cf6 := blk1 (Ext.block hz1 HB0.out.2)
    go_wp2_with fail
    refine (i_InterfacesUsed p _ _ (r.ext (hx0.trans hz1)) hl).mono ?_
    rintro e w2 ⟨u, rfl, oq, hz2⟩
    generalize usedIfs (pathSteps p.parts) = l at *
    obtain ⟨og, cg, rfl, _⟩ := (ints_rep oq).shape
    have hcg := (ints_rep oq).capLe
    have hqr := ints_rep oq
    clear oq
    try clear cf5
    try clear cf6
    have cf7 := blk2 (Ext.block (hz1.trans hz2) HB0.out.1)
    have cf8 := blk1 (Ext.block (hz1.trans hz2) HB0.out.2)
    go_wp2_with fail
    go_loopg [16] l.length (fun gk i wr => ∃ k : Nat, gk + k = l.length ∧ i = .int .i64 k ∧ Hid (allTo (freshAt l) k = true) ∧ Ext w2 wr)
    case atStart => exact ⟨0, rfl, rfl, Lib.hid rfl, Ext.refl _⟩
    case round =>
      obtain ⟨k, hgk, rfl, HK, hx⟩ := hrel
      by_cases hlt : k < l.length
      · have HG := Lib.hid (show gk - 1 + (k + 1) = l.length ∧ gk - 1 < gk by omega); clear hgk
        have HAT := Lib.hid (freshAt_at hlt)
        obtain ⟨bq, oq, rfl, hq⟩ := ints_at (hqr.ext hx) k hlt
        have hqk := RdS.upto hqr k (by omega)
        have hkc : k ≤ cg := by omega
        have h4 : (k : Int) < (l.length : Int) := by omega
        have h6 : (k : Int) ≤ (cg : Int) := by omega
        try clear cf7
        try clear cf8
        have cf9 := blk2 (Ext.block ((hz1.trans hz2).trans hx) HB0.out.1)
        have cf10 := blk1 (Ext.block ((hz1.trans hz2).trans hx) HB0.out.2)
        go_wp2_with fail
        refine (i_hasInt (l.take k) _ l[k] _ (hqk.ext hx)).mono ?_
        rintro e _ ⟨rfl, rfl⟩
        cases b1 : hasI (l.take k) l[k]
        · have HK2 := Lib.hid (allTo_snoc HK.out (show freshAt l k = true by rw [HAT.out, b1]; rfl))
          go_wp2_with fail
          go_roundg (gk - 1)
          case measure => exact HG.out.2
          case rel => exact ⟨k + 1, HG.out.1, by go_num, HK2, hx⟩
        · have HE := Lib.hid (HNO.out k hlt (by rw [HAT.out, b1]; rfl))
          go_wp2_with fail
          go_ret
          exact ⟨ret_bool HE.out.symm, (((hx0.trans hz1).trans hz2).trans hx)⟩
      · obtain rfl : k = l.length := by omega
        have HE := Lib.hid (HS.out.trans HK.out)
        try clear cf7
        try clear cf8
        have cf11 := blk2 (Ext.block ((hz1.trans hz2).trans hx) HB0.out.1)
        have cf12 := blk1 (Ext.block ((hz1.trans hz2).trans hx) HB0.out.2)
        go_wp2_with fail
        go_ret
        exact ⟨ret_bool HE.out.symm, (((hx0.trans hz1).trans hz2).trans hx)⟩

set_option maxRecDepth 100000 in
set_option maxHeartbeats 4000000 in
theorem s_SimplePath (t : Topo) (v1 v2 : Value) (p : Pth) (v : Value) (w : World) (ha : RdS ASd.rep w v1 t.ases) (hk : RdS Lnk.rep w v2 t.links) (r : RdS Part.rep w v p.parts) (hl : p.size ≤ 1048576) :
    Calls Tryz.prog 69 #[.agg #[v1, v2], .agg #[v]] w fun e w' => e = .returned (.bool (simple t p)) ∧ Ext w w' := by
  obtain ⟨o, cap, rfl, hsm⟩ := r.shape
  have hx0 := ext2 w (.cells #[v1, v2] 47) (.cells #[.slice o p.parts.length cap] 38)
  have HB0 := Lib.hid (al2 w (.cells #[v1, v2] 47) (.cells #[.slice o p.parts.length cap] 38))
  go_enter Tryz.func69, Tryz.ntmps69
  have cf1 := blk2 HB0.out.1
  have cf2 := blk1 HB0.out.2
  go_wp2_with fail
  refine (s_WellFormedPath t _ _ p _ _ (ha.ext hx0) (hk.ext hx0) (r.ext hx0)).mono ?_
  rintro e w1 ⟨rfl, hz1⟩
  cases bb : wfPath t p
  · have HE := Lib.hid (show simple t p = false by unfold simple; rw [bb]; rfl)
    try clear cf1
    try clear cf2
    have cf3 := blk2 (Ext.block hz1 HB0.out.1)
    have cf4 := blk1 (Ext.block hz1 HB0.out.2)
    go_wp2_with fail
    go_ret
    exact ⟨ret_bool HE.out.symm, (hx0.trans hz1)⟩
  · have HS := Lib.hid (show simple t p = allTo (freshAt (usedIfs (pathSteps p.parts))) (usedIfs (pathSteps p.parts)).length by unfold simple; rw [bb]; rfl)
    have hul := usedIfs_len (pathSteps p.parts)
    have hpl := pathSteps_len p.parts
    have HNO := Lib.hid (fun (k : Nat) => simple_no (t := t) (p := p) (k := k))
    clear bb
    try clear cf1
    try clear cf2
    have cf5 := blk2 (Ext.block hz1 HB0.out.1)
    have cf6 := blk1 (Ext.block hz1 HB0.out.2)
    go_wp2_with fail
    refine (s_InterfacesUsed p _ _ (r.ext (hx0.trans hz1)) hl).mono ?_
    rintro e w2 ⟨u, rfl, oq, hz2⟩
    generalize usedIfs (pathSteps p.parts) = l at *
    obtain ⟨og, cg, rfl, _⟩ := (ints_rep oq).shape
    have hcg := (ints_rep oq).capLe
    have hqr := ints_rep oq
    clear oq
    try clear cf5
    try clear cf6
    have cf7 := blk2 (Ext.block (hz1.trans hz2) HB0.out.1)
    have cf8 := blk1 (Ext.block (hz1.trans hz2) HB0.out.2)
    go_wp2_with fail
    go_loopg [6] l.length (fun gk i wr => ∃ k : Nat, gk + k = l.length ∧ i = .int .i64 k ∧ Hid (allTo (freshAt l) k = true) ∧ Ext w2 wr)
    case atStart => exact ⟨0, rfl, rfl, Lib.hid rfl, Ext.refl _⟩
    case round =>
      obtain ⟨k, hgk, rfl, HK, hx⟩ := hrel
      by_cases hlt : k < l.length
      · have HG := Lib.hid (show gk - 1 + (k + 1) = l.length ∧ gk - 1 < gk by omega); clear hgk
        have HAT := Lib.hid (freshAt_at hlt)
        obtain ⟨bq, oq, rfl, hq⟩ := ints_at (hqr.ext hx) k hlt
        have hqk := RdS.upto hqr k (by omega)
        have hkc : k ≤ cg := by omega
        have h4 : (k : Int) < (l.length : Int) := by omega
        have h6 : (k : Int) ≤ (cg : Int) := by omega
        try clear cf7
        try clear cf8
        have cf9 := blk2 (Ext.block ((hz1.trans hz2).trans hx) HB0.out.1)
        have cf10 := blk1 (Ext.block ((hz1.trans hz2).trans hx) HB0.out.2)
        go_wp2_with fail
        refine wp_region_ext (by kernel_rfl) (by kernel_rfl) ?_
        have q0 := ExtW.cell (cf9.1)
        have q1 := ExtW.cell (cf9.2)
        have q2 := ExtW.cell (cf10)
        have q3 := ExtW.cell (hq)
        repeat (first | go_big_quiet_step (((first | (go_at_call 83; exact Calls.ext_same (s_l9Has (l.take k) _ l[k] _ ((hqk.ext hx).ext (ExtW.h _))))))) | quiet_step (((first | (go_at_call 83; exact Calls.ext_same (s_l9Has (l.take k) _ l[k] _ ((hqk.ext hx).ext (ExtW.h _))))))))
        refine wpQuiet_nil ?_
        intro w3 hw3
        have hz3 := ExtW.out hw3
        clear hw3 q0 q1 q2 q3
        cases b1 : hasI (l.take k) l[k]
        · have HK2 := Lib.hid (allTo_snoc HK.out (show freshAt l k = true by rw [HAT.out, b1]; rfl))
          try clear cf9
          try clear cf10
          have cf11 := blk2 (Ext.block (((hz1.trans hz2).trans hx).trans hz3) HB0.out.1)
          have cf12 := blk1 (Ext.block (((hz1.trans hz2).trans hx).trans hz3) HB0.out.2)
          have cf13 := Ext.cell hz3 hq
          go_wp2_with fail
          go_roundg (gk - 1)
          case measure => exact HG.out.2
          case rel => exact ⟨k + 1, HG.out.1, by go_num, HK2, (hx.trans hz3)⟩
        · have HE := Lib.hid (HNO.out k hlt (by rw [HAT.out, b1]; rfl))
          try clear cf9
          try clear cf10
          have cf14 := blk2 (Ext.block (((hz1.trans hz2).trans hx).trans hz3) HB0.out.1)
          have cf15 := blk1 (Ext.block (((hz1.trans hz2).trans hx).trans hz3) HB0.out.2)
          have cf16 := Ext.cell hz3 hq
          go_wp2_with fail
          go_ret
          exact ⟨ret_bool HE.out.symm, ((((hx0.trans hz1).trans hz2).trans hx).trans hz3)⟩
      · obtain rfl : k = l.length := by omega
        have HE := Lib.hid (HS.out.trans HK.out)
        try clear cf7
        try clear cf8
        have cf17 := blk2 (Ext.block ((hz1.trans hz2).trans hx) HB0.out.1)
        have cf18 := blk1 (Ext.block ((hz1.trans hz2).trans hx) HB0.out.2)
        go_wp2_with fail
        go_ret
        exact ⟨ret_bool HE.out.symm, (((hx0.trans hz1).trans hz2).trans hx)⟩


set_option maxHeartbeats 400000 in
theorem s_HopValidAt (h : Hop) (now : Int) (w : World) :
    Calls Tryz.prog 149 #[.agg #[.int .i64 h.asn, .int .i64 h.ing, .int .i64 h.eg, .int .i64 h.exp, .int .i64 h.mac], .int .i64 now] w fun e w' => e = .returned (.bool (decide (now ≤ h.exp))) ∧ Ext w w' := by
  go_enter Tryz.func149, Tryz.ntmps149

  go_wp2
  go_ret
  exact ⟨rfl, (Ext.refl _).alloc _⟩

set_option maxHeartbeats 400000 in
theorem i_HopValidAt (h : Hop) (now : Int) (w : World) :
    Calls Tryz.prog 175 #[.agg #[.int .i64 h.asn, .int .i64 h.ing, .int .i64 h.eg, .int .i64 h.exp, .int .i64 h.mac], .int .i64 now] w fun e w' => e = .returned (.bool (decide (now ≤ h.exp))) ∧ Ext w w' := by
  go_enter Tryz.func175, Tryz.ntmps175

  go_wp2
  go_ret
  exact ⟨rfl, (Ext.refl _).alloc _⟩





end Go.Proofs.YtiabfgebfjmplaaGreat
