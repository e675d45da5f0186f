/- What these laws need: FnFlips, FnForged, FnReplies: Contracts of links, interfaces and failed interfaces of a topology, program and reference. Contracts of the far ends of links, of rows of hop fields and of parts, program and reference. Wherever a packet goes, it passes no interface twice and takes no more steps than its path has hops. A packet set out on a path that every AS permits: it comes to the end, or a hop does not verify or is not in time. Contracts of the tests of parts and paths, program and reference. Contracts of the tests of whole paths: order of parts, interfaces, codes, expiry, program and reference. Contracts of simple, verified and usable paths, program and reference. -/
import Derived.Test.YtjmlicmloacmaaaGreatKR9
import Derived.Test.YtjmlicmloacmaaaGreatKR18
namespace Go.Proofs.YtjmlicmloacmaaaGreat
section
open Go.ChangeShapes Go.WideShapes Go.ChangeAt Go.RowKit Go.Deep
set_option maxHeartbeats 1000000 in
theorem i_usesInterface (x : Lnk) (r d : Int) (w : World) :
  Calls Tryz.prog 261 #[.agg #[.int .i64 x.a, .int .i64 x.ai, .int .i64 x.b, .int .i64 x.bi, .int .i64 x.kind], .int .i64 r, .int .i64 d] w fun e w' => e = .returned (.bool (usesIf x r d)) ∧ Ext w w' := by
 go_enter Tryz.func261, Tryz.ntmps261
 cases h1 : (x.a == r) <;> cases h2 : (x.ai == d) <;> cases h3 : (x.b == r) <;> cases h4 : (x.bi == d)
 all_goals
  go_wp2
  go_ret
  exact ⟨ret_bool (by unfold usesIf; rw [h1, h2, h3, h4]; rfl), (Ext.refl _).alloc _⟩
set_option maxHeartbeats 1000000 in
theorem i_LinkIndex (t : Topo) (v1 v2 : Value) (r d : Int) (w : World) (h2 : RdS Lnk.rep w v2 t.links) :
  Calls Tryz.prog 206 #[.agg #[v1, v2], .int .i64 r, .int .i64 d] w fun e w' => e = .returned (.int .i64 (linkIdx t.links r d)) ∧ Ext w w' := by
 obtain ⟨o, cap, rfl, hsm⟩ := h2.shape
 have hx0 : Ext w (w.alloc (.cells #[v1, .slice o t.links.length cap] 33)) := (Ext.refl _).alloc _
 have hB := blk_new w (.cells #[v1, .slice o t.links.length cap] 33)
 have HB := Lib.hid hB; clear hB
 have hv := h2.ext hx0
 have hLI : linkIdx t.links r d = linkFrom r d 0 t.links := rfl
 have HLI := Lib.hid hLI; clear hLI
 generalize t.links = l at *
 go_enter Tryz.func206, Tryz.ntmps206
 go_wp2
 go_loopg [12] l.length (fun gk i wr => ∃ k : Nat, gk + k = l.length ∧ i = .int .i64 k ∧ Hid (linkFrom r d k (l.drop k) = linkFrom r d 0 l) ∧ Ext (w.alloc (.cells #[v1, .slice o l.length cap] 33)) wr)
 case atStart => exact ⟨0, rfl, rfl, Lib.hid rfl, Ext.refl _⟩
 case round =>
  obtain ⟨k, hgk, rfl, HK, hx⟩ := hrel
  have hc0 := blk2 (Ext.block hx HB.out)
  by_cases hlt : k < l.length
  ·
   obtain ⟨b, off, rfl, hc⟩ := Lnk.at (hv.ext hx) k hlt
   have hg' : gk - 1 + (k + 1) = l.length ∧ gk - 1 < gk := by omega
   have HG := Lib.hid hg'; clear hg' hgk
   go_wp2_with fail
   refine (i_usesInterface l[k] r d _).mono ?_
   rintro e w2 ⟨rfl, k2⟩
   have hx2 := (hx.alloc _).trans k2
   cases hu : usesIf l[k] r d
   ·
    have HK2 := Lib.hid ((linkFrom_no hlt hu).symm.trans HK.out)
    go_wp2_with fail
    go_roundg (gk - 1)
    case measure => exact HG.out.2
    case rel => exact ⟨k + 1, HG.out.1, by go_num, HK2, hx2⟩
   ·
    have HY := Lib.hid ((HLI.out.trans HK.out.symm).trans (linkFrom_yes hlt hu))
    go_wp2_with fail
    go_ret
    exact ⟨ret_int HY.out.symm, hx0.trans hx2⟩
  ·
   have HY := Lib.hid (HLI.out.trans (HK.out.symm.trans (show _ = (-1 : Int) by rw [List.drop_of_length_le (by omega)]; rfl)))
   go_wp2
   go_ret
   exact ⟨ret_int HY.out.symm, hx0.trans hx⟩
end
section
open Go.ChangeShapes Go.WideShapes Go.ChangeAt Go.RowKit Go.Deep
set_option maxHeartbeats 1000000 in
theorem i_RemoteEnd (t : Topo) (v1 v2 : Value) (r d : Int) (w : World) (hk : RdS Lnk.rep w v2 t.links) :
  Calls Tryz.prog 106 #[.agg #[v1, v2], .int .i64 r, .int .i64 d] w fun e w' => e = .returned (.tuple #[.int .i64 (remEnd t r d).1, .int .i64 (remEnd t r d).2]) ∧ Ext w w' := by
 obtain ⟨o, cap, rfl, hsm⟩ := hk.shape
 have hx0 : Ext w (w.alloc (.cells #[v1, .slice o t.links.length cap] 33)) := (Ext.refl _).alloc _
 have HB0 := Lib.hid (blk_new w (.cells #[v1, .slice o t.links.length cap] 33))
 go_enter Tryz.func106, Tryz.ntmps106
 have cf1 := blk2 HB0.out
 go_wp2_with fail
 refine (i_LinkIndex t _ _ r d _ (hk.ext hx0)).mono ?_
 rintro e w1 ⟨rfl, hz1⟩
 have hil := linkIdx_lt t.links r d
 by_cases hn : linkIdx t.links r d < 0
 ·
  have HE := Lib.hid (remEnd_no hn)
  try clear cf1
  have cf2 := blk2 (Ext.block hz1 HB0.out)
  go_wp2_with fail
  go_ret2
  exact ⟨ret_pair HE.out, (hx0.trans hz1)⟩
 ·
  have hin : (linkIdx t.links r d).toNat < t.links.length := by omega
  have HE := Lib.hid (remEnd_at hn hin)
  have hn0 : 0 ≤ linkIdx t.links r d := by omega
  obtain ⟨b, off, rfl, hc⟩ := Lnk.at (hk.ext (hx0.trans hz1)) _ hin
  generalize linkIdx t.links r d = i at *
  generalize t.links[i.toNat] = x at *
  try clear cf1
  have cf3 := blk2 (Ext.block hz1 HB0.out)
  have hx1 : Ext w1 (w1.alloc (.cells #[.int .i64 x.a, .int .i64 x.ai, .int .i64 x.b, .int .i64 x.bi, .int .i64 x.kind] 195)) := (Ext.refl _).alloc _
  have HB1 := Lib.hid (blk_new w1 (.cells #[.int .i64 x.a, .int .i64 x.ai, .int .i64 x.b, .int .i64 x.bi, .int .i64 x.kind] 195))
  cases b1 : (x.a == r) <;> cases b2 : (x.ai == d)
  all_goals
   go_wp2_with fail
   have cl := blk5 HB1.out
   refine wp_region_ext (by kernel_rfl) (by kernel_rfl) ?_
   have q0 := ExtW.cell (cl.1)
   have q1 := ExtW.cell (cl.2.1)
   have q2 := ExtW.cell (cl.2.2.1)
   have q3 := ExtW.cell (cl.2.2.2.1)
   have q4 := ExtW.cell (cl.2.2.2.2)
   repeat (first | go_big_quiet_step (fail) | quiet_step (fail))
   refine wpQuiet_nil ?_
   intro w9 hw9
   have h9 := ExtW.out hw9
   clear hw9 q0 q1 q2 q3 q4 cl
   go_wp2_with fail
   go_ret2
   exact ⟨ret_pair (by rw [HE.out, b1, b2]; rfl), ((hx0.trans hz1).trans hx1).trans h9⟩
set_option maxRecDepth 100000 in
set_option maxHeartbeats 4000000 in
theorem i_hopsOk (t : Topo) (v1 v2 : Value) (l : List Hop) (v : Value) (w : World) (ha : RdS ASd.rep w v1 t.ases) (hv : RdS Hop.rep w v l) :
  Calls Tryz.prog 244 #[.agg #[v1, v2], v] w fun e w' => e = .returned (.bool (hopsOk t l)) ∧ Ext w w' := by
 obtain ⟨o, cap, rfl, hsm⟩ := hv.shape
 have hcap := hv.capLe
 have hx0 : Ext w (w.alloc (.cells #[v1, v2] 33)) := (Ext.refl _).alloc _
 have HB0 := Lib.hid (blk_new w (.cells #[v1, v2] 33))
 go_enter Tryz.func244, Tryz.ntmps244
 have cf1 := blk2 HB0.out
 go_wp2_with fail
 refine (i_InRange _ _ _ _).mono ?_
 rintro e _ ⟨rfl, rfl⟩
 cases hr : inR (l.length : Int) 1 8
 ·
  have HE := Lib.hid (show hopsOk t l = false by unfold hopsOk; rw [hr]; rfl)
  go_wp2_with fail
  go_ret
  exact ⟨ret_bool HE.out.symm, hx0⟩
 ·
  have HL := Lib.hid (show hopsOk t l = allTo (hopFresh t l) l.length by unfold hopsOk; rw [hr]; rfl)
  clear hr
  go_wp2_with fail
  go_loopg [15] l.length (fun gk i wr => ∃ k : Nat, gk + k = l.length ∧ i = .int .i64 k ∧ Hid (allTo (hopFresh t l) k = true) ∧ Ext (w.alloc (.cells #[v1, v2] 33)) wr)
  case atStart => exact ⟨0, rfl, rfl, Lib.hid rfl, Ext.refl _⟩
  case round =>
   obtain ⟨k, hgk, rfl, HK, hx⟩ := hrel
   by_cases hlt : k < l.length
   ·
    have HG := Lib.hid (show gk - 1 + (k + 1) = l.length ∧ gk - 1 < gk by omega); clear hgk
    have HAT := Lib.hid (hopAt_at hlt)
    obtain ⟨b, off, rfl, hc⟩ := Hop.at (hv.ext (hx0.trans hx)) k hlt
    try clear cf1
    have cf2 := blk2 (Ext.block hx HB0.out)
    generalize hlk : l[k] = h at *
    have HLK := Lib.hid hlk; clear hlk
    have hx1 : Ext wr (wr.alloc (.cells #[.int .i64 h.asn, .int .i64 h.ing, .int .i64 h.eg, .int .i64 h.exp, .int .i64 h.mac] 44)) := (Ext.refl _).alloc _
    have HB1 := Lib.hid (blk_new wr (.cells #[.int .i64 h.asn, .int .i64 h.ing, .int .i64 h.eg, .int .i64 h.exp, .int .i64 h.mac] 44))
    go_wp2_with fail
    refine (i_ValidHop h _).mono ?_
    rintro e w2 ⟨rfl, hz2⟩
    cases b1 : validHop h
    ·
     have HE := Lib.hid (HL.out.trans (allTo_no hlt (show hopFresh t l k = false by unfold hopFresh; rw [HAT.out]; rw [b1]; rfl)))
     have cf3 := blk2 (Ext.block ((hx.trans hx1).trans hz2) HB0.out)
     have cf4 := blk5 (Ext.block hz2 HB1.out)
     go_wp2_with fail
     go_ret
     exact ⟨ret_bool HE.out.symm, (((hx0.trans hx).trans hx1).trans hz2)⟩
    ·
     have cf5 := blk2 (Ext.block ((hx.trans hx1).trans hz2) HB0.out)
     have cf6 := blk5 (Ext.block hz2 HB1.out)
     go_wp2_with fail
     refine (i_isAS t _ _ h.asn _ (ha.ext (((hx0.trans hx).trans hx1).trans hz2))).mono ?_
     rintro e w3 ⟨rfl, hz3⟩
     cases b2 : isAs t h.asn
     ·
      have HE := Lib.hid (HL.out.trans (allTo_no hlt (show hopFresh t l k = false by unfold hopFresh; rw [HAT.out]; rw [b1, b2]; rfl)))
      try clear cf5
      try clear cf6
      have cf7 := blk2 (Ext.block (((hx.trans hx1).trans hz2).trans hz3) HB0.out)
      have cf8 := blk5 (Ext.block (hz2.trans hz3) HB1.out)
      go_wp2_with fail
      go_ret
      exact ⟨ret_bool HE.out.symm, ((((hx0.trans hx).trans hx1).trans hz2).trans hz3)⟩
     ·
      try clear cf5
      try clear cf6
      have cf9 := blk2 (Ext.block (((hx.trans hx1).trans hz2).trans hz3) HB0.out)
      have cf10 := blk5 (Ext.block (hz2.trans hz3) HB1.out)
      go_wp2_with fail
      obtain ⟨go, hgo⟩ : ∃ go : Nat, go = gk := ⟨_, rfl⟩
      subst hgo
      obtain ⟨wo, hwo⟩ : ∃ wo : World, wo = wr := ⟨_, rfl⟩
      subst hwo
      have hkc : k ≤ cap := by omega
      go_loopg [34] k (fun gk j ws => ∃ m : Nat, gk + m = k ∧ j = .int .i64 m ∧ Hid (hasI ((l.map (·.asn)).take m) h.asn = false) ∧ Ext w3 ws)
      case atStart => exact ⟨0, rfl, rfl, Lib.hid rfl, Ext.refl _⟩
      case round =>
       obtain ⟨m, hgm, rfl, HM, hy⟩ := hrel
       by_cases hmk : m < k
       ·
        have hml : m < l.length := by omega
        have HG2 := Lib.hid (show gk - 1 + (m + 1) = k ∧ gk - 1 < gk by omega); clear hgm
        obtain ⟨b2, off2, he2, hd⟩ := Hop.at (hv.ext (((((hx0.trans hx).trans hx1).trans hz2).trans hz3).trans hy)) m hml
        cases he2
        have HS := Lib.hid (any_snoc (fun x => x == h.asn) (l := l.map (·.asn)) (k := m) (by simpa using hml))
        try clear cf9
        try clear cf10
        have cf11 := blk2 (Ext.block ((((hx.trans hx1).trans hz2).trans hz3).trans hy) HB0.out)
        have cf12 := blk5 (Ext.block ((hz2.trans hz3).trans hy) HB1.out)
        have cy := blk5 (Ext.block (((hz2.trans hz3).trans hy).trans ((Ext.refl wr).alloc (.cells #[.int .i64 l[m].asn, .int .i64 l[m].ing, .int .i64 l[m].eg, .int .i64 l[m].exp, .int .i64 l[m].mac] 44))) HB1.out)
        cases b3 : (l[m].asn == h.asn)
        ·
         have HM2 := Lib.hid (show hasI ((l.map (·.asn)).take (m + 1)) h.asn = false by unfold hasI at HM ⊢; rw [HS.out, HM.out]; simpa using b3)
         go_wp2_with fail
         go_roundg (gk - 1)
         case measure => exact HG2.out.2
         case rel => exact ⟨m + 1, HG2.out.1, by go_num, HM2, hy.alloc _⟩
        ·
         have HE := Lib.hid (HL.out.trans (allTo_no hlt (show hopFresh t l k = false by unfold hopFresh; rw [HAT.out, b1, b2]; simp only [Bool.true_and, Bool.not_eq_false']; exact List.any_eq_true.2 ⟨l[m].asn, List.mem_take_iff_getElem.2 ⟨m, by simp; omega, by simp⟩, b3⟩)))
         go_wp2_with fail
         go_ret
         exact ⟨ret_bool HE.out.symm, (((((hx0.trans hx).trans hx1).trans hz2).trans hz3).trans hy).alloc _⟩
       ·
        obtain rfl : m = k := by omega
        have HK2 := Lib.hid (allTo_snoc HK.out (show hopFresh t l m = true by unfold hopFresh; rw [HAT.out, b1, b2, HM.out]; rfl))
        go_wp2
        go_roundg (go - 1)
        case measure => exact HG.out.2
        case rel => exact ⟨m + 1, HG.out.1, by go_num, HK2, ((((hx.trans hx1).trans hz2).trans hz3).trans hy)⟩
   ·
    obtain rfl : k = l.length := by omega
    have HE := Lib.hid (HL.out.trans HK.out)
    try clear cf1
    have cf13 := blk2 (Ext.block hx HB0.out)
    go_wp2_with fail
    go_ret
    exact ⟨ret_bool HE.out.symm, (hx0.trans hx)⟩
end
section
open Go.RowKit
/-- A packet's place in its path. -/
def placed (x : Pkt) (j i : Nat) : Pkt := { x with pi := (j : Int), hi := (i : Int) }
theorem chain_of {t : Topo} {ps : List Part} (G : GoodP t ps) : ∀ (n j : Nat) (h : Hop) (hs : List Hop), j + 1 + n = ps.length → (partAt ps j).hops = h :: hs → chain (lastHop h hs) (ps.drop (j + 1))
  | 0, j, h, hs, hn, _ => by rw [List.drop_of_length_le (by omega)]; trivial
  | n + 1, j, h, hs, hn, hh => by
    have hlt : j + 1 < ps.length := by omega
    rw [List.drop_eq_getElem_cons hlt]
    have h1 := G.ne (j + 1) hlt
    have h2 := G.fol j hlt
    have e1 : partAt ps (j + 1) = ps[j + 1] := partAt_at hlt
    cases hc : (partAt ps (j + 1)).hops with
    | nil => rw [hc] at h1; simp at h1
    | cons h0 hs0 =>
      refine ⟨h0, hs0, by rw [← e1]; exact hc, ?_, chain_of G n (j + 1) h0 hs0 (by omega) hc⟩
      rw [hc, hh] at h2
      have h3 : hopAt (h :: hs) ((h :: hs).length - 1) = lastHop h hs := by
        unfold lastHop
        rw [hopAt_at (by simp), List.getLast_eq_getElem]
      rw [h3] at h2
      exact h2.symm
theorem steps_at {t : Topo} {x : Pkt} (G : GoodP t x.path.parts) (hp : 0 < x.path.parts.length) : pathSteps x.path.parts = walkAt (placed x 0 0) 0 := by
  have h0 := G.ne 0 hp
  unfold walkAt restP restH curPart placed
  simp only [Int.toNat_natCast, List.drop_zero]
  cases hc : (partAt x.path.parts 0).hops with
  | nil => rw [hc] at h0; simp at h0
  | cons h hs =>
    have h1 := chain_of G (x.path.parts.length - 1) 0 h hs (by omega) hc
    have h2 : x.path.parts = partAt x.path.parts 0 :: x.path.parts.drop 1 := by
      rw [partAt_at hp]
      exact (List.drop_eq_getElem_cons hp) ▸ (List.drop_zero).symm
    have h3 := steps_walk (partAt x.path.parts 0) (x.path.parts.drop 1) h hs hc h1
    rw [← h2] at h3
    exact h3
end
section
open Go.RowKit
theorem walk_first {t : Topo} : ∀ (n : Nat) (x : Pkt), GoodP t x.path.parts → hasHop x = true → x.path.parts.length ≤ n + x.pi.toNat → ∃ (e : Int) (l : List Step), ∀ inn, walkAt x inn = ⟨curAs x, inn, e⟩ :: l
  | 0, x, _, h, hn => by have := (hasHop_iff.1 h).2.1; omega
  | n + 1, x, G, h, hn => by
    by_cases hl : lastOf x = true
    · by_cases he : x.path.parts.length ≤ x.pi.toNat + 1
      · exact ⟨_, _, fun inn => by rw [walk_end inn h hl he, curAs_of h]⟩
      · have hp := part_pos 0 G h hl (by omega)
        have h0 := (hasHop_iff.1 h).1
        obtain ⟨e, l, hw⟩ := walk_first n { x with pi := x.pi + 1, hi := 0, beta := 0 } G hp.1 (by show x.path.parts.length ≤ n + (x.pi + 1).toNat; omega)
        exact ⟨e, l, fun inn => by rw [walk_part inn 0 h hl (by omega), hw inn, hp.2]⟩
    · exact ⟨_, _, fun inn => by rw [walk_hop inn h hl, curAs_of h]⟩
theorem wHops_all {P : Int → Prop} {cont : Int → Int → Hop → List Step} (hc : ∀ k i h, P h.asn → ∀ s ∈ cont k i h, P s.asn) (k : Int) : ∀ (hs : List Hop) (inn : Int), (∀ h ∈ hs, P h.asn) → ∀ s ∈ wHops cont k inn hs, P s.asn
  | [], _, _, s, hs => by simp [wHops] at hs
  | [h], inn, hh, s, hs => hc k inn h (hh h (by simp)) s hs
  | h :: h' :: l, inn, hh, s, hs => by
    simp only [wHops] at hs
    rcases List.mem_cons.1 hs with rfl | hs
    · exact hh h (by simp)
    · exact wHops_all hc k (h' :: l) _ (fun y hy => hh y (by simp at hy ⊢; exact .inr hy)) s hs
theorem wParts_all {P : Int → Prop} (z : Int → Hop → Int) : ∀ (ps : List Part), (∀ p ∈ ps, ∀ h ∈ p.hops, P h.asn) → ∀ k i h, P h.asn → ∀ s ∈ wParts z ps k i h, P s.asn
  | [], _, k, i, h, hh, s, hs => by
    simp only [wParts, List.mem_singleton] at hs
    rw [hs]; exact hh
  | p :: ps, hp, k, i, h, _, s, hs => by
    unfold wParts at hs
    exact wHops_all (wParts_all z ps (fun q hq => hp q (by simp [hq]))) p.kind p.hops i (hp p (by simp)) s hs
theorem enc_part {p : Pth} (h : encPath p = true) : p.parts.length ≤ 3 ∧ ∀ x ∈ p.parts, encPart x = true := by
  unfold encPath at h
  simp only [Bool.and_eq_true, decide_eq_true_eq, List.all_eq_true] at h
  exact h
theorem enc_hop {x : Part} (h : encPart x = true) : isRes x.beta = true ∧ ∀ y ∈ x.hops, validHop y = true := by
  unfold encPart hopsEnc at h
  simp only [Bool.and_eq_true, decide_eq_true_eq, List.all_eq_true] at h
  exact ⟨h.1.2, h.2.2⟩
theorem failed_none (t : Topo) (r : Int) : failedIfs t [] r = 0 := by
  unfold failedIfs
  generalize topoIfs t.links r = l
  have : ∀ (l : List Int) (s : Int), l.foldl (failStep t [] r) s = s := by
    intro l
    induction l with
    | nil => intro s; rfl
    | cons a l ih => intro s; rw [List.foldl_cons, ih]; simp [failStep, hasI]
  exact this l 0
theorem inSet_zero (e : Int) : inSet 0 e = false := by
  unfold inSet bitAt
  have h : (((0 : Int) / 2 ^ e.toNat) % 2 == 1) = false := by simp
  rw [h]; simp
/-- A packet at the begin of a path. -/
structure Out (t : Topo) (p : Pth) (x : Pkt) : Prop where
  path : x.path = p
  vp : validPkt x = true
  at_ : curAs x = x.src
  beta : betaOk x
  want : wantIn x = 0
  walk : walkAt x 0 = pathSteps p.parts
  dst : ∀ s, (pathSteps p.parts).getLast? = some s → s.asn = x.dst
  has : hasHop x = true
theorem start_ok {t : Topo} {p : Pth} (hs : simple t p = true) (he : encPath p = true) {kind rid seq : Int} {pay : List Int} (h1 : 1 ≤ kind ∧ kind ≤ 3) (h2 : 0 ≤ rid ∧ rid ≤ 100000) (h3 : 0 ≤ seq ∧ seq ≤ 100000) (h4 : pay.length ≤ 40) :
    Out t p (newPkt kind p rid seq pay) := by
  have G := good_of_simple hs
  have hw : wfPath t p = true := by unfold simple at hs; simp only [Bool.and_eq_true] at hs; exact hs.1
  have hlen : 0 < p.parts.length := by unfold wfPath at hw; simp only [Bool.and_eq_true] at hw; have := (inR_true.1 hw.1).1; omega
  obtain ⟨e1, e2⟩ := enc_part he
  have hne := G.ne 0 hlen
  have hh : hasHop (newPkt kind p rid seq pay) = true := hasHop_iff.2 ⟨Int.le_refl _, hlen, Int.le_refl _, hne⟩
  have hwalk : walkAt (newPkt kind p rid seq pay) 0 = pathSteps p.parts := (steps_at (x := newPkt kind p rid seq pay) G hlen).symm
  obtain ⟨eg, l, hf⟩ := walk_first p.parts.length (newPkt kind p rid seq pay) G hh (Nat.le_add_right _ _)
  have hps : pathSteps p.parts = ⟨curAs (newPkt kind p rid seq pay), 0, eg⟩ :: l := by rw [← hwalk]; exact hf 0
  have hpos : 0 < (pathSteps p.parts).length := by rw [hps]; simp
  have hends : ends p.parts = ((pathSteps p.parts)[0].asn, (pathSteps p.parts)[(pathSteps p.parts).length - 1].asn) := endsOf_at hpos
  have hall : ∀ s ∈ pathSteps p.parts, 0 ≤ s.asn ∧ s.asn ≤ 7 := by
    rw [← hwalk]
    unfold walkAt
    have hv : ∀ x ∈ p.parts, ∀ y ∈ x.hops, 0 ≤ y.asn ∧ y.asn ≤ 7 := fun x hx y hy => vh_asn ((enc_hop (e2 x hx)).2 y hy)
    refine wHops_all (P := fun a => 0 ≤ a ∧ a ≤ 7) (wParts_all (P := fun a => 0 ≤ a ∧ a ≤ 7) _ (restP (newPkt kind p rid seq pay)) (fun q hq y hy => hv q (List.mem_of_mem_drop hq) y hy)) _ _ _ (fun y hy => ?_)
    have hm : y ∈ (curPart (newPkt kind p rid seq pay)).hops := List.mem_of_mem_drop hy
    have : curPart (newPkt kind p rid seq pay) = p.parts[0] := partAt_at hlen
    rw [this] at hm
    exact hv _ (List.getElem_mem _) y hm
  have hsrc : (newPkt kind p rid seq pay).src = curAs (newPkt kind p rid seq pay) := by
    show (ends p.parts).1 = _
    rw [hends]
    simp only [hps, List.getElem_cons_zero]
  have hb0 : beta0 p.parts = p.parts[0].beta := beta0_at hlen
  refine ⟨rfl, ?_, hsrc.symm, ?_, by unfold wantIn newPkt; simp, hwalk, fun s hl => ?_, hh⟩
  · unfold validPkt
    have c1 : (newPkt kind p rid seq pay).path.parts.all (fun y => decide (0 < y.hops.length)) = true := by
      rw [List.all_eq_true]
      intro y hy
      obtain ⟨j, hj, rfl⟩ := List.getElem_of_mem hy
      have hj' : j < p.parts.length := hj
      have := G.ne j hj'
      rw [partAt_at hj'] at this
      exact decide_eq_true this
    have c2 : isRes (newPkt kind p rid seq pay).beta = true := by show isRes (beta0 p.parts) = true; rw [hb0]; exact (enc_hop (e2 _ (List.getElem_mem _))).1
    have c3 : 0 ≤ (newPkt kind p rid seq pay).src ∧ (newPkt kind p rid seq pay).src ≤ 7 := by
      show 0 ≤ (ends p.parts).1 ∧ (ends p.parts).1 ≤ 7
      rw [hends]; exact hall _ (List.getElem_mem _)
    have c4 : 0 ≤ (newPkt kind p rid seq pay).dst ∧ (newPkt kind p rid seq pay).dst ≤ 7 := by
      show 0 ≤ (ends p.parts).2 ∧ (ends p.parts).2 ≤ 7
      rw [hends]; exact hall _ (List.getElem_mem _)
    simp only [Bool.and_eq_true, decide_eq_true_eq]
    exact ⟨⟨⟨⟨⟨⟨⟨⟨⟨inR_true.2 h1, he⟩, hh⟩, c2⟩, c1⟩, inR_true.2 c3⟩, inR_true.2 c4⟩, inR_true.2 h2⟩, inR_true.2 h3⟩, h4⟩
  · unfold betaOk
    show beta0 p.parts = betaTo (curPart (newPkt kind p rid seq pay)) 0
    rw [hb0]
    have : curPart (newPkt kind p rid seq pay) = p.parts[0] := partAt_at hlen
    rw [this]; rfl
  · show s.asn = (ends p.parts).2
    rw [hends]
    rw [getLast_at hpos] at hl
    cases hl
    rfl
def allowed (t : Topo) (p : Pth) : Prop := ∀ s ∈ pathSteps p.parts, stepOk t s = true
theorem out_res {t : Topo} {p : Pth} {now : Int} {x : Pkt} (h : Out t p x) (hs : simple t p = true) (ha : allowed t p) :
    ((traverse t now [] x).code = 1 ∧ (traverse t now [] x).steps = pathSteps p.parts ∧ (traverse t now [] x).pkt.path = p) ∨
      ((traverse t now [] x).code = 4 ∧ ∃ j i, validAt p.parts j i ∧ verAt t p.parts j i = false) ∨ ((traverse t now [] x).code = 5 ∧ ∃ j i, validAt p.parts j i ∧ timeAt now p.parts j i = false) := by
  have hp := h.path
  subst hp
  have := trav_res t now [] (fun r eg => by rw [failed_none]; exact inSet_zero eg) 30 x.src 0 x [] h.vp hs h.beta h.at_ h.want.symm (by rw [h.walk]; exact ha) (by rw [h.walk]; exact h.dst) (walk_short 0 hs)
  rw [h.walk, List.nil_append] at this
  exact this
theorem usable_of {t : Topo} {p : Pth} {now : Int} (h : usable t p now = true) : simple t p = true ∧ (∀ j i, validAt p.parts j i → verAt t p.parts j i = true) ∧ (∀ j i, validAt p.parts j i → timeAt now p.parts j i = true) := by
  unfold usable verPath at h
  simp only [Bool.and_eq_true] at h
  obtain ⟨⟨h1, h2⟩, h3⟩ := h
  rw [allTo_true] at h2 h3
  refine ⟨h1, fun j i hv => ?_, fun j i hv => ?_⟩
  · have := h2 j hv.1
    unfold verPart at this
    exact allTo_true.1 this i hv.2
  · have := h3 j hv.1
    unfold partIn' hopsIn at this
    simp only [Bool.and_eq_true, List.all_eq_true] at this
    unfold timeAt
    rw [hopAt_at hv.2]
    simp only [Bool.and_eq_true]
    exact ⟨this.1, this.2 _ (List.getElem_mem _)⟩
end
section
open Go.ChangeShapes Go.WideShapes Go.ChangeAt Go.RowKit Go.Deep
set_option maxRecDepth 100000 in
set_option maxHeartbeats 4000000 in
theorem i_ValidPart (t : Topo) (v1 v2 : Value) (x : Part) (v : Value) (w : World) (ha : RdS ASd.rep w v1 t.ases) (hk : RdS Lnk.rep w v2 t.links) (r : RdS Hop.rep w v x.hops) :
  Calls Tryz.prog 171 #[.agg #[v1, v2], .agg #[.int .i64 x.kind, .int .i64 x.ts, .int .i64 x.beta, v]] w fun e w' => e = .returned (.bool (validPart t x)) ∧ Ext w w' := by
 obtain ⟨o, cap, rfl, hsm⟩ := r.shape
 have hx0 := ext2 w (.cells #[v1, v2] 33) (.cells #[.int .i64 x.kind, .int .i64 x.ts, .int .i64 x.beta, .slice o x.hops.length cap] 47)
 have HB0 := Lib.hid (al2 w (.cells #[v1, v2] 33) (.cells #[.int .i64 x.kind, .int .i64 x.ts, .int .i64 x.beta, .slice o x.hops.length cap] 47))
 go_enter Tryz.func171, Tryz.ntmps171
 have cf1 := blk2 HB0.out.1
 have cf2 := blk4 HB0.out.2
 go_wp2_with fail
 refine (i_InRange _ _ _ _).mono ?_
 rintro e _ ⟨rfl, rfl⟩
 cases bb : inR x.kind 1 4
 ·
  have HE := Lib.hid (validPart_1 (t := t) (x := x) bb)
  go_wp2_with fail
  go_ret
  exact ⟨ret_bool HE.out.symm, hx0⟩
 ·
  have B1 := Lib.hid bb; clear bb
  go_wp2_with fail
  refine (i_hopsOk t _ _ x.hops _ _ (ha.ext hx0) (r.ext hx0)).mono ?_
  rintro e w2 ⟨rfl, hz2⟩
  cases bb : hopsOk t x.hops
  ·
   have HE := Lib.hid (validPart_2 (t := t) (x := x) bb)
   try clear cf1
   try clear cf2
   have cf3 := blk2 (Ext.block hz2 HB0.out.1)
   have cf4 := blk4 (Ext.block hz2 HB0.out.2)
   go_wp2_with fail
   go_ret
   exact ⟨ret_bool HE.out.symm, (hx0.trans hz2)⟩
  ·
   have B2 := Lib.hid bb; clear bb
   try clear cf1
   try clear cf2
   have cf5 := blk2 (Ext.block hz2 HB0.out.1)
   have cf6 := blk4 (Ext.block hz2 HB0.out.2)
   go_wp2_with fail
   refine (i_InRange _ _ _ _).mono ?_
   rintro e _ ⟨rfl, rfl⟩
   cases bb : inR x.ts 0 1000000
   ·
    have HE := Lib.hid (validPart_3 (t := t) (x := x) bb)
    go_wp2_with fail
    go_ret
    exact ⟨ret_bool HE.out.symm, (hx0.trans hz2)⟩
   ·
    have B3 := Lib.hid bb; clear bb
    go_wp2_with fail
    refine (i_isResidue _ _).mono ?_
    rintro e _ ⟨rfl, rfl⟩
    cases bb : isRes x.beta
    ·
     have HE := Lib.hid (validPart_4 (t := t) (x := x) bb)
     go_wp2_with fail
     go_ret
     exact ⟨ret_bool HE.out.symm, (hx0.trans hz2)⟩
    ·
     have B4 := Lib.hid bb; clear bb
     have hlen : 1 ≤ x.hops.length := by
      have h := B2.out
      unfold hopsOk at h
      simp only [Bool.and_eq_true] at h
      have := inR_true.1 h.1
      omega
     go_wp2_with fail
     go_loopg [5] (x.hops.length - 1) (fun gk i wr => ∃ k : Nat, gk + k = x.hops.length - 1 ∧ i = .int .i64 k ∧ Hid (allTo (joinAt t x) k = true) ∧ Ext w2 wr)
     case atStart => exact ⟨0, rfl, rfl, Lib.hid rfl, Ext.refl _⟩
     case round =>
      obtain ⟨k, hgk, rfl, HK, hx⟩ := hrel
      by_cases hlt : (k : Int) < (x.hops.length : Int) - 1
      ·
       have HG := Lib.hid (show gk - 1 + (k + 1) = x.hops.length - 1 ∧ gk - 1 < gk by omega); clear hgk
       have h1 : k < x.hops.length := by omega
       have h2 : k + 1 < x.hops.length := by omega
       have h3 : k < x.hops.length - 1 := by omega
       have HJ := Lib.hid (joinAt_of (t := t) h1 h2)
       try clear cf5
       try clear cf6
       have cf7 := blk2 (Ext.block (hz2.trans hx) HB0.out.1)
       have cf8 := blk4 (Ext.block (hz2.trans hx) HB0.out.2)
       go_wp2_with fail
       refine (i_PartEgress x _ (k : Int) _ (r.ext ((hx0.trans hz2).trans hx))).mono ?_
       rintro e w5 ⟨rfl, hz5⟩
       obtain ⟨b, off, rfl, hc⟩ := Hop.at (r.ext (((hx0.trans hz2).trans hx).trans hz5)) k h1
       obtain ⟨b2, off2, he2, hd⟩ := Hop.at (r.ext (((hx0.trans hz2).trans hx).trans hz5)) (k + 1) h2
       cases he2
       generalize he : partEg x (k : Int) = eg at *
       have HEG := Lib.hid he; clear he
       have h4 : (k : Int) < (x.hops.length : Int) := by omega
       have h5 : (k : Int) + 1 < (x.hops.length : Int) := by omega
       try clear cf7
       try clear cf8
       have cf9 := blk2 (Ext.block ((hz2.trans hx).trans hz5) HB0.out.1)
       have cf10 := blk4 (Ext.block ((hz2.trans hx).trans hz5) HB0.out.2)
       go_wp2_with fail
       refine wp_region_ext (by kernel_rfl) (by kernel_rfl) ?_
       have q0 := ExtW.cell (cf9.1)
       have q1 := ExtW.cell (cf9.2)
       have q2 := ExtW.cell (cf10.1)
       have q3 := ExtW.cell (cf10.2.1)
       have q4 := ExtW.cell (cf10.2.2.1)
       have q5 := ExtW.cell (cf10.2.2.2)
       have q6 := ExtW.cell (hc.1)
       have q7 := ExtW.cell (hc.2.1)
       have q8 := ExtW.cell (hc.2.2.1)
       have q9 := ExtW.cell (hc.2.2.2.1)
       have q10 := ExtW.cell (hc.2.2.2.2)
       have q11 := ExtW.cell (hd.1)
       have q12 := ExtW.cell (hd.2.1)
       have q13 := ExtW.cell (hd.2.2.1)
       have q14 := ExtW.cell (hd.2.2.2.1)
       have q15 := ExtW.cell (hd.2.2.2.2)
       repeat (first | go_big_quiet_step (((first | (go_at_call 106; exact Calls.ext_of (i_RemoteEnd t _ _ x.hops[k].asn eg _ ((hk.ext (((hx0.trans hz2).trans hx).trans hz5)).ext (ExtW.h _))))))) | quiet_step (((first | (go_at_call 106; exact Calls.ext_of (i_RemoteEnd t _ _ x.hops[k].asn eg _ ((hk.ext (((hx0.trans hz2).trans hx).trans hz5)).ext (ExtW.h _))))))))
       refine wpQuiet_nil ?_
       intro w6 hw6
       have hz6 := ExtW.out hw6
       clear hw6 q0 q1 q2 q3 q4 q5 q6 q7 q8 q9 q10 q11 q12 q13 q14 q15
       generalize hR : remEnd t x.hops[k].asn eg = R at *
       have HR := Lib.hid hR; clear hR
       cases b1 : (eg == 0)
       ·
        cases b2 : (R.1 == x.hops[k + 1].asn)
        ·
         have b2' : (R.1 != x.hops[k + 1].asn) = true := by simp only [bne, b2]; rfl
         have HE := Lib.hid (validPart_5 (t := t) h3 (show joinAt t x k = false by rw [HJ.out]; simp only [bne, b1, b2, Bool.not_false, Bool.false_and, Bool.and_false]))
         try clear cf9
         try clear cf10
         have cf11 := blk2 (Ext.block (((hz2.trans hx).trans hz5).trans hz6) HB0.out.1)
         have cf12 := blk4 (Ext.block (((hz2.trans hx).trans hz5).trans hz6) HB0.out.2)
         have cf13 := Hop.at_ext hz6 hc
         have cf14 := Hop.at_ext hz6 hd
         go_wp2_with fail
         go_ret
         exact ⟨ret_bool HE.out.symm, ((((hx0.trans hz2).trans hx).trans hz5).trans hz6)⟩
        ·
         have b2' : (R.1 != x.hops[k + 1].asn) = false := by simp only [bne, b2]; rfl
         try clear cf9
         try clear cf10
         have cf15 := blk2 (Ext.block (((hz2.trans hx).trans hz5).trans hz6) HB0.out.1)
         have cf16 := blk4 (Ext.block (((hz2.trans hx).trans hz5).trans hz6) HB0.out.2)
         have cf17 := Hop.at_ext hz6 hc
         have cf18 := Hop.at_ext hz6 hd
         go_wp2_with fail
         refine (i_PartIngress x _ ((k : Int) + 1) _ (r.ext ((((hx0.trans hz2).trans hx).trans hz5).trans hz6))).mono ?_
         rintro e w7 ⟨rfl, hz7⟩
         cases b3 : (R.2 == partIn x ((k : Int) + 1))
         ·
          have b3' : (R.2 != partIn x ((k : Int) + 1)) = true := by simp only [bne, b3]; rfl
          have HE := Lib.hid (validPart_5 (t := t) h3 (show joinAt t x k = false by rw [HJ.out]; simp only [bne, b1, b2, b3, Bool.not_false, Bool.and_false, Bool.true_and]))
          try clear cf15
          try clear cf16
          try clear cf17
          try clear cf18
          have cf19 := blk2 (Ext.block ((((hz2.trans hx).trans hz5).trans hz6).trans hz7) HB0.out.1)
          have cf20 := blk4 (Ext.block ((((hz2.trans hx).trans hz5).trans hz6).trans hz7) HB0.out.2)
          have cf21 := Hop.at_ext (hz6.trans hz7) hc
          have cf22 := Hop.at_ext (hz6.trans hz7) hd
          go_wp2_with fail
          go_ret
          exact ⟨ret_bool HE.out.symm, (((((hx0.trans hz2).trans hx).trans hz5).trans hz6).trans hz7)⟩
         ·
          have b3' : (R.2 != partIn x ((k : Int) + 1)) = false := by simp only [bne, b3]; rfl
          have HK2 := Lib.hid (allTo_snoc HK.out (show joinAt t x k = true by rw [HJ.out]; simp only [bne, b1, b2, b3]; rfl))
          try clear cf15
          try clear cf16
          try clear cf17
          try clear cf18
          have cf23 := blk2 (Ext.block ((((hz2.trans hx).trans hz5).trans hz6).trans hz7) HB0.out.1)
          have cf24 := blk4 (Ext.block ((((hz2.trans hx).trans hz5).trans hz6).trans hz7) HB0.out.2)
          have cf25 := Hop.at_ext (hz6.trans hz7) hc
          have cf26 := Hop.at_ext (hz6.trans hz7) hd
          go_wp2_with fail
          go_roundg (gk - 1)
          case measure => exact HG.out.2
          case rel => exact ⟨k + 1, HG.out.1, by go_num, HK2, (((hx.trans hz5).trans hz6).trans hz7)⟩
       ·
        have HE := Lib.hid (validPart_5 (t := t) h3 (show joinAt t x k = false by rw [HJ.out]; simp only [bne, b1, Bool.not_true, Bool.false_and]))
        try clear cf9
        try clear cf10
        have cf27 := blk2 (Ext.block (((hz2.trans hx).trans hz5).trans hz6) HB0.out.1)
        have cf28 := blk4 (Ext.block (((hz2.trans hx).trans hz5).trans hz6) HB0.out.2)
        have cf29 := Hop.at_ext hz6 hc
        have cf30 := Hop.at_ext hz6 hd
        go_wp2_with fail
        go_ret
        exact ⟨ret_bool HE.out.symm, ((((hx0.trans hz2).trans hx).trans hz5).trans hz6)⟩
      ·
       obtain rfl : k = x.hops.length - 1 := by omega
       have HE := Lib.hid (show validPart t x = true by unfold validPart; rw [B1.out, B2.out, B3.out, B4.out, HK.out]; rfl)
       have h6 : ¬ (((x.hops.length - 1 : Nat) : Int) < (x.hops.length : Int) - 1) := by omega
       try clear cf5
       try clear cf6
       have cf31 := blk2 (Ext.block (hz2.trans hx) HB0.out.1)
       have cf32 := blk4 (Ext.block (hz2.trans hx) HB0.out.2)
       go_wp2_with fail
       go_ret
       exact ⟨ret_bool HE.out.symm, ((hx0.trans hz2).trans hx)⟩
end
section
open Go.ChangeShapes Go.WideShapes Go.ChangeAt Go.RowKit Go.Deep
set_option maxHeartbeats 400000 in
theorem i_placeOf (k : Int) (w : World) :
  Calls Tryz.prog 172 #[.int .i64 k] w fun e w' => e = .returned (.int .i64 (rank k)) ∧ w = w' := by
 go_enter Tryz.func172, Tryz.ntmps172

 cases b1 : (k == 1) <;> cases b2 : (k == 2) <;> cases b3 : (k == 3)
 all_goals
  go_wp2
  go_ret
  exact ⟨ret_int (by unfold rank; rw [b1, b2, b3]; rfl), rfl⟩
set_option maxRecDepth 100000 in
set_option maxHeartbeats 8000000 in
theorem i_WellFormedPath (t : Topo) (v1 v2 : Value) (p : Pth) (v : Value) (w : World) (ha : RdS ASd.rep w v1 t.ases) (hk : RdS Lnk.rep w v2 t.links) (r : RdS Part.rep w v p.parts) :
  Calls Tryz.prog 62 #[.agg #[v1, v2], .agg #[v]] w fun e w' => e = .returned (.bool (wfPath t p)) ∧ Ext w w' := by
 obtain ⟨o, cap, rfl, hsm⟩ := r.shape
 have hx0 := ext2 w (.cells #[v1, v2] 33) (.cells #[.slice o p.parts.length cap] 26)
 have HB0 := Lib.hid (al2 w (.cells #[v1, v2] 33) (.cells #[.slice o p.parts.length cap] 26))
 go_enter Tryz.func62, Tryz.ntmps62
 have cf1 := blk2 HB0.out.1
 have cf2 := blk1 HB0.out.2
 go_wp2_with fail
 refine (i_InRange _ _ _ _).mono ?_
 rintro e _ ⟨rfl, rfl⟩
 cases bb : inR (p.parts.length : Int) 1 3
 ·
  have HE := Lib.hid (show wfPath t p = false by unfold wfPath; rw [bb]; rfl)
  go_wp2_with fail
  go_ret
  exact ⟨ret_bool HE.out.symm, hx0⟩
 ·
  have HL := Lib.hid (show wfPath t p = allTo (partOk t p.parts) p.parts.length by unfold wfPath; rw [bb]; rfl)
  clear bb
  obtain ⟨W0, hW0⟩ : ∃ W0 : World, W0 = (w.alloc (.cells #[v1, v2] 33)).alloc (.cells #[.slice o p.parts.length cap] 26) := ⟨_, rfl⟩
  rw [← hW0] at hx0 HB0
  go_wp2_with fail
  rw [← hW0]
  clear hW0
  go_loopg [16] p.parts.length (fun gk i wr => ∃ k : Nat, gk + k = p.parts.length ∧ i = .int .i64 k ∧ Hid (allTo (partOk t p.parts) k = true) ∧ Ext W0 wr)
  case atStart => exact ⟨0, rfl, rfl, Lib.hid rfl, Ext.refl _⟩
  case round =>
   obtain ⟨k, hgk, rfl, HK, hx⟩ := hrel
   by_cases hlt : k < p.parts.length
   ·
    have HG := Lib.hid (show gk - 1 + (k + 1) = p.parts.length ∧ gk - 1 < gk by omega); clear hgk
    have HAT := Lib.hid (partAt_at hlt)
    obtain ⟨b, off, oh, ch, rfl, hc, hr⟩ := Part.at (r.ext (hx0.trans hx)) k hlt
    have h4 : (k : Int) < (p.parts.length : Int) := by omega
    try clear cf1
    try clear cf2
    have cf3 := blk2 (Ext.block hx HB0.out.1)
    have cf4 := blk1 (Ext.block hx HB0.out.2)
    have hx1 : Ext wr (wr.alloc (.cells #[.int .i64 p.parts[k].kind, .int .i64 p.parts[k].ts, .int .i64 p.parts[k].beta, .slice oh p.parts[k].hops.length ch] 47)) := (Ext.refl _).alloc _
    have HB1 := Lib.hid (blk_new wr (.cells #[.int .i64 p.parts[k].kind, .int .i64 p.parts[k].ts, .int .i64 p.parts[k].beta, .slice oh p.parts[k].hops.length ch] 47))
    have cf5 := blk2 (Ext.block (hx.trans hx1) HB0.out.1)
    have cf6 := blk1 (Ext.block (hx.trans hx1) HB0.out.2)
    have cf7 := blk4 HB1.out
    have cf8 := Part.at_ext hx1 hc
    go_wp2_with fail
    refine (i_ValidPart t _ _ p.parts[k] _ _ (ha.ext ((hx0.trans hx).trans hx1)) (hk.ext ((hx0.trans hx).trans hx1)) (hr.ext hx1)).mono ?_
    rintro e w1 ⟨rfl, hz1⟩
    cases b1 : validPart t p.parts[k]
    ·
     have HE := Lib.hid (wf_no (t := t) hlt (show partOk t p.parts k = false by unfold partOk; rw [HAT.out, b1]; rfl))
     try clear cf5
     try clear cf6
     try clear cf7
     try clear cf8
     have cf9 := blk2 (Ext.block ((hx.trans hx1).trans hz1) HB0.out.1)
     have cf10 := blk1 (Ext.block ((hx.trans hx1).trans hz1) HB0.out.2)
     have cf11 := blk4 (Ext.block hz1 HB1.out)
     have cf12 := Part.at_ext (hx1.trans hz1) hc
     go_wp2_with fail
     go_ret
     exact ⟨ret_bool HE.out.symm, (((hx0.trans hx).trans hx1).trans hz1)⟩
    ·
     have hl1 := validPart_len b1
     rcases Nat.eq_zero_or_pos k with rfl | hk0
     ·
      have HK2 : Hid (allTo (partOk t p.parts) (0 + 1) = true) := Lib.hid (allTo_snoc rfl (show partOk t p.parts 0 = true by unfold partOk; rw [HAT.out, b1]; rfl))
      try clear cf5
      try clear cf6
      try clear cf7
      try clear cf8
      have cf13 := blk2 (Ext.block ((hx.trans hx1).trans hz1) HB0.out.1)
      have cf14 := blk1 (Ext.block ((hx.trans hx1).trans hz1) HB0.out.2)
      have cf15 := blk4 (Ext.block hz1 HB1.out)
      have cf16 := Part.at_ext (hx1.trans hz1) hc
      go_wp2_with fail
      go_roundg (gk - 1)
      case measure => exact HG.out.2
      case rel => exact ⟨0 + 1, HG.out.1, by go_num, HK2, ((hx.trans hx1).trans hz1)⟩
     ·
      obtain ⟨j, hj⟩ : ∃ j, k = j + 1 := ⟨k - 1, by omega⟩
      have hjl : j < p.parts.length := by omega
      have hvj := partOk_valid HK.out (show j < k by omega) hjl
      have hl2 := validPart_len hvj
      have HJJ := Lib.hid hj
      have hk1 : (0 : Int) < (k : Int) := by omega
      have hw2 : (k : Int) - 1 = (j : Int) := by omega
      obtain ⟨bj, offj, ohj, chj, ej, hd, hrj⟩ := Part.at (r.ext (((hx0.trans hx).trans hx1).trans hz1)) j hjl
      cases ej
      have h7 : (j : Int) < (p.parts.length : Int) := by omega
      have h8 : (0 : Int) ≤ (j : Int) := by omega
      have hl3 : p.parts[j].hops.length - 1 < p.parts[j].hops.length := by omega
      have hl4 : 0 < p.parts[k].hops.length := by omega
      have HF := Lib.hid (followAt_of hj hjl hlt hl3 hl4)
      have hwl : IntKind.i64.wrap ((p.parts[j].hops.length : Int) - 1) = ((p.parts[j].hops.length - 1 : Nat) : Int) := by rw [IntWalk.i64_in _ (by omega)]; omega
      have hl5 : ((p.parts[j].hops.length - 1 : Nat) : Int) < (p.parts[j].hops.length : Int) := by omega
      have hl6 : (0 : Int) ≤ ((p.parts[j].hops.length - 1 : Nat) : Int) := by omega
      have hl7 : (0 : Int) < (p.parts[k].hops.length : Int) := by omega
      clear hj hvj
      obtain ⟨b3, off3, e3, ht3⟩ := Hop.at hrj (p.parts[j].hops.length - 1) hl3
      obtain ⟨b4, off4, e4, ht4⟩ := Hop.at (hr.ext (hx1.trans hz1)) 0 hl4
      cases e3
      cases e4
      simp only [Nat.zero_mul, Nat.add_zero] at ht4
      try clear cf5
      try clear cf6
      try clear cf7
      try clear cf8
      have cf17 := blk2 (Ext.block ((hx.trans hx1).trans hz1) HB0.out.1)
      have cf18 := blk1 (Ext.block ((hx.trans hx1).trans hz1) HB0.out.2)
      have cf19 := blk4 (Ext.block hz1 HB1.out)
      have cf20 := Part.at_ext (hx1.trans hz1) hc
      generalize hlst : p.parts[j].hops.length - 1 = lst at *
      have HLST := Lib.hid hlst; clear hlst
      have hx2 : Ext w1 (w1.alloc (.cells #[.int .i64 p.parts[j].kind, .int .i64 p.parts[j].ts, .int .i64 p.parts[j].beta, .slice (some ⟨b3, off3, none⟩) p.parts[j].hops.length chj] 47)) := (Ext.refl _).alloc _
      have HB2 := Lib.hid (blk_new w1 (.cells #[.int .i64 p.parts[j].kind, .int .i64 p.parts[j].ts, .int .i64 p.parts[j].beta, .slice (some ⟨b3, off3, none⟩) p.parts[j].hops.length chj] 47))
      go_wp2_with fail
      clear hw2
      by_cases hge : rank p.parts[k].kind ≤ rank p.parts[j].kind
      ·
       have hge2 : decide (rank p.parts[k].kind ≤ rank p.parts[j].kind) = true := decide_eq_true hge
       have cf21 := blk2 (Ext.block (((hx.trans hx1).trans hz1).trans hx2) HB0.out.1)
       have cf22 := blk1 (Ext.block (((hx.trans hx1).trans hz1).trans hx2) HB0.out.2)
       have cf23 := blk4 (Ext.block (hz1.trans hx2) HB1.out)
       have cf24 := blk4 HB2.out
       have cf25 := Part.at_ext ((hx1.trans hz1).trans hx2) hc
       have cf26 := Part.at_ext hx2 hd
       have cf27 := Hop.at_ext hx2 ht3
       have cf28 := hop0_ext hx2 ht4
       go_wp2_with fail
       refine wp_region_ext (by kernel_rfl) (by kernel_rfl) ?_
       have q0 := ExtW.cell (cf21.1)
       have q1 := ExtW.cell (cf21.2)
       have q2 := ExtW.cell (cf22)
       have q3 := ExtW.cell (cf23.1)
       have q4 := ExtW.cell (cf23.2.1)
       have q5 := ExtW.cell (cf23.2.2.1)
       have q6 := ExtW.cell (cf23.2.2.2)
       have q7 := ExtW.cell (cf24.1)
       have q8 := ExtW.cell (cf24.2.1)
       have q9 := ExtW.cell (cf24.2.2.1)
       have q10 := ExtW.cell (cf24.2.2.2)
       have q11 := ExtW.cell (cf25.1)
       have q12 := ExtW.cell (cf25.2.1)
       have q13 := ExtW.cell (cf25.2.2.1)
       have q14 := ExtW.cell (cf25.2.2.2)
       have q15 := ExtW.cell (cf26.1)
       have q16 := ExtW.cell (cf26.2.1)
       have q17 := ExtW.cell (cf26.2.2.1)
       have q18 := ExtW.cell (cf26.2.2.2)
       have q19 := ExtW.cell (cf27.1)
       have q20 := ExtW.cell (cf27.2.1)
       have q21 := ExtW.cell (cf27.2.2.1)
       have q22 := ExtW.cell (cf27.2.2.2.1)
       have q23 := ExtW.cell (cf27.2.2.2.2)
       have q24 := ExtW.cell (cf28.1)
       have q25 := ExtW.cell (cf28.2.1)
       have q26 := ExtW.cell (cf28.2.2.1)
       have q27 := ExtW.cell (cf28.2.2.2.1)
       have q28 := ExtW.cell (cf28.2.2.2.2)
       repeat (first | go_big_quiet_step (((first | (go_at_call 172; exact Calls.ext_same (i_placeOf _ _))))) | quiet_step (((first | (go_at_call 172; exact Calls.ext_same (i_placeOf _ _))))))
       refine wpQuiet_nil ?_
       intro w2 hw2
       have hz2 := ExtW.out hw2
       clear hw2 q0 q1 q2 q3 q4 q5 q6 q7 q8 q9 q10 q11 q12 q13 q14 q15 q16 q17 q18 q19 q20 q21 q22 q23 q24 q25 q26 q27 q28
       have HE := Lib.hid (wf_no (t := t) hlt (show partOk t p.parts k = false by unfold partOk; rw [show k - 1 = j by rw [HJJ.out]; rfl, HF.out, decide_eq_false (by omega)]; simp; omega))
       try clear cf21
       try clear cf22
       try clear cf23
       try clear cf24
       try clear cf25
       try clear cf26
       try clear cf27
       try clear cf28
       have cf29 := blk2 (Ext.block ((((hx.trans hx1).trans hz1).trans hx2).trans hz2) HB0.out.1)
       have cf30 := blk1 (Ext.block ((((hx.trans hx1).trans hz1).trans hx2).trans hz2) HB0.out.2)
       have cf31 := blk4 (Ext.block ((hz1.trans hx2).trans hz2) HB1.out)
       have cf32 := blk4 (Ext.block hz2 HB2.out)
       have cf33 := Part.at_ext (((hx1.trans hz1).trans hx2).trans hz2) hc
       have cf34 := Part.at_ext (hx2.trans hz2) hd
       have cf35 := Hop.at_ext (hx2.trans hz2) ht3
       have cf36 := hop0_ext (hx2.trans hz2) ht4
       go_wp2_with fail
       go_ret
       exact ⟨ret_bool HE.out.symm, (((((hx0.trans hx).trans hx1).trans hz1).trans hx2).trans hz2)⟩
      ·
       have hge2 : decide (rank p.parts[k].kind ≤ rank p.parts[j].kind) = false := decide_eq_false hge
       cases b5 : (p.parts[j].hops[lst].asn == p.parts[k].hops[0].asn)
       ·
        have b5' : (p.parts[j].hops[lst].asn != p.parts[k].hops[0].asn) = true := by simp only [bne, b5]; rfl
        have cf37 := blk2 (Ext.block (((hx.trans hx1).trans hz1).trans hx2) HB0.out.1)
        have cf38 := blk1 (Ext.block (((hx.trans hx1).trans hz1).trans hx2) HB0.out.2)
        have cf39 := blk4 (Ext.block (hz1.trans hx2) HB1.out)
        have cf40 := blk4 HB2.out
        have cf41 := Part.at_ext ((hx1.trans hz1).trans hx2) hc
        have cf42 := Part.at_ext hx2 hd
        have cf43 := Hop.at_ext hx2 ht3
        have cf44 := hop0_ext hx2 ht4
        go_wp2_with fail
        refine wp_region_ext (by kernel_rfl) (by kernel_rfl) ?_
        have q0 := ExtW.cell (cf37.1)
        have q1 := ExtW.cell (cf37.2)
        have q2 := ExtW.cell (cf38)
        have q3 := ExtW.cell (cf39.1)
        have q4 := ExtW.cell (cf39.2.1)
        have q5 := ExtW.cell (cf39.2.2.1)
        have q6 := ExtW.cell (cf39.2.2.2)
        have q7 := ExtW.cell (cf40.1)
        have q8 := ExtW.cell (cf40.2.1)
        have q9 := ExtW.cell (cf40.2.2.1)
        have q10 := ExtW.cell (cf40.2.2.2)
        have q11 := ExtW.cell (cf41.1)
        have q12 := ExtW.cell (cf41.2.1)
        have q13 := ExtW.cell (cf41.2.2.1)
        have q14 := ExtW.cell (cf41.2.2.2)
        have q15 := ExtW.cell (cf42.1)
        have q16 := ExtW.cell (cf42.2.1)
        have q17 := ExtW.cell (cf42.2.2.1)
        have q18 := ExtW.cell (cf42.2.2.2)
        have q19 := ExtW.cell (cf43.1)
        have q20 := ExtW.cell (cf43.2.1)
        have q21 := ExtW.cell (cf43.2.2.1)
        have q22 := ExtW.cell (cf43.2.2.2.1)
        have q23 := ExtW.cell (cf43.2.2.2.2)
        have q24 := ExtW.cell (cf44.1)
        have q25 := ExtW.cell (cf44.2.1)
        have q26 := ExtW.cell (cf44.2.2.1)
        have q27 := ExtW.cell (cf44.2.2.2.1)
        have q28 := ExtW.cell (cf44.2.2.2.2)
        repeat (first | go_big_quiet_step (((first | (go_at_call 172; exact Calls.ext_same (i_placeOf _ _))))) | quiet_step (((first | (go_at_call 172; exact Calls.ext_same (i_placeOf _ _))))))
        refine wpQuiet_nil ?_
        intro w3 hw3
        have hz3 := ExtW.out hw3
        clear hw3 q0 q1 q2 q3 q4 q5 q6 q7 q8 q9 q10 q11 q12 q13 q14 q15 q16 q17 q18 q19 q20 q21 q22 q23 q24 q25 q26 q27 q28
        have HE := Lib.hid (wf_no (t := t) hlt (show partOk t p.parts k = false by unfold partOk; rw [show k - 1 = j by rw [HJJ.out]; rfl, HF.out]; simp only [b5]; simp; omega))
        try clear cf37
        try clear cf38
        try clear cf39
        try clear cf40
        try clear cf41
        try clear cf42
        try clear cf43
        try clear cf44
        have cf45 := blk2 (Ext.block ((((hx.trans hx1).trans hz1).trans hx2).trans hz3) HB0.out.1)
        have cf46 := blk1 (Ext.block ((((hx.trans hx1).trans hz1).trans hx2).trans hz3) HB0.out.2)
        have cf47 := blk4 (Ext.block ((hz1.trans hx2).trans hz3) HB1.out)
        have cf48 := blk4 (Ext.block hz3 HB2.out)
        have cf49 := Part.at_ext (((hx1.trans hz1).trans hx2).trans hz3) hc
        have cf50 := Part.at_ext (hx2.trans hz3) hd
        have cf51 := Hop.at_ext (hx2.trans hz3) ht3
        have cf52 := hop0_ext (hx2.trans hz3) ht4
        go_wp2_with fail
        go_ret
        exact ⟨ret_bool HE.out.symm, (((((hx0.trans hx).trans hx1).trans hz1).trans hx2).trans hz3)⟩
       ·
        have b5' : (p.parts[j].hops[lst].asn != p.parts[k].hops[0].asn) = false := by simp only [bne, b5]; rfl
        have cf53 := blk2 (Ext.block (((hx.trans hx1).trans hz1).trans hx2) HB0.out.1)
        have cf54 := blk1 (Ext.block (((hx.trans hx1).trans hz1).trans hx2) HB0.out.2)
        have cf55 := blk4 (Ext.block (hz1.trans hx2) HB1.out)
        have cf56 := blk4 HB2.out
        have cf57 := Part.at_ext ((hx1.trans hz1).trans hx2) hc
        have cf58 := Part.at_ext hx2 hd
        have cf59 := Hop.at_ext hx2 ht3
        have cf60 := hop0_ext hx2 ht4
        go_wp2_with fail
        refine wp_region_ext (by kernel_rfl) (by kernel_rfl) ?_
        have q0 := ExtW.cell (cf53.1)
        have q1 := ExtW.cell (cf53.2)
        have q2 := ExtW.cell (cf54)
        have q3 := ExtW.cell (cf55.1)
        have q4 := ExtW.cell (cf55.2.1)
        have q5 := ExtW.cell (cf55.2.2.1)
        have q6 := ExtW.cell (cf55.2.2.2)
        have q7 := ExtW.cell (cf56.1)
        have q8 := ExtW.cell (cf56.2.1)
        have q9 := ExtW.cell (cf56.2.2.1)
        have q10 := ExtW.cell (cf56.2.2.2)
        have q11 := ExtW.cell (cf57.1)
        have q12 := ExtW.cell (cf57.2.1)
        have q13 := ExtW.cell (cf57.2.2.1)
        have q14 := ExtW.cell (cf57.2.2.2)
        have q15 := ExtW.cell (cf58.1)
        have q16 := ExtW.cell (cf58.2.1)
        have q17 := ExtW.cell (cf58.2.2.1)
        have q18 := ExtW.cell (cf58.2.2.2)
        have q19 := ExtW.cell (cf59.1)
        have q20 := ExtW.cell (cf59.2.1)
        have q21 := ExtW.cell (cf59.2.2.1)
        have q22 := ExtW.cell (cf59.2.2.2.1)
        have q23 := ExtW.cell (cf59.2.2.2.2)
        have q24 := ExtW.cell (cf60.1)
        have q25 := ExtW.cell (cf60.2.1)
        have q26 := ExtW.cell (cf60.2.2.1)
        have q27 := ExtW.cell (cf60.2.2.2.1)
        have q28 := ExtW.cell (cf60.2.2.2.2)
        repeat (first | go_big_quiet_step (((first | (go_at_call 172; exact Calls.ext_same (i_placeOf _ _))))) | quiet_step (((first | (go_at_call 172; exact Calls.ext_same (i_placeOf _ _))))))
        refine wpQuiet_nil ?_
        intro w4 hw4
        have hz4 := ExtW.out hw4
        clear hw4 q0 q1 q2 q3 q4 q5 q6 q7 q8 q9 q10 q11 q12 q13 q14 q15 q16 q17 q18 q19 q20 q21 q22 q23 q24 q25 q26 q27 q28
        have HK2 := Lib.hid (allTo_snoc HK.out (show partOk t p.parts k = true by unfold partOk; rw [show k - 1 = j by rw [HJJ.out]; rfl, HAT.out, b1, HF.out]; simp only [b5, decide_eq_true (show rank p.parts[j].kind < rank p.parts[k].kind by omega)]; simp))
        try clear cf53
        try clear cf54
        try clear cf55
        try clear cf56
        try clear cf57
        try clear cf58
        try clear cf59
        try clear cf60
        have cf61 := blk2 (Ext.block ((((hx.trans hx1).trans hz1).trans hx2).trans hz4) HB0.out.1)
        have cf62 := blk1 (Ext.block ((((hx.trans hx1).trans hz1).trans hx2).trans hz4) HB0.out.2)
        have cf63 := blk4 (Ext.block ((hz1.trans hx2).trans hz4) HB1.out)
        have cf64 := blk4 (Ext.block hz4 HB2.out)
        have cf65 := Part.at_ext (((hx1.trans hz1).trans hx2).trans hz4) hc
        have cf66 := Part.at_ext (hx2.trans hz4) hd
        have cf67 := Hop.at_ext (hx2.trans hz4) ht3
        have cf68 := hop0_ext (hx2.trans hz4) ht4
        go_wp2_with fail
        go_roundg (gk - 1)
        case measure => exact HG.out.2
        case rel => exact ⟨k + 1, HG.out.1, by go_num, HK2, ((((hx.trans hx1).trans hz1).trans hx2).trans hz4)⟩
   ·
    obtain rfl : k = p.parts.length := by omega
    have HE := Lib.hid (HL.out.trans HK.out)
    try clear cf1
    try clear cf2
    have cf69 := blk2 (Ext.block hx HB0.out.1)
    have cf70 := blk1 (Ext.block hx HB0.out.2)
    go_wp2_with fail
    go_ret
    exact ⟨ret_bool HE.out.symm, (hx0.trans hx)⟩
end
section
open Go.ChangeShapes Go.WideShapes Go.ChangeAt Go.RowKit Go.Deep
set_option maxRecDepth 100000 in
set_option maxHeartbeats 4000000 in
theorem i_SimplePath (t : Topo) (v1 v2 : Value) (p : Pth) (v : Value) (w : World) (ha : RdS ASd.rep w v1 t.ases) (hk : RdS Lnk.rep w v2 t.links) (r : RdS Part.rep w v p.parts) (hl : p.size ≤ 1048576) :
  Calls Tryz.prog 104 #[.agg #[v1, v2], .agg #[v]] w fun e w' => e = .returned (.bool (simple t p)) ∧ Ext w w' := by
 obtain ⟨o, cap, rfl, hsm⟩ := r.shape
 have hx0 := ext2 w (.cells #[v1, v2] 33) (.cells #[.slice o p.parts.length cap] 26)
 have HB0 := Lib.hid (al2 w (.cells #[v1, v2] 33) (.cells #[.slice o p.parts.length cap] 26))
 go_enter Tryz.func104, Tryz.ntmps104
 have cf1 := blk2 HB0.out.1
 have cf2 := blk1 HB0.out.2
 go_wp2_with fail
 refine (i_WellFormedPath t _ _ p _ _ (ha.ext hx0) (hk.ext hx0) (r.ext hx0)).mono ?_
 rintro e w1 ⟨rfl, hz1⟩
 cases bb : wfPath t p
 ·
  have HE := Lib.hid (show simple t p = false by unfold simple; rw [bb]; rfl)
  try clear cf1
  try clear cf2
  have cf3 := blk2 (Ext.block hz1 HB0.out.1)
  have cf4 := blk1 (Ext.block hz1 HB0.out.2)
  go_wp2_with fail
  go_ret
  exact ⟨ret_bool HE.out.symm, (hx0.trans hz1)⟩
 ·
  have HS := Lib.hid (show simple t p = allTo (freshAt (usedIfs (pathSteps p.parts))) (usedIfs (pathSteps p.parts)).length by unfold simple; rw [bb]; rfl)
  have hul := usedIfs_len (pathSteps p.parts)
  have hpl := pathSteps_len p.parts
  have HNO := Lib.hid (fun (k : Nat) => simple_no (t := t) (p := p) (k := k))
  clear bb
  try clear cf1
  try clear cf2
  have cf5 := blk2 (Ext.block hz1 HB0.out.1)
  have cf6 := blk1 (Ext.block hz1 HB0.out.2)
  go_wp2_with fail
  refine (i_InterfacesUsed p _ _ (r.ext (hx0.trans hz1)) hl).mono ?_
  rintro e w2 ⟨u, rfl, oq, hz2⟩
  generalize usedIfs (pathSteps p.parts) = l at *
  obtain ⟨og, cg, rfl, _⟩ := (ints_rep oq).shape
  have hcg := (ints_rep oq).capLe
  have hqr := ints_rep oq
  clear oq
  try clear cf5
  try clear cf6
  have cf7 := blk2 (Ext.block (hz1.trans hz2) HB0.out.1)
  have cf8 := blk1 (Ext.block (hz1.trans hz2) HB0.out.2)
  go_wp2_with fail
  go_loopg [16] l.length (fun gk i wr => ∃ k : Nat, gk + k = l.length ∧ i = .int .i64 k ∧ Hid (allTo (freshAt l) k = true) ∧ Ext w2 wr)
  case atStart => exact ⟨0, rfl, rfl, Lib.hid rfl, Ext.refl _⟩
  case round =>
   obtain ⟨k, hgk, rfl, HK, hx⟩ := hrel
   by_cases hlt : k < l.length
   ·
    have HG := Lib.hid (show gk - 1 + (k + 1) = l.length ∧ gk - 1 < gk by omega); clear hgk
    have HAT := Lib.hid (freshAt_at hlt)
    obtain ⟨bq, oq, rfl, hq⟩ := ints_at (hqr.ext hx) k hlt
    have hqk := RdS.upto hqr k (by omega)
    have hkc : k ≤ cg := by omega
    have h4 : (k : Int) < (l.length : Int) := by omega
    have h6 : (k : Int) ≤ (cg : Int) := by omega
    try clear cf7
    try clear cf8
    have cf9 := blk2 (Ext.block ((hz1.trans hz2).trans hx) HB0.out.1)
    have cf10 := blk1 (Ext.block ((hz1.trans hz2).trans hx) HB0.out.2)
    go_wp2_with fail
    refine (i_hasInt (l.take k) _ l[k] _ (hqk.ext hx)).mono ?_
    rintro e _ ⟨rfl, rfl⟩
    cases b1 : hasI (l.take k) l[k]
    ·
     have HK2 := Lib.hid (allTo_snoc HK.out (show freshAt l k = true by rw [HAT.out, b1]; rfl))
     go_wp2_with fail
     go_roundg (gk - 1)
     case measure => exact HG.out.2
     case rel => exact ⟨k + 1, HG.out.1, by go_num, HK2, hx⟩
    ·
     have HE := Lib.hid (HNO.out k hlt (by rw [HAT.out, b1]; rfl))
     go_wp2_with fail
     go_ret
     exact ⟨ret_bool HE.out.symm, (((hx0.trans hz1).trans hz2).trans hx)⟩
   ·
    obtain rfl : k = l.length := by omega
    have HE := Lib.hid (HS.out.trans HK.out)
    try clear cf7
    try clear cf8
    have cf11 := blk2 (Ext.block ((hz1.trans hz2).trans hx) HB0.out.1)
    have cf12 := blk1 (Ext.block ((hz1.trans hz2).trans hx) HB0.out.2)
    go_wp2_with fail
    go_ret
    exact ⟨ret_bool HE.out.symm, (((hx0.trans hz1).trans hz2).trans hx)⟩
end
end Go.Proofs.YtjmlicmloacmaaaGreat
