/- What these laws need: FnReplies: Contracts of links, interfaces and failed interfaces of a topology, program and reference. Wherever a packet goes, it passes no interface twice and takes no more steps than its path has hops. A packet set out on a path that every AS permits: it comes to the end, or a hop does not verify or is not in time. Whether all steps of a path are allowed, program. Paths turned around: twice is once none; what is usable stays so; the steps come back to front. -/
import Derived.Test.YtikbeiafobnblaaGreatKR33
import Derived.Test.YtikbeiafobnblaaGreatKR44
import Derived.Test.YtikbeiafobnblaaGreatKR65
import Derived.Test.YtikbeiafobnblaaGreatKR66
namespace Go.Proofs.YtikbeiafobnblaaGreat
section
open Go.ChangeShapes Go.WideShapes Go.ChangeAt Go.RowKit Go.Deep
theorem addEl_no1 {s i : Int} (h : inR s 0 65535 = false) : addEl s i = s := by simp [addEl, h]
theorem addEl_no2 {s i : Int} (h : inR i 0 15 = false) : addEl s i = s := by simp [addEl, h]
theorem addEl_yes {s i : Int} (h : inR s 0 65535 = true) (h2 : inR i 0 15 = true) : addEl s i = orI s (2 ^ i.toNat) := by simp [addEl, h, h2]
set_option maxRecDepth 100000 in
set_option maxHeartbeats 2000000 in
theorem i_Interfaces (t : Topo) (v1 v2 : Value) (r : Int) (w : World) (h2 : RdS Lnk.rep w v2 t.links) (hl : t.links.length ≤ 1048576) :
  Calls Tryz.prog 203 #[.agg #[v1, v2], .int .i64 r] w fun e w' => ∃ v', e = .returned v' ∧ OwnF intF 1 w.heap.size 3 w' v' (topoIfs t.links r) ∧ Ext w w' := by
 obtain ⟨o, cap, rfl, hsm⟩ := h2.shape
 have hx0 : Ext w (w.alloc (.cells #[v1, .slice o t.links.length cap] 33)) := (Ext.refl _).alloc _
 have hB := blk_new w (.cells #[v1, .slice o t.links.length cap] 33)
 have ho0 := OwnF.nil intF 1 w.heap.size 3 (w.alloc (.cells #[v1, .slice o t.links.length cap] 33))
 have HB := Lib.hid hB; clear hB
 have hv := h2.ext hx0
 have hTI : topoIfs t.links r = t.links.foldl (ifStep r) [] := rfl
 have HTI := Lib.hid hTI; clear hTI
 generalize t.links = l at *
 go_enter Tryz.func203, Tryz.ntmps203
 go_wp2
 go_loopg [5, 11] l.length (fun gk out i wr => ∃ (k : Nat) (xs : List Int), gk + k = l.length ∧ i = .int .i64 k ∧ Hid (xs = (l.take k).foldl (ifStep r) []) ∧ xs.length ≤ 2 * k ∧ OwnF intF 1 w.heap.size 3 wr out xs ∧ Ext (w.alloc (.cells #[v1, .slice o l.length cap] 33)) wr)
 case atStart => exact ⟨0, [], rfl, rfl, Lib.hid rfl, Nat.le_refl _, ho0, Ext.refl _⟩
 case round =>
  obtain ⟨k, xs, hgk, rfl, HX, hxl, hown, hx⟩ := hrel
  have hc0 := blk2 (Ext.block hx HB.out)
  obtain ⟨oo, co, rfl, _⟩ := (ints_rep hown).shape
  have hsz := hown
  by_cases hlt : k < l.length
  ·
   obtain ⟨b, off, rfl, hc⟩ := Lnk.at (hv.ext hx) k hlt
   have hg' : gk - 1 + (k + 1) = l.length ∧ gk - 1 < gk := by omega
   have HG := Lib.hid hg'; clear hg' hgk
   have hst : (l.take (k + 1)).foldl (ifStep r) [] = ifStep r xs l[k] := by rw [foldl_snoc _ _ hlt, HX.out]
   have HST := Lib.hid hst; clear hst
   have hwr : w.heap.size ≤ wr.heap.size := (hx0.trans hx).size
   have hi1 := insInt_len l[k].ai xs
   have hi2 := insInt_len l[k].bi xs
   have hi3 := insInt_len l[k].bi (insInt l[k].ai xs)
   have hxa : Ext wr (wr.alloc (.cells #[.int .i64 l[k].a, .int .i64 l[k].ai, .int .i64 l[k].b, .int .i64 l[k].bi, .int .i64 l[k].kind] 191)) := (Ext.refl _).alloc _
   have hBk := blk_new wr (.cells #[.int .i64 l[k].a, .int .i64 l[k].ai, .int .i64 l[k].b, .int .i64 l[k].bi, .int .i64 l[k].kind] 191)
   have HBK := Lib.hid hBk; clear hBk
   have hoa := hown.ext hxa
   clear hsz hown
   cases ha : (l[k].a == r)
   ·
    cases hb : (l[k].b == r)
    ·
     have hes : ifStep r xs l[k] = xs := by unfold ifStep; rw [ha, hb]; rfl
     have HE := Lib.hid (hes.symm.trans HST.out.symm); clear hes
     go_wp2_with fail
     go_roundg (gk - 1)
     case measure => exact HG.out.2
     case rel => exact ⟨k + 1, _, HG.out.1, by go_num, HE, by omega, hoa, hx.trans hxa⟩
    ·
     have hes : ifStep r xs l[k] = insInt l[k].bi xs := by unfold ifStep; rw [ha, hb]; rfl
     have HE := Lib.hid (hes.symm.trans HST.out.symm); clear hes
     go_wp2_with fail
     refine (i_insertInt xs _ l[k].bi w.heap.size _ hoa (Nat.le_trans hwr hxa.size) (by omega)).mono ?_
     rintro e w2 ⟨v2, rfl, o2, k2⟩
     go_wp2_with fail
     go_roundg (gk - 1)
     case measure => exact HG.out.2
     case rel => exact ⟨k + 1, _, HG.out.1, by go_num, HE, by omega, o2, (hx.trans hxa).trans k2⟩
   ·
    go_wp2_with fail
    refine (i_insertInt xs _ l[k].ai w.heap.size _ hoa (Nat.le_trans hwr hxa.size) (by omega)).mono ?_
    rintro e w2 ⟨v2, rfl, o2, k2⟩
    obtain ⟨oo2, co2, rfl, _⟩ := (ints_rep o2).shape
    have hcb := blk5 (Ext.block k2 HBK.out)
    cases hb : (l[k].b == r)
    ·
     have hes : ifStep r xs l[k] = insInt l[k].ai xs := by unfold ifStep; rw [ha, hb]; rfl
     have HE := Lib.hid (hes.symm.trans HST.out.symm); clear hes
     go_wp2_with fail
     go_roundg (gk - 1)
     case measure => exact HG.out.2
     case rel => exact ⟨k + 1, _, HG.out.1, by go_num, HE, by omega, o2, (hx.trans hxa).trans k2⟩
    ·
     have hes : ifStep r xs l[k] = insInt l[k].bi (insInt l[k].ai xs) := by unfold ifStep; rw [ha, hb]; rfl
     have HE := Lib.hid (hes.symm.trans HST.out.symm); clear hes
     go_wp2_with fail
     refine (i_insertInt _ _ l[k].bi w.heap.size _ o2 (Nat.le_trans hwr (hxa.trans k2).size) (by omega)).mono ?_
     rintro e w3 ⟨v3, rfl, o3, k3⟩
     go_wp2_with fail
     go_roundg (gk - 1)
     case measure => exact HG.out.2
     case rel => exact ⟨k + 1, _, HG.out.1, by go_num, HE, by omega, o3, ((hx.trans hxa).trans k2).trans k3⟩
  ·
   have hxs : xs = topoIfs l r := by
    have := HX.out
    rw [List.take_of_length_le (by omega)] at this
    exact this
   have HXS := Lib.hid hxs; clear hxs
   go_wp2
   go_ret
   rw [← HXS.out]
   exact ⟨_, rfl, hown, hx0.trans hx⟩
set_option maxHeartbeats 4000000 in
theorem i_AddElement (s i : Int) (w : World) : Calls Tryz.prog 204 #[.int .i64 s, .int .i64 i] w fun e w' => e = .returned (.int .i64 (addEl s i)) ∧ w = w' := by
 go_enter Tryz.func204, Tryz.ntmps204
 go_wp2_with fail
 refine (i_ValidSet _ _).mono ?_
 rintro e w1 ⟨rfl, rfl⟩
 cases h1 : inR s 0 65535
 ·
  have HE := Lib.hid (addEl_no1 (i := i) h1)
  go_wp2_with fail
  go_ret
  exact ⟨ret_int HE.out.symm, rfl⟩
 ·
  go_wp2_with fail
  refine (i_InRange _ _ _ _).mono ?_
  rintro e w1 ⟨rfl, rfl⟩
  cases h2 : inR i 0 15
  ·
   have HE := Lib.hid (addEl_no2 (s := s) h2)
   go_wp2_with fail
   go_ret
   exact ⟨ret_int HE.out.symm, rfl⟩
  ·
   have HE := Lib.hid (addEl_yes h1 h2)
   obtain ⟨a3, a4⟩ := inR_true.1 h2
   clear h2
   have hi : i = 0 ∨ i = 1 ∨ i = 2 ∨ i = 3 ∨ i = 4 ∨ i = 5 ∨ i = 6 ∨ i = 7 ∨ i = 8 ∨ i = 9 ∨ i = 10 ∨ i = 11 ∨ i = 12 ∨ i = 13 ∨ i = 14 ∨ i = 15 := by omega
   clear a3 a4
   rcases hi with rfl | rfl | rfl | rfl | rfl | rfl | rfl | rfl | rfl | rfl | rfl | rfl | rfl | rfl | rfl | rfl
   all_goals
    go_wp2_with fail
    go_ret
    exact ⟨ret_int (HE.out.trans rfl).symm, rfl⟩
set_option maxRecDepth 100000 in
set_option maxHeartbeats 2000000 in
theorem i_FailedInterfaces (t : Topo) (v1 v2 : Value) (dead : List Int) (vd : Value) (r : Int) (w : World) (_ : RdS ASd.rep w v1 t.ases) (h2 : RdS Lnk.rep w v2 t.links) (hd : RdS Rep.int w vd dead) (hlt : t.size ≤ 1048576) :
  Calls Tryz.prog 104 #[.agg #[v1, v2], vd, .int .i64 r] w fun e w' => e = .returned (.int .i64 (failedIfs t dead r)) ∧ Ext w w' := by
 have hl : t.links.length ≤ 1048576 := by unfold Topo.size at hlt; omega
 clear hlt
 have hx0 : Ext w (w.alloc (.cells #[v1, v2] 33)) := (Ext.refl _).alloc _
 have hB := blk_new w (.cells #[v1, v2] 33)
 have HB := Lib.hid hB; clear hB
 go_enter Tryz.func104, Tryz.ntmps104
 go_wp2_with fail
 refine (i_Interfaces t _ _ r _ (h2.ext hx0) hl).mono ?_
 rintro e w1 ⟨u1, rfl, o1, hx1⟩
 have hFI : failedIfs t dead r = (topoIfs t.links r).foldl (failStep t dead r) 0 := rfl
 have HFI := Lib.hid hFI; clear hFI
 have htl := topoIfs_len t.links r
 generalize topoIfs t.links r = l at *
 obtain ⟨oa, ca, rfl, hsa⟩ := (ints_rep o1).shape
 go_wp2
 go_loopg [7, 14] l.length (fun gk s i wr => ∃ (k : Nat), gk + k = l.length ∧ i = .int .i64 k ∧ s = .int .i64 ((l.take k).foldl (failStep t dead r) 0) ∧ Ext w1 wr)
 case atStart => exact ⟨0, rfl, rfl, rfl, Ext.refl _⟩
 case round =>
  obtain ⟨k, hgk, rfl, rfl, hx⟩ := hrel
  have hc0 := blk2 (Ext.block (hx1.trans hx) HB.out)
  by_cases hlt : k < l.length
  ·
   obtain ⟨b, off, rfl, hc⟩ := ints_at ((ints_rep o1).ext hx) k hlt
   have hg' : gk - 1 + (k + 1) = l.length ∧ gk - 1 < gk := by omega
   have HG := Lib.hid hg'; clear hg' hgk
   have HS := Lib.hid (foldl_snoc (failStep t dead r) 0 hlt)
   generalize (l.take k).foldl (failStep t dead r) 0 = s at *
   have hX := (hx0.trans hx1).trans hx
   go_wp2_with fail
   refine (i_LinkIndex t _ _ r l[k] _ (h2.ext hX)).mono ?_
   rintro e w2 ⟨rfl, k2⟩
   go_wp2_with fail
   refine (i_hasInt dead _ _ _ (hd.ext (hX.trans k2))).mono ?_
   rintro e w3 ⟨rfl, rfl⟩
   have hx2 : Ext wr w2 := k2
   cases hh : hasI dead (linkIdx t.links r l[k])
   ·
    have hes : failStep t dead r s l[k] = s := by unfold failStep; rw [hh]; rfl
    have HE := Lib.hid (HS.out.trans hes); clear hes
    go_wp2_with fail
    go_roundg (gk - 1)
    case measure => exact HG.out.2
    case rel => exact ⟨k + 1, HG.out.1, by go_num, by rw [HE.out], hx.trans hx2⟩
   ·
    have hes : failStep t dead r s l[k] = addEl s l[k] := by unfold failStep; rw [hh]; rfl
    have HE := Lib.hid (HS.out.trans hes); clear hes
    have hc2 := hx2.cell hc
    go_wp2_with fail
    refine (i_AddElement _ _ _).mono ?_
    rintro e w4 ⟨rfl, rfl⟩
    go_wp2_with fail
    go_roundg (gk - 1)
    case measure => exact HG.out.2
    case rel => exact ⟨k + 1, HG.out.1, by go_num, by rw [HE.out], hx.trans hx2⟩
  ·
   have hy : failedIfs t dead r = (l.take k).foldl (failStep t dead r) 0 := by rw [HFI.out, List.take_of_length_le (by omega)]
   have HY := Lib.hid hy; clear hy
   generalize (l.take k).foldl (failStep t dead r) 0 = s at *
   go_wp2
   go_ret
   exact ⟨ret_int HY.out.symm, (hx0.trans hx1).trans hx⟩
end
section
open Go.RowKit
/-- A packet's place in its path. -/
def placed (x : Pkt) (j i : Nat) : Pkt := { x with pi := (j : Int), hi := (i : Int) }
theorem chain_of {t : Topo} {ps : List Part} (G : GoodP t ps) : ∀ (n j : Nat) (h : Hop) (hs : List Hop), j + 1 + n = ps.length → (partAt ps j).hops = h :: hs → chain (lastHop h hs) (ps.drop (j + 1))
  | 0, j, h, hs, hn, _ => by rw [List.drop_of_length_le (by omega)]; trivial
  | n + 1, j, h, hs, hn, hh => by
    have hlt : j + 1 < ps.length := by omega
    rw [List.drop_eq_getElem_cons hlt]
    have h1 := G.ne (j + 1) hlt
    have h2 := G.fol j hlt
    have e1 : partAt ps (j + 1) = ps[j + 1] := partAt_at hlt
    cases hc : (partAt ps (j + 1)).hops with
    | nil => rw [hc] at h1; simp at h1
    | cons h0 hs0 =>
      refine ⟨h0, hs0, by rw [← e1]; exact hc, ?_, chain_of G n (j + 1) h0 hs0 (by omega) hc⟩
      rw [hc, hh] at h2
      have h3 : hopAt (h :: hs) ((h :: hs).length - 1) = lastHop h hs := by
        unfold lastHop
        rw [hopAt_at (by simp), List.getLast_eq_getElem]
      rw [h3] at h2
      exact h2.symm
theorem steps_at {t : Topo} {x : Pkt} (G : GoodP t x.path.parts) (hp : 0 < x.path.parts.length) : pathSteps x.path.parts = walkAt (placed x 0 0) 0 := by
  have h0 := G.ne 0 hp
  unfold walkAt restP restH curPart placed
  simp only [Int.toNat_natCast, List.drop_zero]
  cases hc : (partAt x.path.parts 0).hops with
  | nil => rw [hc] at h0; simp at h0
  | cons h hs =>
    have h1 := chain_of G (x.path.parts.length - 1) 0 h hs (by omega) hc
    have h2 : x.path.parts = partAt x.path.parts 0 :: x.path.parts.drop 1 := by
      rw [partAt_at hp]
      exact (List.drop_eq_getElem_cons hp) ▸ (List.drop_zero).symm
    have h3 := steps_walk (partAt x.path.parts 0) (x.path.parts.drop 1) h hs hc h1
    rw [← h2] at h3
    exact h3
end
section
open Go.RowKit
theorem walk_first {t : Topo} : ∀ (n : Nat) (x : Pkt), GoodP t x.path.parts → hasHop x = true → x.path.parts.length ≤ n + x.pi.toNat → ∃ (e : Int) (l : List Step), ∀ inn, walkAt x inn = ⟨curAs x, inn, e⟩ :: l
  | 0, x, _, h, hn => by have := (hasHop_iff.1 h).2.1; omega
  | n + 1, x, G, h, hn => by
    by_cases hl : lastOf x = true
    · by_cases he : x.path.parts.length ≤ x.pi.toNat + 1
      · exact ⟨_, _, fun inn => by rw [walk_end inn h hl he, curAs_of h]⟩
      · have hp := part_pos 0 G h hl (by omega)
        have h0 := (hasHop_iff.1 h).1
        obtain ⟨e, l, hw⟩ := walk_first n { x with pi := x.pi + 1, hi := 0, beta := 0 } G hp.1 (by show x.path.parts.length ≤ n + (x.pi + 1).toNat; omega)
        exact ⟨e, l, fun inn => by rw [walk_part inn 0 h hl (by omega), hw inn, hp.2]⟩
    · exact ⟨_, _, fun inn => by rw [walk_hop inn h hl, curAs_of h]⟩
theorem wHops_all {P : Int → Prop} {cont : Int → Int → Hop → List Step} (hc : ∀ k i h, P h.asn → ∀ s ∈ cont k i h, P s.asn) (k : Int) : ∀ (hs : List Hop) (inn : Int), (∀ h ∈ hs, P h.asn) → ∀ s ∈ wHops cont k inn hs, P s.asn
  | [], _, _, s, hs => by simp [wHops] at hs
  | [h], inn, hh, s, hs => hc k inn h (hh h (by simp)) s hs
  | h :: h' :: l, inn, hh, s, hs => by
    simp only [wHops] at hs
    rcases List.mem_cons.1 hs with rfl | hs
    · exact hh h (by simp)
    · exact wHops_all hc k (h' :: l) _ (fun y hy => hh y (by simp at hy ⊢; exact .inr hy)) s hs
theorem wParts_all {P : Int → Prop} (z : Int → Hop → Int) : ∀ (ps : List Part), (∀ p ∈ ps, ∀ h ∈ p.hops, P h.asn) → ∀ k i h, P h.asn → ∀ s ∈ wParts z ps k i h, P s.asn
  | [], _, k, i, h, hh, s, hs => by
    simp only [wParts, List.mem_singleton] at hs
    rw [hs]; exact hh
  | p :: ps, hp, k, i, h, _, s, hs => by
    unfold wParts at hs
    exact wHops_all (wParts_all z ps (fun q hq => hp q (by simp [hq]))) p.kind p.hops i (hp p (by simp)) s hs
theorem enc_part {p : Pth} (h : encPath p = true) : p.parts.length ≤ 3 ∧ ∀ x ∈ p.parts, encPart x = true := by
  unfold encPath at h
  simp only [Bool.and_eq_true, decide_eq_true_eq, List.all_eq_true] at h
  exact h
theorem enc_hop {x : Part} (h : encPart x = true) : isRes x.beta = true ∧ ∀ y ∈ x.hops, validHop y = true := by
  unfold encPart hopsEnc at h
  simp only [Bool.and_eq_true, decide_eq_true_eq, List.all_eq_true] at h
  exact ⟨h.1.2, h.2.2⟩
theorem failed_none (t : Topo) (r : Int) : failedIfs t [] r = 0 := by
  unfold failedIfs
  generalize topoIfs t.links r = l
  have : ∀ (l : List Int) (s : Int), l.foldl (failStep t [] r) s = s := by
    intro l
    induction l with
    | nil => intro s; rfl
    | cons a l ih => intro s; rw [List.foldl_cons, ih]; simp [failStep, hasI]
  exact this l 0
theorem inSet_zero (e : Int) : inSet 0 e = false := by
  unfold inSet bitAt
  have h : (((0 : Int) / 2 ^ e.toNat) % 2 == 1) = false := by simp
  rw [h]; simp
theorem start_ok {t : Topo} {p : Pth} (hs : simple t p = true) (he : encPath p = true) {kind rid seq : Int} {pay : List Int} (h1 : 1 ≤ kind ∧ kind ≤ 3) (h2 : 0 ≤ rid ∧ rid ≤ 100000) (h3 : 0 ≤ seq ∧ seq ≤ 100000) (h4 : pay.length ≤ 40) :
    Out t p (newPkt kind p rid seq pay) := by
  have G := good_of_simple hs
  have hw : wfPath t p = true := by unfold simple at hs; simp only [Bool.and_eq_true] at hs; exact hs.1
  have hlen : 0 < p.parts.length := by unfold wfPath at hw; simp only [Bool.and_eq_true] at hw; have := (inR_true.1 hw.1).1; omega
  obtain ⟨e1, e2⟩ := enc_part he
  have hne := G.ne 0 hlen
  have hh : hasHop (newPkt kind p rid seq pay) = true := hasHop_iff.2 ⟨Int.le_refl _, hlen, Int.le_refl _, hne⟩
  have hwalk : walkAt (newPkt kind p rid seq pay) 0 = pathSteps p.parts := (steps_at (x := newPkt kind p rid seq pay) G hlen).symm
  obtain ⟨eg, l, hf⟩ := walk_first p.parts.length (newPkt kind p rid seq pay) G hh (Nat.le_add_right _ _)
  have hps : pathSteps p.parts = ⟨curAs (newPkt kind p rid seq pay), 0, eg⟩ :: l := by rw [← hwalk]; exact hf 0
  have hpos : 0 < (pathSteps p.parts).length := by rw [hps]; simp
  have hends : ends p.parts = ((pathSteps p.parts)[0].asn, (pathSteps p.parts)[(pathSteps p.parts).length - 1].asn) := endsOf_at hpos
  have hall : ∀ s ∈ pathSteps p.parts, 0 ≤ s.asn ∧ s.asn ≤ 7 := by
    rw [← hwalk]
    unfold walkAt
    have hv : ∀ x ∈ p.parts, ∀ y ∈ x.hops, 0 ≤ y.asn ∧ y.asn ≤ 7 := fun x hx y hy => vh_asn ((enc_hop (e2 x hx)).2 y hy)
    refine wHops_all (P := fun a => 0 ≤ a ∧ a ≤ 7) (wParts_all (P := fun a => 0 ≤ a ∧ a ≤ 7) _ (restP (newPkt kind p rid seq pay)) (fun q hq y hy => hv q (List.mem_of_mem_drop hq) y hy)) _ _ _ (fun y hy => ?_)
    have hm : y ∈ (curPart (newPkt kind p rid seq pay)).hops := List.mem_of_mem_drop hy
    have : curPart (newPkt kind p rid seq pay) = p.parts[0] := partAt_at hlen
    rw [this] at hm
    exact hv _ (List.getElem_mem _) y hm
  have hsrc : (newPkt kind p rid seq pay).src = curAs (newPkt kind p rid seq pay) := by
    show (ends p.parts).1 = _
    rw [hends]
    simp only [hps, List.getElem_cons_zero]
  have hb0 : beta0 p.parts = p.parts[0].beta := beta0_at hlen
  refine ⟨rfl, ?_, hsrc.symm, ?_, by unfold wantIn newPkt; simp, hwalk, fun s hl => ?_, hh⟩
  · unfold validPkt
    have c1 : (newPkt kind p rid seq pay).path.parts.all (fun y => decide (0 < y.hops.length)) = true := by
      rw [List.all_eq_true]
      intro y hy
      obtain ⟨j, hj, rfl⟩ := List.getElem_of_mem hy
      have hj' : j < p.parts.length := hj
      have := G.ne j hj'
      rw [partAt_at hj'] at this
      exact decide_eq_true this
    have c2 : isRes (newPkt kind p rid seq pay).beta = true := by show isRes (beta0 p.parts) = true; rw [hb0]; exact (enc_hop (e2 _ (List.getElem_mem _))).1
    have c3 : 0 ≤ (newPkt kind p rid seq pay).src ∧ (newPkt kind p rid seq pay).src ≤ 7 := by
      show 0 ≤ (ends p.parts).1 ∧ (ends p.parts).1 ≤ 7
      rw [hends]; exact hall _ (List.getElem_mem _)
    have c4 : 0 ≤ (newPkt kind p rid seq pay).dst ∧ (newPkt kind p rid seq pay).dst ≤ 7 := by
      show 0 ≤ (ends p.parts).2 ∧ (ends p.parts).2 ≤ 7
      rw [hends]; exact hall _ (List.getElem_mem _)
    simp only [Bool.and_eq_true, decide_eq_true_eq]
    exact ⟨⟨⟨⟨⟨⟨⟨⟨⟨inR_true.2 h1, he⟩, hh⟩, c2⟩, c1⟩, inR_true.2 c3⟩, inR_true.2 c4⟩, inR_true.2 h2⟩, inR_true.2 h3⟩, h4⟩
  · unfold betaOk
    show beta0 p.parts = betaTo (curPart (newPkt kind p rid seq pay)) 0
    rw [hb0]
    have : curPart (newPkt kind p rid seq pay) = p.parts[0] := partAt_at hlen
    rw [this]; rfl
  · show s.asn = (ends p.parts).2
    rw [hends]
    rw [getLast_at hpos] at hl
    cases hl
    rfl
def allowed (t : Topo) (p : Pth) : Prop := ∀ s ∈ pathSteps p.parts, stepOk t s = true
theorem out_res {t : Topo} {p : Pth} {now : Int} {x : Pkt} (h : Out t p x) (hs : simple t p = true) (ha : allowed t p) :
    ((traverse t now [] x).code = 1 ∧ (traverse t now [] x).steps = pathSteps p.parts ∧ (traverse t now [] x).pkt.path = p) ∨
      ((traverse t now [] x).code = 4 ∧ ∃ j i, validAt p.parts j i ∧ verAt t p.parts j i = false) ∨ ((traverse t now [] x).code = 5 ∧ ∃ j i, validAt p.parts j i ∧ timeAt now p.parts j i = false) := by
  have hp := h.path
  subst hp
  have := trav_res t now [] (fun r eg => by rw [failed_none]; exact inSet_zero eg) 30 x.src 0 x [] h.vp hs h.beta h.at_ h.want.symm (by rw [h.walk]; exact ha) (by rw [h.walk]; exact h.dst) (walk_short 0 hs)
  rw [h.walk, List.nil_append] at this
  exact this
theorem usable_mk {t : Topo} {p : Pth} {now : Int} (h1 : simple t p = true) (h2 : verPath t p = true) (h3 : ∀ j i, validAt p.parts j i → timeAt now p.parts j i = true) : usable t p now = true := by
  have G := good_of_simple h1
  unfold usable
  rw [h1, h2]
  simp only [Bool.and_true, Bool.true_and]
  rw [allTo_true]
  intro j hj
  unfold partIn' hopsIn
  simp only [Bool.and_eq_true, List.all_eq_true]
  have h0 := h3 j 0 ⟨hj, G.ne j hj⟩
  unfold timeAt at h0
  simp only [Bool.and_eq_true] at h0
  refine ⟨h0.1, fun y hy => ?_⟩
  obtain ⟨i, hi, rfl⟩ := List.getElem_of_mem hy
  have h4 := h3 j i ⟨hj, hi⟩
  unfold timeAt at h4
  simp only [Bool.and_eq_true] at h4
  rw [hopAt_at hi] at h4
  exact h4.2
/-- A usable path that every AS permits is walked to its end, in exactly its steps. -/
theorem walks {t : Topo} {p : Pth} {now : Int} {x : Pkt} (h : Out t p x) (hu : usable t p now = true) (ha : allowed t p) :
    (traverse t now [] x).code = 1 ∧ (traverse t now [] x).steps = pathSteps p.parts ∧ (traverse t now [] x).pkt.path = p := by
  obtain ⟨h1, h2, h3⟩ := usable_of hu
  rcases out_res (now := now) h h1 ha with r | ⟨_, j, i, hv, r⟩ | ⟨_, j, i, hv, r⟩
  · exact r
  · rw [h2 j i hv] at r; cases r
  · rw [h3 j i hv] at r; cases r
end
section
open Go.ChangeShapes Go.WideShapes Go.ChangeAt Go.RowKit Go.Deep
set_option maxRecDepth 100000 in
set_option maxHeartbeats 2000000 in
theorem i_FirstForbiddenStep (t : Topo) (v1 v2 : Value) (p : Pth) (v : Value) (w : World) (hk : RdS Lnk.rep w v2 t.links) (r : RdS Part.rep w v p.parts) (hl : p.size ≤ 1048576) :
  Calls Tryz.prog 164 #[.agg #[v1, v2], .agg #[v]] w fun e w' => ∃ n : Int, e = .returned (.int .i64 n) ∧ (n < 0 ↔ allowed t p) ∧ Ext w w' := by
 obtain ⟨o, cap, rfl, hsm⟩ := r.shape
 have hx0 := ext2 w (.cells #[v1, v2] 33) (.cells #[.slice o p.parts.length cap] 26)
 have HB := Lib.hid (al2 w (.cells #[v1, v2] 33) (.cells #[.slice o p.parts.length cap] 26))
 have cb1 := blk2 HB.out.1
 have cb2 := blk1 HB.out.2
 have hpl := pathSteps_len p.parts
 have hpz : hopsN p.parts ≤ 1048576 := by unfold Pth.size at hl; omega
 go_enter Tryz.func164, Tryz.ntmps164
 go_wp2_with fail
 refine (i_PathSteps p _ _ (r.ext hx0) hl).mono ?_
 rintro e w1 ⟨vs, rfl, OS, hz1⟩
 obtain ⟨l, hls⟩ : ∃ l, l = pathSteps p.parts := ⟨_, rfl⟩
 rw [← hls] at OS hpl
 have HLS := Lib.hid hls
 clear hls
 have rS := OwnF.rd (hf := Step.flen) OS
 clear OS
 obtain ⟨os, cs, rfl, _⟩ := rS.shape
 have hx1 := hx0.trans hz1
 clear cb1 cb2
 have cb1 := blk2 (Ext.block hz1 HB.out.1)
 have cb2 := blk1 (Ext.block hz1 HB.out.2)
 go_wp2_with fail
 clear cb1 cb2
 go_loopg [10] l.length (fun gk i wr => ∃ k : Nat, gk + k = l.length ∧ i = .int .i64 k ∧ Hid (∀ j : Nat, j < k → ∀ s, l[j]? = some s → stepOk t s = true) ∧ Ext w1 wr)
 case atStart => exact ⟨0, by omega, rfl, Lib.hid (fun j hj => by omega), Ext.refl _⟩
 case round =>
  obtain ⟨k, hgk, rfl, HP, hx⟩ := hrel
  have HGK := Lib.hid hgk
  clear hgk
  by_cases hlt : k < l.length
  ·
   have hlt2 : (k : Int) < (l.length : Int) := by omega
   obtain ⟨bs, offs, rfl, hcs⟩ := Step.at (rS.ext hx) k hlt
   obtain ⟨s, hs⟩ : ∃ s, s = l[k] := ⟨_, rfl⟩
   rw [← hs] at hcs
   have HSK : Hid (l[k]? = some s) := Lib.hid (by rw [hs]; exact List.getElem?_eq_getElem hlt)
   clear hs
   have hx3 : Ext wr (wr.alloc (.cells #[.int .i64 s.asn, .int .i64 s.ing, .int .i64 s.eg] 123)) := (Ext.refl _).alloc _
   have cb1 := blk2 (Ext.block ((hz1.trans hx).trans hx3) HB.out.1)
   have cb3 := blk3 (blk_new wr (.cells #[.int .i64 s.asn, .int .i64 s.ing, .int .i64 s.eg] 123))
   go_wp2_with fail
   refine (i_StepAllowed t _ _ s _ ((hk.ext hx1).ext (hx.trans hx3))).mono ?_
   rintro e w2 ⟨rfl, hz2⟩
   have HX := Lib.hid ((hx.trans hx3).trans hz2)
   clear cb1 cb3 hcs hx3 hz2
   cases hok : stepOk t s
   ·
    have HOK := Lib.hid hok
    go_wp2_with fail
    go_ret
    refine ⟨_, rfl, ⟨fun h => absurd h (by omega), fun h => ?_⟩, hx1.trans HX.out⟩
    have h1 := h s (by rw [← HLS.out]; exact List.mem_of_getElem? HSK.out)
    rw [HOK.out] at h1
    cases h1
   ·
    have HOK := Lib.hid hok
    go_wp2_with fail
    go_roundg (gk - 1)
    case measure => have h2 := HGK.out; omega
    case rel =>
     refine ⟨k + 1, by have h2 := HGK.out; omega, congrArg (Value.int .i64) (by first | omega | (unfold wrap64; omega)), Lib.hid (fun j hj s2 hs2 => ?_), HX.out⟩
     rcases Nat.lt_or_ge j k with h1 | h1
     ·
      exact HP.out j h1 s2 hs2
     ·
      obtain rfl : j = k := by omega
      rw [HSK.out] at hs2
      cases hs2
      exact HOK.out
  ·
   have hge : ¬ (k : Int) < (l.length : Int) := by omega
   have hkl : k = l.length := by have h2 := HGK.out; omega
   have HKL := Lib.hid hkl
   clear hkl
   go_wp2_with fail
   go_ret
   refine ⟨_, rfl, ⟨fun _ s hs => ?_, fun _ => by omega⟩, hx1.trans hx⟩
   rw [← HLS.out] at hs
   obtain ⟨j, hj, hjs⟩ := List.getElem_of_mem hs
   exact HP.out j (by rw [HKL.out]; exact hj) s (by rw [← hjs]; exact List.getElem?_eq_getElem hj)
set_option maxRecDepth 100000 in
set_option maxHeartbeats 2000000 in
theorem i_PathAllowed (t : Topo) (v1 v2 : Value) (p : Pth) (v : Value) (w : World) (hk : RdS Lnk.rep w v2 t.links) (r : RdS Part.rep w v p.parts) (hl : p.size ≤ 1048576) :
  Calls Tryz.prog 57 #[.agg #[v1, v2], .agg #[v]] w fun e w' => ∃ b : Bool, e = .returned (.bool b) ∧ (b = true ↔ allowed t p) ∧ Ext w w' := by
 obtain ⟨o, cap, rfl, hsm⟩ := r.shape
 have hx0 := ext2 w (.cells #[v1, v2] 33) (.cells #[.slice o p.parts.length cap] 26)
 have HB := Lib.hid (al2 w (.cells #[v1, v2] 33) (.cells #[.slice o p.parts.length cap] 26))
 have cb1 := blk2 HB.out.1
 have cb2 := blk1 HB.out.2
 go_enter Tryz.func57, Tryz.ntmps57
 go_wp2_with fail
 refine (i_FirstForbiddenStep t _ _ p _ _ (hk.ext hx0) (r.ext hx0) hl).mono ?_
 rintro e w1 ⟨n, rfl, hn, hz1⟩
 have HN := Lib.hid hn
 clear hn cb1 cb2
 go_wp2_with fail
 go_ret
 exact ⟨_, rfl, by simpa using HN.out, hx0.trans hz1⟩
end
section
open Go.RowKit
theorem trav_path (t : Topo) (now : Int) (dead : List Int) : ∀ (f : Nat) (r inn : Int) (x : Pkt) (l : List Step), (trav t now dead f r inn x l).code = 1 → (trav t now dead f r inn x l).pkt.path = x.path ∧ (trav t now dead f r inn x l).pkt.rid = x.rid
  | 0, _, _, _, _, h => by unfold trav at h; cases h
  | f + 1, r, inn, x, l, h => by
    obtain ⟨v, hv⟩ : ∃ v, forward t r now (failedIfs t dead r) inn x = v := ⟨_, rfl⟩
    obtain ⟨cd, eg, z⟩ := v
    obtain ⟨_, k2, _⟩ := chk_rest t now x.path.parts.length x
    by_cases h0 : cd = 0
    · subst h0
      obtain ⟨_, _, _, _, _, _, hg⟩ := fw_ok hv (.inl rfl)
      obtain ⟨_, _, _, e4, _, _, _, ez, _⟩ := hg rfl
      rw [trav_go hv] at h ⊢
      obtain ⟨i1, i2⟩ := trav_path t now dead f _ _ z _ h
      exact ⟨i1.trans e4, i2.trans (by rw [ez]; exact k2)⟩
    · by_cases h1 : cd = 1
      · subst h1
        obtain ⟨hvp, hs, _, _, hch, hg, _⟩ := fw_ok hv (.inr rfl)
        obtain ⟨_, _, _, ez, _⟩ := hg rfl
        obtain ⟨hy1, _⟩ := chk_walk x.path.parts.length x (good_of_simple hs) (vp_hop hvp) hch (by omega)
        rw [trav_del hv]
        exact ⟨by rw [ez]; exact hy1, by rw [ez]; exact k2⟩
      · rw [trav_bad hv h0 h1] at h
        exact absurd h h1
theorem replies {t : Topo} (T : TopoOk t) {p : Pth} (D : PthDrawn t p) {kind seq : Int} {pay : List Int} (hk : 1 ≤ kind ∧ kind ≤ 3) (h3 : 0 ≤ seq ∧ seq ≤ 100000) (h4 : pay.length ≤ 40) {now : Int} (hc : (traverse t now [] (newPkt kind p 0 seq pay)).code = 1) :
    reply (traverse t now [] (newPkt kind p 0 seq pay)).pkt 2 1 [] = newPkt 2 (revPath p) 0 1 [] ∧ (newPkt 2 (revPath p) 0 1 []).src = (ends p.parts).2 ∧ (newPkt 2 (revPath p) 0 1 []).dst = (ends p.parts).1 ∧
      (allowed t (revPath p) → (traverse t now [] (newPkt 2 (revPath p) 0 1 [])).code = 1 ∧ (traverse t now [] (newPkt 2 (revPath p) 0 1 [])).steps = revSteps (traverse t now [] (newPkt kind p 0 seq pay)).steps) := by
  obtain ⟨p1, p2⟩ := trav_path t now [] 30 _ 0 _ [] hc
  have hb : betaOk (newPkt kind p 0 seq pay) := by
    show beta0 p.parts = betaTo (partAt p.parts 0) 0
    unfold beta0
    obtain ⟨ps⟩ := p
    cases ps <;> rfl
  obtain ⟨hs, hg⟩ := trav_good t now [] 30 _ 0 _ [] hb hc
  have hs' : simple t p = true := hs
  have hw : wfPath t p = true := by unfold simple at hs'; simp only [Bool.and_eq_true] at hs'; exact hs'.1
  obtain ⟨f1, _, f3⟩ := flips T D hw
  have hu : usable t p now = true := usable_mk hs' (D.ver T) (fun j i hv => (hg j i hv (by unfold after newPkt; simp only [Int.toNat_zero]; omega)).2)
  have hend : ends (revPath p).parts = ((ends p.parts).2, (ends p.parts).1) := by unfold ends; rw [f1, endsOf_rev]
  refine ⟨?_, by show (ends (revPath p).parts).1 = _; rw [hend], by show (ends (revPath p).parts).2 = _; rw [hend], fun ha => ?_⟩
  · show newPkt 2 (revPath (traverse t now [] (newPkt kind p 0 seq pay)).pkt.path) (traverse t now [] (newPkt kind p 0 seq pay)).pkt.rid 1 [] = _
    have q1 : (traverse t now [] (newPkt kind p 0 seq pay)).pkt.path = p := p1
    have q2 : (traverse t now [] (newPkt kind p 0 seq pay)).pkt.rid = 0 := p2
    rw [q1, q2]
  · have hs2 := f3 hs'
    have O := start_ok (kind := 2) (rid := 0) (seq := 1) (pay := []) hs2 ((D.rev T).1.enc T) (by omega) (by omega) (by omega) (by simp)
    have W := walks (now := now) O (rev_usable T D hu) ha
    refine ⟨W.1, ?_⟩
    have O1 := start_ok (kind := kind) (rid := 0) (seq := seq) (pay := pay) hs' (D.enc T) hk (by omega) h3 h4
    obtain ⟨Z⟩ := traverse_trod t now [] (newPkt kind p 0 seq pay)
    have hsuf := Z.all hc
    have hcut := Z.cut
    rw [hsuf, List.append_nil, O1.walk] at hcut
    have hst : (traverse t now [] (newPkt kind p 0 seq pay)).steps = pathSteps p.parts := by rw [Z.steps, ← hcut]; rfl
    rw [W.2.1, f1, hst]
end
end Go.Proofs.YtikbeiafobnblaaGreat
