/- Part 28 of 28 of what the laws FnNoDoorTwice and FnAuthor need: Wherever a packet goes, it passes no interface twice and takes no more steps than its path has hops. No program in sight. No condition. The walk of the law on interfaces: wherever a packet goes, it passes no interface twice. No condition. Every AS that a packet passes has a hop field for it in time, and permits the step. No program in sight. No condition. The walk of the law on authors: every AS that forwards a packet has a hop field for it in time, and permits the step. No condition. -/
import Derived.Test.YtjmlicmloacmaaaGreatKN13
import Derived.Test.YtjmlicmloacmaaaGreatKN21
import Derived.Test.YtjmlicmloacmaaaGreatKN27
import Derived.Test.YtjmlicmloacmaaaGreatKN8
import Derived.Test.YtjmlicmloacmaaaGreatKN10
namespace Go.Proofs.YtjmlicmloacmaaaGreat
section
open Go.RowKit

/-- A packet's place in its path. -/
def placed (x : Pkt) (j i : Nat) : Pkt := { x with pi := (j : Int), hi := (i : Int) }
theorem placed_self {x : Pkt} (h : hasHop x = true) : placed x x.pi.toNat x.hi.toNat = x := by
  obtain ⟨h1, _, h2, _⟩ := hasHop_iff.1 h
  obtain ⟨a0, a1, a2, a3, p, i, a4, a5, a6, a7⟩ := x
  simp only at h1 h2
  show (⟨a0, a1, a2, a3, ((p.toNat : Nat) : Int), ((i.toNat : Nat) : Int), a4, a5, a6, a7⟩ : Pkt) = _
  rw [Int.toNat_of_nonneg h1, Int.toNat_of_nonneg h2]
theorem placed_has {x : Pkt} {j i : Nat} (hj : j < x.path.parts.length) (hi : i < (partAt x.path.parts j).hops.length) : hasHop (placed x j i) = true :=
  hasHop_iff.2 ⟨Int.natCast_nonneg _, by simpa [placed] using hj, Int.natCast_nonneg _, by simpa [placed, curPart] using hi⟩
theorem walk_head {t : Topo} : ∀ (n : Nat) (x : Pkt), GoodP t x.path.parts → hasHop x = true → x.path.parts.length ≤ n + x.pi.toNat → ∃ (a e : Int) (l : List Step), ∀ inn, walkAt x inn = ⟨a, inn, e⟩ :: l
  | 0, x, _, h, hn => by have := (hasHop_iff.1 h).2.1; omega
  | n + 1, x, G, h, hn => by
    by_cases hl : lastOf x = true
    · by_cases he : x.path.parts.length ≤ x.pi.toNat + 1
      · exact ⟨_, _, _, fun inn => walk_end inn h hl he⟩
      · have hp := part_pos 0 G h hl (by omega)
        have h0 := (hasHop_iff.1 h).1
        obtain ⟨a, e, l, hw⟩ := walk_head n { x with pi := x.pi + 1, hi := 0, beta := 0 } G hp.1 (by show x.path.parts.length ≤ n + (x.pi + 1).toNat; omega)
        exact ⟨a, e, l, fun inn => by rw [walk_part inn 0 h hl (by omega)]; exact hw inn⟩
    · exact ⟨_, _, _, fun inn => walk_hop inn h hl⟩
theorem chain_of {t : Topo} {ps : List Part} (G : GoodP t ps) : ∀ (n j : Nat) (h : Hop) (hs : List Hop), j + 1 + n = ps.length → (partAt ps j).hops = h :: hs → chain (lastHop h hs) (ps.drop (j + 1))
  | 0, j, h, hs, hn, _ => by rw [List.drop_of_length_le (by omega)]; trivial
  | n + 1, j, h, hs, hn, hh => by
    have hlt : j + 1 < ps.length := by omega
    rw [List.drop_eq_getElem_cons hlt]
    have h1 := G.ne (j + 1) hlt
    have h2 := G.fol j hlt
    have e1 : partAt ps (j + 1) = ps[j + 1] := partAt_at hlt
    cases hc : (partAt ps (j + 1)).hops with
    | nil => rw [hc] at h1; simp at h1
    | cons h0 hs0 =>
      refine ⟨h0, hs0, by rw [← e1]; exact hc, ?_, chain_of G n (j + 1) h0 hs0 (by omega) hc⟩
      rw [hc, hh] at h2
      have h3 : hopAt (h :: hs) ((h :: hs).length - 1) = lastHop h hs := by
        unfold lastHop
        rw [hopAt_at (by simp), List.getLast_eq_getElem]
      rw [h3] at h2
      exact h2.symm
theorem steps_at {t : Topo} {x : Pkt} (G : GoodP t x.path.parts) (hp : 0 < x.path.parts.length) : pathSteps x.path.parts = walkAt (placed x 0 0) 0 := by
  have h0 := G.ne 0 hp
  unfold walkAt restP restH curPart placed
  simp only [Int.toNat_natCast, List.drop_zero]
  cases hc : (partAt x.path.parts 0).hops with
  | nil => rw [hc] at h0; simp at h0
  | cons h hs =>
    have h1 := chain_of G (x.path.parts.length - 1) 0 h hs (by omega) hc
    have h2 : x.path.parts = partAt x.path.parts 0 :: x.path.parts.drop 1 := by
      rw [partAt_at hp]
      exact (List.drop_eq_getElem_cons hp) ▸ (List.drop_zero).symm
    have h3 := steps_walk (partAt x.path.parts 0) (x.path.parts.drop 1) h hs hc h1
    rw [← h2] at h3
    exact h3
/-- The steps from a place on end the path's steps. -/
theorem walk_tail {t : Topo} {x : Pkt} (G : GoodP t x.path.parts) : ∀ (j : Nat), j < x.path.parts.length → ∀ (i : Nat), i < (partAt x.path.parts j).hops.length → ∃ (Y : List Step) (il : Int), pathSteps x.path.parts = Y ++ walkAt (placed x j i) il
  | 0, hj, 0, hi => ⟨[], 0, by rw [steps_at G hj]; rfl⟩
  | j + 1, hj, 0, hi => by
    have h0 := G.ne j (by omega)
    obtain ⟨Y, il, e⟩ := walk_tail G j (by omega) ((partAt x.path.parts j).hops.length - 1) (by omega)
    have hh : hasHop (placed x j ((partAt x.path.parts j).hops.length - 1)) = true := placed_has (by omega) (by omega)
    refine ⟨Y, il, ?_⟩
    rw [e, walk_part il x.beta hh ((lastOf_iff hh).2 ?_) ?_]
    · unfold placed; simp
    · simp [placed, curPart]; omega
    · simp [placed]; omega
  | j, hj, i + 1, hi => by
    obtain ⟨Y, il, e⟩ := walk_tail G j hj i (by omega)
    have hh : hasHop (placed x j i) = true := placed_has hj (by omega)
    have hl : ¬ lastOf (placed x j i) = true := fun hc => by
      have := (lastOf_iff hh).1 hc
      simp [placed, curPart] at this
      omega
    have hw := walk_hop il hh hl
    rw [e, hw]
    refine ⟨Y ++ [⟨(curHop (placed x j i)).asn, il, hopEg (curPart (placed x j i)).kind (curHop (placed x j i))⟩], hopIn (curPart (placed x j i)).kind (hopAt (curPart (placed x j i)).hops ((placed x j i).hi.toNat + 1)), ?_⟩
    rw [List.append_assoc]
    simp [placed]
theorem usedIfs_app (a b : List Step) : usedIfs (a ++ b) = usedIfs a ++ usedIfs b := by simp [usedIfs]
theorem simple_nodup {t : Topo} {p : Pth} (h : simple t p = true) : (usedIfs (pathSteps p.parts)).Nodup := by
  unfold simple at h
  simp only [Bool.and_eq_true] at h
  have h1 := allTo_true.1 h.2
  rw [List.nodup_iff_pairwise_ne, List.pairwise_iff_getElem]
  intro i j hi hj hij e
  have h2 := h1 j hj
  rw [freshAt_at hj] at h2
  simp only [Bool.not_eq_true', hasI] at h2
  have h3 : (usedIfs (pathSteps p.parts))[j] ∈ (usedIfs (pathSteps p.parts)).take j := by
    rw [← e]
    exact List.mem_take_iff_getElem.2 ⟨i, by omega, rfl⟩
  revert h2
  simp [h3]
theorem trav_mal {t : Topo} {now : Int} {dead : List Int} {x : Pkt} (h : ¬ (validPkt x = true ∧ simple t x.path = true)) : (traverse t now dead x).steps = [] := by
  unfold traverse
  have h1 : (!(validPkt x && simple t x.path && (curAs x == x.src))) = true := by
    cases h2 : validPkt x
    · rfl
    · cases h3 : simple t x.path
      · simp
      · exact absurd ⟨h2, h3⟩ h
  have hv : forward t x.src now (failedIfs t dead x.src) 0 x = ⟨2, 0, x⟩ := by unfold forward; rw [if_pos h1]
  rw [trav_bad hv (by decide) (by decide)]
/-- What a walk takes is a part of the walk from its place on. -/
theorem no_door_twice (t : Topo) (now : Int) (dead : List Int) (x : Pkt) : (usedIfs (traverse t now dead x).steps).Nodup ∧ (traverse t now dead x).steps.length ≤ (pathSteps x.path.parts).length ∧ (traverse t now dead x).code ≠ 0 := by
  obtain ⟨T⟩ := traverse_trod t now dead x
  refine ⟨?_, ?_, T.code⟩
  all_goals by_cases hg : validPkt x = true ∧ simple t x.path = true
  · obtain ⟨hv, hs⟩ := hg
    have hh := vp_hop hv
    obtain ⟨_, hj, _, hi⟩ := hasHop_iff.1 hh
    obtain ⟨Y, il, e⟩ := walk_tail (good_of_simple hs) x.pi.toNat hj x.hi.toNat hi
    rw [placed_self hh] at e
    obtain ⟨a, b, l, hw⟩ := walk_head x.path.parts.length x (good_of_simple hs) hh (by omega)
    have hn := simple_nodup hs
    rw [e, usedIfs_app, hw il] at hn
    have hn2 := (List.nodup_append.1 hn).2.1
    have hc := T.cut
    rw [hw 0] at hc
    have hst : (traverse t now dead x).steps = T.pre := by rw [T.steps]; rfl
    have hsub : List.Sublist (usedIfs ((⟨a, 0, b⟩ : Step) :: l)) (usedIfs ((⟨a, il, b⟩ : Step) :: l)) := by
      unfold usedIfs
      rw [List.flatMap_cons, List.flatMap_cons]
      refine List.Sublist.append ?_ (List.Sublist.refl _)
      unfold stepIfs
      simp
    have hn3 := hn2.sublist hsub
    rw [hc, usedIfs_app] at hn3
    rw [hst]
    exact (List.nodup_append.1 hn3).1
  · rw [trav_mal hg]; simp [usedIfs]
  · obtain ⟨hv, hs⟩ := hg
    have hh := vp_hop hv
    obtain ⟨_, hj, _, hi⟩ := hasHop_iff.1 hh
    obtain ⟨Y, il, e⟩ := walk_tail (good_of_simple hs) x.pi.toNat hj x.hi.toNat hi
    rw [placed_self hh] at e
    obtain ⟨a, b, l, hw⟩ := walk_head x.path.parts.length x (good_of_simple hs) hh (by omega)
    have hc := T.cut
    rw [hw 0] at hc
    have hl := congrArg List.length e
    rw [hw il, List.length_append, List.length_cons] at hl
    have hst : (traverse t now dead x).steps = T.pre := by rw [T.steps]; rfl
    have h9 := congrArg List.length hc
    rw [List.length_cons, List.length_append] at h9
    rw [hst]
    omega
  · rw [trav_mal hg]; simp
end
section
open Go.ChangeShapes Go.WideShapes Go.ChangeAt Go.RowKit Go.Deep

set_option maxRecDepth 100000 in
set_option maxHeartbeats 20000000 in
theorem l_FnNoDoorTwice (code : List Int) (cv : Value) (w : World) (hr : RdS Rep.byte w cv code) (hu : ∀ x ∈ code, U8 x) :
    Calls Tryz.prog 5 #[cv] w fun e w' => e = .returned (.bool true) ∧ Ext w w' := by
  obtain ⟨co, cc, rfl, _⟩ := hr.shape
  by_cases hbig : 1048576 < code.length
  · have hb1 : decide (1048576 < code.length) = true := by simpa using hbig
    have HB1 := Lib.hid hb1; clear hb1
    go_enter Tryz.func5, Tryz.ntmps5
    go_wp2_with fail
    refine (l_big code _ _ hr).mono ?_
    rintro e _ ⟨rfl, rfl⟩
    rw [HB1.out]
    go_wp2_with fail
    go_ret
    exact ⟨rfl, Ext.refl _⟩
  have hb1 : decide (1048576 < code.length) = false := by simpa using hbig
  have hl : code.length ≤ 1048576 := by omega
  have HB1 := Lib.hid hb1; clear hb1 hbig
  go_enter Tryz.func5, Tryz.ntmps5
  go_wp2_with fail
  refine (l_big code _ _ hr).mono ?_
  rintro e _ ⟨rfl, rfl⟩
  rw [HB1.out]
  go_wp2_with fail
  refine (s_DrawTraverse code _ _ (hr.ext (Ext.refl _)) hu hl).mono ?_
  rintro e w1 ⟨v1, v2, vd, u0, u1, t, now, dead, x, rfl, TK, hxb, hdl, rA, rL, rD, r0, r1, hz1⟩
  obtain ⟨o1, c1, rfl, _⟩ := rA.shape
  obtain ⟨o2, c2, rfl, _⟩ := rL.shape
  obtain ⟨o_d, c_d, rfl, _⟩ := rD.shape
  obtain ⟨o_0, c_0, rfl, _⟩ := r0.shape
  obtain ⟨o_1, c_1, rfl, _⟩ := r1.shape
  have hxs := hxb.size
  have hts : t.size ≤ 1048576 := by have h1 := TK.n8; have h2 := TK.few; unfold Topo.size; omega
  have hx1 := ext2 w1 (.cells #[.slice o1 t.ases.length c1, .slice o2 t.links.length c2] 33) (.cells #[.int .i64 x.kind, .int .i64 x.src, .int .i64 x.dst, .slice o_0 x.path.parts.length c_0, .int .i64 x.pi, .int .i64 x.hi, .int .i64 x.beta, .int .i64 x.rid, .int .i64 x.seq, .slice o_1 x.pay.length c_1] 28)
  have HB1 := Lib.hid (al2 w1 (.cells #[.slice o1 t.ases.length c1, .slice o2 t.links.length c2] 33) (.cells #[.int .i64 x.kind, .int .i64 x.src, .int .i64 x.dst, .slice o_0 x.path.parts.length c_0, .int .i64 x.pi, .int .i64 x.hi, .int .i64 x.beta, .int .i64 x.rid, .int .i64 x.seq, .slice o_1 x.pay.length c_1] 28))
  have cf1 := blk2 HB1.out.1
  have cf2 := blk10 HB1.out.2
  go_wp2_with fail
  refine (i_Traverse t _ _ now dead _ x _ _ _ (rA.ext hx1) (rL.ext hx1) (rD.ext hx1) (r0.ext hx1) (r1.ext hx1) hts (by omega)).mono ?_
  rintro e w2 ⟨y0, y1, y2, rfl, OT, hz2⟩
  obtain ⟨z, hz⟩ : ∃ z, z = traverse t now dead x := ⟨_, rfl⟩
  rw [← hz] at OT ⊢
  have hzs : z.size ≤ 1048576 := by rw [hz]; have h1 := traverse_size t now dead x; omega
  have HZ := Lib.hid hz
  clear hz
  have rS := Trc.own_rd0 OT
  have rP := Trc.own_rd1 OT
  have rY := Trc.own_rd2 OT
  clear OT
  obtain ⟨o_sz, c_sz, rfl, _⟩ := rS.shape
  obtain ⟨o_0z, c_0z, rfl, _⟩ := rP.shape
  obtain ⟨o_1z, c_1z, rfl, _⟩ := rY.shape
  have hx2 : Ext w2 (w2.alloc (.cells #[.int .i64 z.code, .slice o_sz z.steps.length c_sz, .int .i64 z.pkt.kind, .int .i64 z.pkt.src, .int .i64 z.pkt.dst, .slice o_0z z.pkt.path.parts.length c_0z, .int .i64 z.pkt.pi, .int .i64 z.pkt.hi, .int .i64 z.pkt.beta, .int .i64 z.pkt.rid, .int .i64 z.pkt.seq, .slice o_1z z.pkt.pay.length c_1z] 56)) := (Ext.refl _).alloc _
  have HB2 := Lib.hid (blk_new w2 (.cells #[.int .i64 z.code, .slice o_sz z.steps.length c_sz, .int .i64 z.pkt.kind, .int .i64 z.pkt.src, .int .i64 z.pkt.dst, .slice o_0z z.pkt.path.parts.length c_0z, .int .i64 z.pkt.pi, .int .i64 z.pkt.hi, .int .i64 z.pkt.beta, .int .i64 z.pkt.rid, .int .i64 z.pkt.seq, .slice o_1z z.pkt.pay.length c_1z] 56))
  try clear cf1
  try clear cf2
  have cf3 := blk2 (Ext.block (hz2.trans hx2) HB1.out.1)
  have cf4 := blk10 (Ext.block (hz2.trans hx2) HB1.out.2)
  have cf5 := blk12 HB2.out
  go_wp2_with fail
  refine (i_TraceInterfaces z _ _ _ _ (rS.ext hx2) (rP.ext hx2) (rY.ext hx2) hzs).mono ?_
  rintro e w3 ⟨vi, rfl, OI, hz3⟩
  obtain ⟨l, hl9⟩ : ∃ l, l = usedIfs z.steps := ⟨_, rfl⟩
  rw [← hl9] at OI
  have LAW := no_door_twice t now dead x
  rw [← HZ.out, ← hl9] at LAW
  have HN := Lib.hid LAW.1
  have HLEN := Lib.hid LAW.2.1
  have hcode : (z.code != 0) = true := by rw [bne_iff_ne]; exact LAW.2.2
  clear LAW hl9
  have rI := ints_rep OI
  clear OI
  obtain ⟨o_i, c_i, rfl, hli⟩ := rI.shape
  have hcapI := rI.capLe
  try clear cf3
  try clear cf4
  try clear cf5
  have cf6 := blk2 (Ext.block ((hz2.trans hx2).trans hz3) HB1.out.1)
  have cf7 := blk10 (Ext.block ((hz2.trans hx2).trans hz3) HB1.out.2)
  have cf8 := blk12 (Ext.block hz3 HB2.out)
  go_wp2_with fail
  go_loopg [9] l.length (fun gk i wr => ∃ k : Nat, gk + k = l.length ∧ i = .int .i64 k ∧ Ext w3 wr)
  case atStart => exact ⟨0, by omega, rfl, Ext.refl _⟩
  case round =>
    obtain ⟨k, hgk, rfl, hx⟩ := hrel
    have HGK := Lib.hid hgk
    clear hgk
    by_cases hlt : k < l.length
    · have hlt2 : (k : Int) < (l.length : Int) := by omega
      have hk0 : (k : Int) ≤ c_i := by omega
      have HNK := Lib.hid (nodup_has HN.out hlt)
      obtain ⟨bi, offi, rfl, hci⟩ := ints_at (rI.ext hx) k hlt
      try clear cf6
      try clear cf7
      try clear cf8
      have cf9 := blk2 (Ext.block (((hz2.trans hx2).trans hz3).trans hx) HB1.out.1)
      have cf10 := blk10 (Ext.block (((hz2.trans hx2).trans hz3).trans hx) HB1.out.2)
      have cf11 := blk12 (Ext.block (hz3.trans hx) HB2.out)
      go_wp2_with fail
      refine planStep (.blk [0, 1, 2, 3, 4, 5, 6] (.one 7 .done)) [] (by kernel_rfl) (by kernel_rfl) ?_
      try clear cf9
      try clear cf10
      try clear cf11
      have cf12 := blk2 (Ext.block ((((hz2.trans hx2).trans hz3).trans hx).trans ((Ext.refl _).drew)) HB1.out.1)
      have cf13 := blk10 (Ext.block ((((hz2.trans hx2).trans hz3).trans hx).trans ((Ext.refl _).drew)) HB1.out.2)
      have cf14 := blk12 (Ext.block ((hz3.trans hx).trans ((Ext.refl _).drew)) HB2.out)
      refine blkStep (fun K HK => ?_)
      simp only [pick, List.filterMap_cons, List.filterMap_nil, List.getElem?_toArray, List.getElem?_cons_zero, List.getElem?_cons_succ]
      go_wp2_with fail
      refine HK.out _ _ ?_
      clear HK K
      refine oneStep (fun K HK => ?_)
      simp only [pick, List.filterMap_cons, List.filterMap_nil, List.getElem?_toArray, List.getElem?_cons_zero, List.getElem?_cons_succ]
      go_wp2_with fail
      refine (l_in (l.take k) _ l[k] _ (RdS.upto (rI.ext (hx.trans ((Ext.refl _).drew))) k (by omega))).mono ?_
      rintro e w4 ⟨rfl, hz4⟩
      rw [HNK.out]
      try clear cf12
      try clear cf13
      try clear cf14
      have cf15 := blk2 (Ext.block (((((hz2.trans hx2).trans hz3).trans hx).trans ((Ext.refl _).drew)).trans hz4) HB1.out.1)
      have cf16 := blk10 (Ext.block (((((hz2.trans hx2).trans hz3).trans hx).trans ((Ext.refl _).drew)).trans hz4) HB1.out.2)
      have cf17 := blk12 (Ext.block (((hz3.trans hx).trans ((Ext.refl _).drew)).trans hz4) HB2.out)
      go_wp2_with fail
      refine HK.out _ _ hz4 ?_
      clear HK K
      refine doneStep (by kernel_rfl) ?_
      clear hci
      go_wp2_with fail
      go_roundg (gk - 1)
      case measure => have h2 := HGK.out; omega
      case rel => exact ⟨k + 1, by have h2 := HGK.out; omega, congrArg (Value.int .i64) (by first | omega | (unfold wrap64; omega)), hx.trans ((((Ext.refl _).drew).trans hz4))⟩
    · have hge : ¬ (k : Int) < (l.length : Int) := by omega
      obtain ⟨pn, hpn⟩ : ∃ pn, (pathSteps x.path.parts).length = pn := ⟨_, rfl⟩
      have HPN := Lib.hid hpn
      clear hpn
      try clear cf6
      try clear cf7
      try clear cf8
      have cf18 := blk2 (Ext.block (((hz2.trans hx2).trans hz3).trans hx) HB1.out.1)
      have cf19 := blk10 (Ext.block (((hz2.trans hx2).trans hz3).trans hx) HB1.out.2)
      have cf20 := blk12 (Ext.block (hz3.trans hx) HB2.out)
      go_wp2_with fail
      refine planStep (.blk [0, 1, 2, 3, 4, 5, 6, 7, 8] (.one 9 (.blk [10, 11, 12] .done))) [] (by kernel_rfl) (by kernel_rfl) ?_
      try clear cf18
      try clear cf19
      try clear cf20
      have cf21 := blk2 (Ext.block ((((hz2.trans hx2).trans hz3).trans hx).trans ((Ext.refl _).drew)) HB1.out.1)
      have cf22 := blk10 (Ext.block ((((hz2.trans hx2).trans hz3).trans hx).trans ((Ext.refl _).drew)) HB1.out.2)
      have cf23 := blk12 (Ext.block ((hz3.trans hx).trans ((Ext.refl _).drew)) HB2.out)
      refine blkStep (fun K HK => ?_)
      simp only [pick, List.filterMap_cons, List.filterMap_nil, List.getElem?_toArray, List.getElem?_cons_zero, List.getElem?_cons_succ]
      go_wp2_with fail
      refine HK.out _ _ ?_
      clear HK K
      refine oneStep (fun K HK => ?_)
      simp only [pick, List.filterMap_cons, List.filterMap_nil, List.getElem?_toArray, List.getElem?_cons_zero, List.getElem?_cons_succ]
      go_wp2_with fail
      refine (i_PathLength x.path _ _ (r0.ext (((((hx1.trans hz2).trans hx2).trans hz3).trans hx).trans ((Ext.refl _).drew))) (by omega)).mono ?_
      rintro e w5 ⟨rfl, hz5⟩
      rw [HPN.out]
      try clear cf21
      try clear cf22
      try clear cf23
      have cf24 := blk2 (Ext.block (((((hz2.trans hx2).trans hz3).trans hx).trans ((Ext.refl _).drew)).trans hz5) HB1.out.1)
      have cf25 := blk10 (Ext.block (((((hz2.trans hx2).trans hz3).trans hx).trans ((Ext.refl _).drew)).trans hz5) HB1.out.2)
      have cf26 := blk12 (Ext.block (((hz3.trans hx).trans ((Ext.refl _).drew)).trans hz5) HB2.out)
      go_wp2_with fail
      refine HK.out _ _ hz5 ?_
      clear HK K
      refine blkStep (fun K HK => ?_)
      simp only [pick, List.filterMap_cons, List.filterMap_nil, List.getElem?_toArray, List.getElem?_cons_zero, List.getElem?_cons_succ]
      go_wp2_with fail
      refine HK.out _ _ ?_
      clear HK K
      refine doneStep (by kernel_rfl) ?_
      go_wp2_with fail
      go_ret
      exact ⟨ret_bool (decide_eq_true (by rw [← HPN.out]; exact HLEN.out)), (((((((hz1.trans hx1).trans hz2).trans hx2).trans hz3).trans hx).trans ((Ext.refl _).drew)).trans hz5)⟩

end
section
open Go.RowKit

theorem linkFrom_none {r d : Int} : ∀ {l : List Lnk} {k : Nat}, (∀ x ∈ l, usesIf x r d = false) → linkFrom r d k l = -1
  | [], _, _ => rfl
  | y :: l, k, h => by
    unfold linkFrom
    rw [h y (by simp)]
    exact linkFrom_none (fun x hx => h x (by simp [hx]))
theorem linkIdx_none {l : List Lnk} {r d : Int} (h : ∀ x ∈ l, usesIf x r d = false) : linkIdx l r d = -1 := by unfold linkIdx; exact linkFrom_none h
/-- Two links of a right topology that share an interface are one. -/
theorem ends_one : ∀ {l : List Lnk} {x y : Lnk}, (allEnds l).Nodup → x ∈ l → y ∈ l → ∀ {q : Int × Int}, q ∈ lnkEnds x → q ∈ lnkEnds y → x = y
  | [], _, _, _, hx, _, _, _, _ => by cases hx
  | z :: l, x, y, hn, hx, hy, q, hqx, hqy => by
    have hn' : (lnkEnds z ++ allEnds l).Nodup := hn
    obtain ⟨_, h2, h3⟩ := List.nodup_append.1 hn'
    have hin : ∀ {u : Lnk}, u ∈ l → q ∈ lnkEnds u → q ∈ allEnds l := fun hu hq => List.mem_flatMap.2 ⟨_, hu, hq⟩
    rcases List.mem_cons.1 hx with ex | hx1
    · rcases List.mem_cons.1 hy with ey | hy1
      · rw [ex, ey]
      · exact absurd rfl (h3 q (by rw [← ex]; exact hqx) q (hin hy1 hqy))
    · rcases List.mem_cons.1 hy with ey | hy1
      · exact absurd rfl (h3 q (by rw [← ey]; exact hqy) q (hin hx1 hqx))
      · exact ends_one h2 hx1 hy1 hqx hqy
/-- What the link at an interface is, and its far end. -/
theorem at_link {t : Topo} (T : TopoOk t) {r d : Int} (h : ∃ x ∈ t.links, usesIf x r d = true) :
    ∃ x ∈ t.links, usesIf x r d = true ∧ remEnd t r d = (if (x.a == r) && (x.ai == d) then (x.b, x.bi) else (x.a, x.ai)) ∧ d ≠ 0 ∧
      ifKind t r d = (if x.kind == 1 then 1 else if x.kind == 3 then 4 else if x.kind == 2 then (if (x.a == r) && (x.ai == d) then 2 else 3) else 0) := by
  obtain ⟨j, x, h1, h2, h3⟩ := linkIdx_hit h
  have hm : x ∈ t.links := List.mem_of_getElem? h2
  obtain ⟨_, _, _, h4, h5⟩ := lnkOk_of (T.ok x hm)
  have hd : d ≠ 0 := by
    rcases usesIf_iff.1 h3 with ⟨_, e⟩ | ⟨_, e⟩ <;> omega
  refine ⟨x, hm, h3, ?_, hd, ?_⟩
  · unfold remEnd
    rw [if_neg (by omega), h1, Int.toNat_natCast, h2]
  · unfold ifKind
    rw [if_neg (by simpa using hd), if_neg (by omega), h1, Int.toNat_natCast, h2]
theorem at_none {t : Topo} {r d : Int} (h : ¬ ∃ x ∈ t.links, usesIf x r d = true) : remEnd t r d = (-1, 0) ∧ (d ≠ 0 → ifKind t r d = 0) := by
  have h1 : linkIdx t.links r d = -1 := linkIdx_none (fun x hx => by
    cases hu : usesIf x r d
    · rfl
    · exact absurd ⟨x, hx, hu⟩ h)
  refine ⟨by unfold remEnd; rw [if_pos (by omega)], fun hd => ?_⟩
  unfold ifKind
  rw [if_neg (by simpa using hd), if_pos (by omega)]
theorem uses_ends {x : Lnk} {r d : Int} : usesIf x r d = true ↔ (r, d) ∈ lnkEnds x := by
  rw [usesIf_iff]
  simp only [lnkEnds, List.mem_cons, List.not_mem_nil, or_false, Prod.mk.injEq]
  constructor
  · rintro (⟨a, b⟩ | ⟨a, b⟩)
    · exact .inl ⟨a.symm, b.symm⟩
    · exact .inr ⟨a.symm, b.symm⟩
  · rintro (⟨a, b⟩ | ⟨a, b⟩)
    · exact .inl ⟨a.symm, b.symm⟩
    · exact .inr ⟨a.symm, b.symm⟩
/-- A packet that came over a permitted link may end where it came. -/
theorem end_ok {t : Topo} (T : TopoOk t) {s' s : Step} (h : stepOk t s' = true) (he : remEnd t s'.asn s'.eg = (s.asn, s.ing)) (h0 : s.eg = 0) : stepOk t s = true := by
  obtain ⟨r, inn, eg⟩ := s
  simp only at he h0 ⊢
  subst h0
  by_cases hi : inn = 0
  · subst hi
    unfold stepOk
    simp [ifKind, transitOk]
  · have hu : ∃ x ∈ t.links, usesIf x s'.asn s'.eg = true := by
      apply Classical.byContradiction
      intro hn
      rw [(at_none hn).1] at he
      cases he
      exact hi rfl
    obtain ⟨x, hx, hux, hre, hd, hk⟩ := at_link T hu
    have hxo := lnkOk_of (T.ok x hx)
    have hin : (r, inn) ∈ lnkEnds x := by
      rw [he] at hre
      unfold lnkEnds
      split at hre
      · cases hre; simp
      · cases hre; simp
    obtain ⟨y, hy, huy, _, _, hky⟩ := at_link T (r := r) (d := inn) ⟨x, hx, uses_ends.2 hin⟩
    obtain rfl := ends_one T.ends hx hy hin (uses_ends.1 huy)
    unfold stepOk at h ⊢
    simp only [Bool.and_eq_true] at h
    have h1 := h.1
    rw [hk] at h1
    have hkk : ifKind t r inn = 1 ∨ ifKind t r inn = 2 ∨ ifKind t r inn = 3 := by
      rw [hky]
      by_cases k1 : x.kind = 1
      · simp [k1]
      · by_cases k2 : x.kind = 2
        · simp only [k2]
          right
          simp only [show ((2 : Int) == 1) = false by decide, show ((2 : Int) == 3) = false by decide, show ((2 : Int) == 2) = true by decide, Bool.false_eq_true, if_false, if_true]
          split
          · exact .inl rfl
          · exact .inr rfl
        · exfalso
          have e1 : (x.kind == 1) = false := by simpa using k1
          have e2 : (x.kind == 2) = false := by simpa using k2
          rw [e1, e2] at h1
          revert h1
          by_cases k3 : x.kind = 3
          · simp only [k3]
            unfold transitOk
            simp only [show ((3 : Int) == 3) = true by decide, Bool.false_eq_true, if_false, if_true, show ((4 : Int) == 1) = false by decide, show ((4 : Int) == 2) = false by decide, show ((4 : Int) == 3) = false by decide, show ((4 : Int) == 5) = false by decide, Bool.or_self]
            split
            · simp
            · split
              · simp
              · split <;> simp
          · have e3 : (x.kind == 3) = false := by simpa using k3
            rw [e3]
            unfold transitOk
            simp only [Bool.false_eq_true, if_false, show ((0 : Int) == 1) = false by decide, show ((0 : Int) == 2) = false by decide, show ((0 : Int) == 3) = false by decide, show ((0 : Int) == 5) = false by decide, Bool.or_self]
            split
            · simp
            · split
              · simp
              · split <;> simp
    have he0 : ifKind t r 0 = 5 := by simp [ifKind]
    rw [he0]
    have hne : (inn != 0) = true := by simpa using hi
    simp only [hne, Bool.true_or, Bool.and_true]
    rcases hkk with e | e | e <;> rw [e] <;> decide
theorem author (t : Topo) (T : TopoOk t) (now : Int) (dead : List Int) (x : Pkt) : ∀ s ∈ (traverse t now dead x).steps, doorOk now x.path.parts s ∧ stepOk t s = true := by
  obtain ⟨W⟩ := traverse_trod t now dead x
  intro s hs
  have hst : (traverse t now dead x).steps = W.pre := by rw [W.steps]; rfl
  rw [hst] at hs
  refine ⟨W.door s hs, ?_⟩
  rcases W.okS s hs with h | ⟨h0, h⟩
  · exact h
  · rcases h with ⟨_, h2⟩ | ⟨s', h1, h2⟩
    · obtain ⟨r, inn, eg⟩ := s
      simp only at h0 h2
      subst h0
      subst h2
      unfold stepOk
      simp [ifKind, transitOk]
    · exact end_ok T h1 h2 h0
end
section
open Go.ChangeShapes Go.WideShapes Go.ChangeAt Go.RowKit Go.Deep

/-- A hop field of the step's AS, with one of its interfaces, in time. -/
def hopDoor (now ts : Int) (h : Hop) (s : Step) : Prop :=
  h.asn = s.asn ∧ (h.ing = s.ing ∨ h.eg = s.ing ∨ h.ing = s.eg ∨ h.eg = s.eg ∨ (s.ing = 0 ∧ s.eg = 0)) ∧ now ≤ h.exp ∧ ts ≤ now
/-- Whether e is set if one of the first hop fields is the step's, or if b is. -/
def Seen (now ts : Int) (sd : Step) (hs : List Hop) (b : Bool) (i : Nat) (e : Bool) : Prop := (b = true → e = true) ∧ ∀ q < i, hopDoor now ts (hopAt hs q) sd → e = true
def Doors (hd : Hop) (sd : Step) (db : Bool) : Prop := (hd.ing = sd.ing ∨ hd.eg = sd.ing ∨ hd.ing = sd.eg ∨ hd.eg = sd.eg ∨ (sd.ing = 0 ∧ sd.eg = 0)) → db = true
/-- One more hop field was looked at. -/
theorem Seen.step {now ts : Int} {sd : Step} {hs : List Hop} {i : Nat} {hd : Hop} {b c db e : Bool} (hc : Seen now ts sd hs b i c)
    (ha : hopAt hs i = hd) (hb : Doors hd sd db) (h1 : c = true → e = true) (h2 : hd.asn = sd.asn → db = true → now ≤ hd.exp → ts ≤ now → e = true) : Seen now ts sd hs b (i + 1) e := by
  refine ⟨fun h => h1 (hc.1 h), fun q hq hh => ?_⟩
  rcases Nat.lt_or_ge q i with h3 | h3
  · exact h1 (hc.2 q h3 hh)
  · obtain rfl : q = i := by omega
    rw [ha] at hh
    exact h2 hh.1 (hb hh.2.1) hh.2.2.1 hh.2.2.2

set_option maxRecDepth 100000 in
set_option maxHeartbeats 20000000 in
theorem l_FnAuthor (code : List Int) (cv : Value) (w : World) (hr : RdS Rep.byte w cv code) (hu : ∀ x ∈ code, U8 x) :
    Calls Tryz.prog 4 #[cv] w fun e w' => e = .returned (.bool true) ∧ Ext w w' := by
  obtain ⟨co, cc, rfl, _⟩ := hr.shape
  by_cases hbig : 1048576 < code.length
  · have hb1 : decide (1048576 < code.length) = true := by simpa using hbig
    have HB1 := Lib.hid hb1; clear hb1
    go_enter Tryz.func4, Tryz.ntmps4
    go_wp2_with fail
    refine (l_big code _ _ hr).mono ?_
    rintro e _ ⟨rfl, rfl⟩
    rw [HB1.out]
    go_wp2_with fail
    go_ret
    exact ⟨rfl, Ext.refl _⟩
  have hb1 : decide (1048576 < code.length) = false := by simpa using hbig
  have hl : code.length ≤ 1048576 := by omega
  have HB1 := Lib.hid hb1; clear hb1 hbig
  go_enter Tryz.func4, Tryz.ntmps4
  go_wp2_with fail
  refine (l_big code _ _ hr).mono ?_
  rintro e _ ⟨rfl, rfl⟩
  rw [HB1.out]
  go_wp2_with fail
  refine (s_DrawTraverse code _ _ (hr.ext (Ext.refl _)) hu hl).mono ?_
  rintro e w1 ⟨v1, v2, vd, u0, u1, t, now, dead, x, rfl, TK, hxb, hdl, rA, rL, rD, r0, r1, hz1⟩
  obtain ⟨o1, c1, rfl, _⟩ := rA.shape
  obtain ⟨o2, c2, rfl, _⟩ := rL.shape
  obtain ⟨o_d, c_d, rfl, _⟩ := rD.shape
  obtain ⟨o_0, c_0, rfl, _⟩ := r0.shape
  obtain ⟨o_1, c_1, rfl, _⟩ := r1.shape
  have hxs := hxb.size
  have hts : t.size ≤ 1048576 := by have h1 := TK.n8; have h2 := TK.few; unfold Topo.size; omega
  have hx1 := ext2 w1 (.cells #[.slice o1 t.ases.length c1, .slice o2 t.links.length c2] 33) (.cells #[.int .i64 x.kind, .int .i64 x.src, .int .i64 x.dst, .slice o_0 x.path.parts.length c_0, .int .i64 x.pi, .int .i64 x.hi, .int .i64 x.beta, .int .i64 x.rid, .int .i64 x.seq, .slice o_1 x.pay.length c_1] 28)
  have HB1 := Lib.hid (al2 w1 (.cells #[.slice o1 t.ases.length c1, .slice o2 t.links.length c2] 33) (.cells #[.int .i64 x.kind, .int .i64 x.src, .int .i64 x.dst, .slice o_0 x.path.parts.length c_0, .int .i64 x.pi, .int .i64 x.hi, .int .i64 x.beta, .int .i64 x.rid, .int .i64 x.seq, .slice o_1 x.pay.length c_1] 28))
  have cf1 := blk2 HB1.out.1
  have cf2 := blk10 HB1.out.2
  go_wp2_with fail
  refine (i_Traverse t _ _ now dead _ x _ _ _ (rA.ext hx1) (rL.ext hx1) (rD.ext hx1) (r0.ext hx1) (r1.ext hx1) hts (by omega)).mono ?_
  rintro e w2 ⟨y0, y1, y2, rfl, OT, hz2⟩
  obtain ⟨z, hz⟩ : ∃ z, z = traverse t now dead x := ⟨_, rfl⟩
  rw [← hz] at OT ⊢
  have hzs : z.size ≤ 1048576 := by rw [hz]; have h1 := traverse_size t now dead x; omega
  have HZ := Lib.hid hz
  clear hz
  have rS := Trc.own_rd0 OT
  have rP := Trc.own_rd1 OT
  have rY := Trc.own_rd2 OT
  clear OT
  obtain ⟨o_sz, c_sz, rfl, _⟩ := rS.shape
  obtain ⟨o_0z, c_0z, rfl, _⟩ := rP.shape
  obtain ⟨o_1z, c_1z, rfl, _⟩ := rY.shape
  have hx2 : Ext w2 (w2.alloc (.cells #[.int .i64 z.code, .slice o_sz z.steps.length c_sz, .int .i64 z.pkt.kind, .int .i64 z.pkt.src, .int .i64 z.pkt.dst, .slice o_0z z.pkt.path.parts.length c_0z, .int .i64 z.pkt.pi, .int .i64 z.pkt.hi, .int .i64 z.pkt.beta, .int .i64 z.pkt.rid, .int .i64 z.pkt.seq, .slice o_1z z.pkt.pay.length c_1z] 56)) := (Ext.refl _).alloc _
  have HB2 := Lib.hid (blk_new w2 (.cells #[.int .i64 z.code, .slice o_sz z.steps.length c_sz, .int .i64 z.pkt.kind, .int .i64 z.pkt.src, .int .i64 z.pkt.dst, .slice o_0z z.pkt.path.parts.length c_0z, .int .i64 z.pkt.pi, .int .i64 z.pkt.hi, .int .i64 z.pkt.beta, .int .i64 z.pkt.rid, .int .i64 z.pkt.seq, .slice o_1z z.pkt.pay.length c_1z] 56))
  have LAW := author t TK now dead x
  have hcode : (z.code != 0) = true := by rw [bne_iff_ne, HZ.out]; exact (no_door_twice t now dead x).2.2
  rw [← HZ.out] at LAW
  have HLAW := Lib.hid LAW
  clear LAW
  try clear cf1
  try clear cf2
  have cf3 := blk2 (Ext.block (hz2.trans hx2) HB1.out.1)
  have cf4 := blk10 (Ext.block (hz2.trans hx2) HB1.out.2)
  have cf5 := blk12 HB2.out
  go_wp2_with fail
  go_loopg [8] z.steps.length (fun gk i wr => ∃ k : Nat, gk + k = z.steps.length ∧ i = .int .i64 k ∧ Ext (w2.alloc (.cells #[.int .i64 z.code, .slice o_sz z.steps.length c_sz, .int .i64 z.pkt.kind, .int .i64 z.pkt.src, .int .i64 z.pkt.dst, .slice o_0z z.pkt.path.parts.length c_0z, .int .i64 z.pkt.pi, .int .i64 z.pkt.hi, .int .i64 z.pkt.beta, .int .i64 z.pkt.rid, .int .i64 z.pkt.seq, .slice o_1z z.pkt.pay.length c_1z] 56)) wr)
  case atStart => exact ⟨0, by omega, rfl, Ext.refl _⟩
  case round =>
    obtain ⟨gko, hgq⟩ : ∃ q : Nat, q = gk := ⟨_, rfl⟩
    subst hgq
    obtain ⟨wr1, hwq⟩ : ∃ q : World, q = wr := ⟨_, rfl⟩
    subst hwq
    obtain ⟨k, hgk, rfl, hx⟩ := hrel
    have HGK := Lib.hid hgk
    clear hgk
    by_cases hlt : k < z.steps.length
    · have hlt2 : (k : Int) < (z.steps.length : Int) := by omega
      obtain ⟨bs, offs, rfl, hcs⟩ := Step.at (rS.ext (hx2.trans hx)) k hlt
      obtain ⟨sd, hsd⟩ : ∃ sd, sd = z.steps[k] := ⟨_, rfl⟩
      rw [← hsd] at hcs
      have HSL : Hid (doorOk now x.path.parts sd ∧ stepOk t sd = true) := Lib.hid (HLAW.out sd (by rw [hsd]; exact List.getElem_mem _))
      clear hsd
      have hx8 : Ext wr1 (wr1.alloc (.cells #[.int .i64 sd.asn, .int .i64 sd.ing, .int .i64 sd.eg] 59)) := (Ext.refl _).alloc _
      have HB8 := Lib.hid (blk_new wr1 (.cells #[.int .i64 sd.asn, .int .i64 sd.ing, .int .i64 sd.eg] 59))
      obtain ⟨b8, hb8⟩ : ∃ b, b = wr1.heap.size := ⟨_, rfl⟩
      have HB8e := Lib.hid hb8
      clear hb8
      try clear cf3
      try clear cf4
      try clear cf5
      have cf6 := blk2 (Ext.block ((hz2.trans hx2).trans hx) HB1.out.1)
      have cf7 := blk10 (Ext.block ((hz2.trans hx2).trans hx) HB1.out.2)
      have cf8 := blk12 (Ext.block hx HB2.out)
      go_wp2_with fail
      rw [← HB8e.out] at HB8
      rw [← HB8e.out]
      clear hcs HB8e
      generalize wr1.alloc (.cells #[.int .i64 sd.asn, .int .i64 sd.ing, .int .i64 sd.eg] 59) = w8 at hx8 HB8 ⊢
      go_loopg [10, 11] x.path.parts.length (fun gk fb j wp => ∃ (m : Nat) (b : Bool), gk + m = x.path.parts.length ∧ fb = .bool b ∧ j = .int .i64 m ∧ Hid (∀ j < m, ∀ i < (partAt x.path.parts j).hops.length, hopDoor now (partAt x.path.parts j).ts (hopAt (partAt x.path.parts j).hops i) sd → b = true) ∧ Ext w8 wp)
      case atStart => exact ⟨0, false, by omega, rfl, rfl, Lib.hid (fun j hj => by omega), Ext.refl _⟩
      case round =>
        obtain ⟨gkm, hgq⟩ : ∃ q : Nat, q = gk := ⟨_, rfl⟩
        subst hgq
        obtain ⟨wp, hwq⟩ : ∃ q : World, q = wr := ⟨_, rfl⟩
        subst hwq
        obtain ⟨m, b, hgm, rfl, rfl, HD, hy⟩ := hrel
        have HGM := Lib.hid hgm
        clear hgm
        by_cases hmt : m < x.path.parts.length
        · have hmt2 : (m : Int) < (x.path.parts.length : Int) := by omega
          obtain ⟨bp, offp, oh, ch, rfl, hcp, hrh⟩ := Part.at (r0.ext (((((hx1.trans hz2).trans hx2).trans hx).trans hx8).trans hy)) m hmt
          have hpa := partAt_at hmt
          have hp5 := hxb.hops x.path.parts[m] (List.getElem_mem _)
          obtain ⟨pd, hpd⟩ : ∃ pd, pd = x.path.parts[m] := ⟨_, rfl⟩
          rw [← hpd] at hcp hrh hpa hp5
          have HPA := Lib.hid hpa
          clear hpa hpd
          have hx12 : Ext wp (wp.alloc (.cells #[.int .i64 pd.kind, .int .i64 pd.ts, .int .i64 pd.beta, .slice oh pd.hops.length ch] 47)) := (Ext.refl _).alloc _
          have HB12 := Lib.hid (blk_new wp (.cells #[.int .i64 pd.kind, .int .i64 pd.ts, .int .i64 pd.beta, .slice oh pd.hops.length ch] 47))
          obtain ⟨b12, hb12⟩ : ∃ b, b = wp.heap.size := ⟨_, rfl⟩
          have HB12e := Lib.hid hb12
          clear hb12
          try clear cf6
          try clear cf7
          try clear cf8
          have cf9 := blk2 (Ext.block ((((hz2.trans hx2).trans hx).trans hx8).trans hy) HB1.out.1)
          have cf10 := blk10 (Ext.block ((((hz2.trans hx2).trans hx).trans hx8).trans hy) HB1.out.2)
          have cf11 := blk12 (Ext.block ((hx.trans hx8).trans hy) HB2.out)
          have cf12 := blk3 (Ext.block hy HB8.out)
          go_wp2_with fail
          rw [← HB12e.out] at HB12
          rw [← HB12e.out]
          replace hrh := hrh.ext hx12
          clear hcp HB12e
          generalize wp.alloc (.cells #[.int .i64 pd.kind, .int .i64 pd.ts, .int .i64 pd.beta, .slice oh pd.hops.length ch] 47) = w12 at hx12 HB12 hrh ⊢
          go_loopg [10, 13] pd.hops.length (fun gk fb j wh => ∃ (i : Nat) (c : Bool), gk + i = pd.hops.length ∧ fb = .bool c ∧ j = .int .i64 i ∧ Seen now pd.ts sd pd.hops b i c ∧ Ext w12 wh)
          case atStart => exact ⟨0, b, by omega, rfl, rfl, ⟨fun h => h, fun j hj => by omega⟩, Ext.refl _⟩
          case round =>
            obtain ⟨gki, hgq⟩ : ∃ q : Nat, q = gk := ⟨_, rfl⟩
            subst hgq
            obtain ⟨wh, hwq⟩ : ∃ q : World, q = wr := ⟨_, rfl⟩
            subst hwq
            obtain ⟨i, c, hgi, rfl, rfl, HC, hv⟩ := hrel
            have HGI := Lib.hid hgi
            clear hgi
            by_cases hit : i < pd.hops.length
            · have hit2 : (i : Int) < (pd.hops.length : Int) := by omega
              obtain ⟨bh, offh, rfl, hch⟩ := Hop.at (hrh.ext hv) i hit
              have hha := hopAt_at hit
              obtain ⟨hd, hhd⟩ : ∃ hd, hd = pd.hops[i] := ⟨_, rfl⟩
              rw [← hhd] at hch hha
              have HHA := Lib.hid hha
              clear hha hhd
              have hx14 : Ext wh (wh.alloc (.cells #[.int .i64 hd.asn, .int .i64 hd.ing, .int .i64 hd.eg, .int .i64 hd.exp, .int .i64 hd.mac] 44)) := (Ext.refl _).alloc _
              have HB14 := Lib.hid (blk_new wh (.cells #[.int .i64 hd.asn, .int .i64 hd.ing, .int .i64 hd.eg, .int .i64 hd.exp, .int .i64 hd.mac] 44))
              obtain ⟨b14, hb14⟩ : ∃ b, b = wh.heap.size := ⟨_, rfl⟩
              have HB14e := Lib.hid hb14
              clear hb14
              try clear cf9
              try clear cf10
              try clear cf11
              try clear cf12
              have cf13 := blk2 (Ext.block ((((((hz2.trans hx2).trans hx).trans hx8).trans hy).trans hx12).trans hv) HB1.out.1)
              have cf14 := blk10 (Ext.block ((((((hz2.trans hx2).trans hx).trans hx8).trans hy).trans hx12).trans hv) HB1.out.2)
              have cf15 := blk12 (Ext.block ((((hx.trans hx8).trans hy).trans hx12).trans hv) HB2.out)
              have cf16 := blk3 (Ext.block ((hy.trans hx12).trans hv) HB8.out)
              have cf17 := blk4 (Ext.block hv HB12.out)
              go_upto_region 18 with (fail)
              rw [← HB14e.out] at HB14
              rw [← HB14e.out]
              clear hch HB14e
              generalize wh.alloc (.cells #[.int .i64 hd.asn, .int .i64 hd.ing, .int .i64 hd.eg, .int .i64 hd.exp, .int .i64 hd.mac] 44) = w14 at hx14 HB14 ⊢
              try clear cf13
              try clear cf14
              try clear cf15
              try clear cf16
              try clear cf17
              have cf18 := blk2 (Ext.block (((((((hz2.trans hx2).trans hx).trans hx8).trans hy).trans hx12).trans hv).trans hx14) HB1.out.1)
              have cf19 := blk10 (Ext.block (((((((hz2.trans hx2).trans hx).trans hx8).trans hy).trans hx12).trans hv).trans hx14) HB1.out.2)
              have cf20 := blk12 (Ext.block (((((hx.trans hx8).trans hy).trans hx12).trans hv).trans hx14) HB2.out)
              have cf21 := blk3 (Ext.block (((hy.trans hx12).trans hv).trans hx14) HB8.out)
              have cf22 := blk4 (Ext.block (hv.trans hx14) HB12.out)
              have cf23 := blk5 HB14.out
              go_cut [15] (fun c wx => ∃ db : Bool, c = .bool db ∧ Doors hd sd db ∧ w14 = wx)
              case first =>
                cases hf0 : (hd.ing == sd.ing)
                · cases hf1 : (hd.eg == sd.ing)
                  · cases hf2 : (hd.ing == sd.eg)
                    · cases hf3 : (hd.eg == sd.eg)
                      · cases hz1 : (sd.ing == 0)
                        · have HZ1 := Lib.hid hz1
                          have HH := Lib.hid (And.intro hf0 (And.intro hf1 (And.intro hf2 hf3)))
                          go_wp2_with fail
                          go_meet
                          exact ⟨false, rfl, fun h => (by
                            obtain ⟨k0, k1, k2, k3⟩ := HH.out
                            rw [beq_eq_false_iff_ne] at k0 k1 k2 k3
                            have k4 := HZ1.out
                            rw [beq_eq_false_iff_ne] at k4
                            rcases h with h | h | h | h | h
                            · exact absurd h k0
                            · exact absurd h k1
                            · exact absurd h k2
                            · exact absurd h k3
                            · exact absurd h.1 k4), rfl⟩
                        · have HH := Lib.hid (And.intro hf0 (And.intro hf1 (And.intro hf2 hf3)))
                          go_wp2_with fail
                          go_meet
                          exact ⟨_, rfl, fun h => (by
                            obtain ⟨k0, k1, k2, k3⟩ := HH.out
                            rw [beq_eq_false_iff_ne] at k0 k1 k2 k3
                            rcases h with h | h | h | h | h
                            · exact absurd h k0
                            · exact absurd h k1
                            · exact absurd h k2
                            · exact absurd h k3
                            · rw [h.2]; rfl), rfl⟩
                      · go_wp2_with fail
                        go_meet
                        exact ⟨true, rfl, fun _ => rfl, rfl⟩
                    · go_wp2_with fail
                      go_meet
                      exact ⟨true, rfl, fun _ => rfl, rfl⟩
                  · go_wp2_with fail
                    go_meet
                    exact ⟨true, rfl, fun _ => rfl, rfl⟩
                · go_wp2_with fail
                  go_meet
                  exact ⟨true, rfl, fun _ => rfl, rfl⟩
              case rest =>
                obtain ⟨db, rfl, HDB, hwx⟩ := hcut
                subst hwx
                cases c
                case false =>
                  cases h1 : (hd.asn == sd.asn)
                  · have H1 := Lib.hid h1
                    have HS : Seen now pd.ts sd pd.hops b (i + 1) (false) := Seen.step HC HHA.out HDB (fun h => by cases h) (fun h => absurd h (by have h2 := H1.out; rw [beq_eq_false_iff_ne] at h2; exact h2))
                    go_wp2_with fail
                    go_roundg (gki - 1)
                    case measure => have h2 := HGI.out; omega
                    case rel => exact ⟨i + 1, _, by have h2 := HGI.out; omega, rfl, congrArg (Value.int .i64) (by first | omega | (unfold wrap64; omega)), HS, hv.trans hx14⟩
                  · cases db
                    case false =>
                      have HS : Seen now pd.ts sd pd.hops b (i + 1) (false) := Seen.step HC HHA.out HDB (fun h => by cases h) (fun _ h => by cases h)
                      go_wp2_with fail
                      go_roundg (gki - 1)
                      case measure => have h2 := HGI.out; omega
                      case rel => exact ⟨i + 1, _, by have h2 := HGI.out; omega, rfl, congrArg (Value.int .i64) (by first | omega | (unfold wrap64; omega)), HS, hv.trans hx14⟩
                    case true =>
                      by_cases h2 : now ≤ hd.exp
                      · have h3 : decide (now ≤ hd.exp) = true := decide_eq_true h2
                        clear h2
                        have HS : Seen now pd.ts sd pd.hops b (i + 1) (decide (pd.ts ≤ now)) := Seen.step HC HHA.out HDB (fun h => (by cases h)) (fun _ _ _ h => decide_eq_true h)
                        go_wp2_with fail
                        go_roundg (gki - 1)
                        case measure => have h2 := HGI.out; omega
                        case rel => exact ⟨i + 1, _, by have h2 := HGI.out; omega, rfl, congrArg (Value.int .i64) (by first | omega | (unfold wrap64; omega)), HS, hv.trans hx14⟩
                      · have h3 : decide (now ≤ hd.exp) = false := decide_eq_false h2
                        have H2 := Lib.hid h2
                        clear h2
                        have HS : Seen now pd.ts sd pd.hops b (i + 1) (false) := Seen.step HC HHA.out HDB (fun h => by cases h) (fun _ _ h => absurd h H2.out)
                        go_wp2_with fail
                        go_roundg (gki - 1)
                        case measure => have h2 := HGI.out; omega
                        case rel => exact ⟨i + 1, _, by have h2 := HGI.out; omega, rfl, congrArg (Value.int .i64) (by first | omega | (unfold wrap64; omega)), HS, hv.trans hx14⟩
                case true =>
                  have HS : Seen now pd.ts sd pd.hops b (i + 1) (true) := Seen.step HC HHA.out HDB (fun _ => rfl) (fun _ _ _ _ => rfl)
                  go_wp2_with fail
                  go_roundg (gki - 1)
                  case measure => have h2 := HGI.out; omega
                  case rel => exact ⟨i + 1, _, by have h2 := HGI.out; omega, rfl, congrArg (Value.int .i64) (by first | omega | (unfold wrap64; omega)), HS, hv.trans hx14⟩
            · have hge : ¬ (i : Int) < (pd.hops.length : Int) := by omega
              have hiL : pd.hops.length ≤ i := by omega
              have HIL := Lib.hid hiL
              clear hiL
              try clear cf9
              try clear cf10
              try clear cf11
              try clear cf12
              have cf24 := blk2 (Ext.block ((((((hz2.trans hx2).trans hx).trans hx8).trans hy).trans hx12).trans hv) HB1.out.1)
              have cf25 := blk10 (Ext.block ((((((hz2.trans hx2).trans hx).trans hx8).trans hy).trans hx12).trans hv) HB1.out.2)
              have cf26 := blk12 (Ext.block ((((hx.trans hx8).trans hy).trans hx12).trans hv) HB2.out)
              have cf27 := blk3 (Ext.block ((hy.trans hx12).trans hv) HB8.out)
              have cf28 := blk4 (Ext.block hv HB12.out)
              go_wp2_with fail
              go_roundg (gkm - 1)
              case measure => have h2 := HGM.out; omega
              case rel =>
                refine ⟨m + 1, c, by have h2 := HGM.out; omega, rfl, congrArg (Value.int .i64) (by first | omega | (unfold wrap64; omega)), Lib.hid (fun j hj q hq hh => ?_), ((hy.trans hx12).trans hv)⟩
                rcases Nat.lt_or_ge j m with h1 | h1
                · exact HC.1 (HD.out j h1 q hq hh)
                · obtain rfl : j = m := by omega
                  rw [HPA.out] at hq hh
                  exact HC.2 q (by have h2 := HIL.out; omega) hh
        · have hge : ¬ (m : Int) < (x.path.parts.length : Int) := by omega
          have hb1 : b = true := by
            obtain ⟨j, i, h1, h2, h3, h4, h5, h6⟩ := HSL.out.1
            exact HD.out j (by omega) i h2 ⟨h3, h4, h5, h6⟩
          subst hb1
          try clear cf6
          try clear cf7
          try clear cf8
          have cf29 := blk2 (Ext.block ((((hz2.trans hx2).trans hx).trans hx8).trans hy) HB1.out.1)
          have cf30 := blk10 (Ext.block ((((hz2.trans hx2).trans hx).trans hx8).trans hy) HB1.out.2)
          have cf31 := blk12 (Ext.block ((hx.trans hx8).trans hy) HB2.out)
          have cf32 := blk3 (Ext.block hy HB8.out)
          go_wp2_with fail
          refine (i_StepAllowed t _ _ sd _ (rL.ext (((((hx1.trans hz2).trans hx2).trans hx).trans hx8).trans hy))).mono ?_
          rintro e wq ⟨rfl, hzq⟩
          rw [HSL.out.2]
          try clear cf29
          try clear cf30
          try clear cf31
          try clear cf32
          have cf33 := blk2 (Ext.block (((((hz2.trans hx2).trans hx).trans hx8).trans hy).trans hzq) HB1.out.1)
          have cf34 := blk10 (Ext.block (((((hz2.trans hx2).trans hx).trans hx8).trans hy).trans hzq) HB1.out.2)
          have cf35 := blk12 (Ext.block (((hx.trans hx8).trans hy).trans hzq) HB2.out)
          have cf36 := blk3 (Ext.block (hy.trans hzq) HB8.out)
          go_wp2_with fail
          go_roundg (gko - 1)
          case measure => have h2 := HGK.out; omega
          case rel => exact ⟨k + 1, by have h2 := HGK.out; omega, congrArg (Value.int .i64) (by first | omega | (unfold wrap64; omega)), (((hx.trans hx8).trans hy).trans hzq)⟩
    · have hge : ¬ (k : Int) < (z.steps.length : Int) := by omega
      try clear cf3
      try clear cf4
      try clear cf5
      have cf37 := blk2 (Ext.block ((hz2.trans hx2).trans hx) HB1.out.1)
      have cf38 := blk10 (Ext.block ((hz2.trans hx2).trans hx) HB1.out.2)
      have cf39 := blk12 (Ext.block hx HB2.out)
      go_wp2_with fail
      go_ret
      exact ⟨ret_bool rfl, ((((hz1.trans hx1).trans hz2).trans hx2).trans hx)⟩

end
end Go.Proofs.YtjmlicmloacmaaaGreat
