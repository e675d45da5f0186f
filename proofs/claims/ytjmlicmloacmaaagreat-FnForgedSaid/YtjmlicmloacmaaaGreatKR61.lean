/- What these laws need: FnForged: The walk of the law on forged hop fields: a path of which one hop field was turned is dropped. -/
import Derived.Test.YtjmlicmloacmaaaGreatKR33
import Derived.Test.YtjmlicmloacmaaaGreatKR58
import Derived.Test.YtjmlicmloacmaaaGreatKR59
import Derived.Test.YtjmlicmloacmaaaGreatKR60
namespace Go.Proofs.YtjmlicmloacmaaaGreat
section
open Go.ChangeShapes Go.WideShapes Go.ChangeAt Go.RowKit Go.Deep
/-- A whole hop of a row is written. -/
theorem hop_put5 {base gh m cap : Nat} {e : TypeId} {w : World} {l : List Hop} (h : OwnF Hop.f 5 base e w (.slice (some ⟨gh, 0, none⟩) m cap) l) (i : Nat) (hi : i < l.length) (x : Hop) :
  ∃ w5, w5 = ((((w.setCell ⟨gh, i * 5, none⟩ (.int .i64 x.asn)).setCell ⟨gh, i * 5 + 1, none⟩ (.int .i64 x.ing)).setCell ⟨gh, i * 5 + 2, none⟩ (.int .i64 x.eg)).setCell ⟨gh, i * 5 + 3, none⟩ (.int .i64 x.exp)).setCell ⟨gh, i * 5 + 4, none⟩ (.int .i64 x.mac) ∧
   OwnF Hop.f 5 base e w5 (.slice (some ⟨gh, 0, none⟩) m cap) (l.set i x) ∧ Chg (at1 gh) w w5 := by
 have h0 := (OwnF.put1 Hop.flen h i hi 0 (by decide) (.int .i64 x.asn) ⟨x.asn, l[i].ing, l[i].eg, l[i].exp, l[i].mac⟩ rfl).1
 have h1 := (OwnF.put1 Hop.flen h0 i (by simpa using hi) 1 (by decide) (.int .i64 x.ing) ⟨x.asn, x.ing, l[i].eg, l[i].exp, l[i].mac⟩ (by rw [List.getElem_set_self]; rfl)).1
 rw [List.set_set] at h1
 have h2 := (OwnF.put1 Hop.flen h1 i (by simpa using hi) 2 (by decide) (.int .i64 x.eg) ⟨x.asn, x.ing, x.eg, l[i].exp, l[i].mac⟩ (by rw [List.getElem_set_self]; rfl)).1
 rw [List.set_set] at h2
 have h3 := (OwnF.put1 Hop.flen h2 i (by simpa using hi) 3 (by decide) (.int .i64 x.exp) ⟨x.asn, x.ing, x.eg, x.exp, l[i].mac⟩ (by rw [List.getElem_set_self]; rfl)).1
 rw [List.set_set] at h3
 have h4 := (OwnF.put1 Hop.flen h3 i (by simpa using hi) 4 (by decide) (.int .i64 x.mac) x (by rw [List.getElem_set_self]; rfl)).1
 rw [List.set_set] at h4
 have q (o : Nat) (u : Value) {wq : World} (h : Chg (at1 gh) w wq) := Chg.setC (S := at1 gh) (p := ⟨gh, o, none⟩) h rfl u
 exact ⟨_, rfl, h4, q _ _ (q _ _ (q _ _ (q _ _ (q _ _ (Chg.refl _ _)))))⟩
/-- A hop of a part of an own row of parts is written. -/
theorem part_hop_put {lo hi : Nat} {w : World} {gp m cap gh ch : Nat} {l : List Part} (h : Part.own.own (rng lo hi) w (.slice (some ⟨gp, 0, none⟩) m cap) l) (k : Nat) (hk : k < l.length) (i : Nat) (hi' : i < l[k].hops.length)
  (hc : w.cell? ⟨gp, k * 4 + 3, none⟩ = some (.slice (some ⟨gh, 0, none⟩) l[k].hops.length ch)) (x : Hop) :
  ∃ w5, w5 = ((((w.setCell ⟨gh, i * 5, none⟩ (.int .i64 x.asn)).setCell ⟨gh, i * 5 + 1, none⟩ (.int .i64 x.ing)).setCell ⟨gh, i * 5 + 2, none⟩ (.int .i64 x.eg)).setCell ⟨gh, i * 5 + 3, none⟩ (.int .i64 x.exp)).setCell ⟨gh, i * 5 + 4, none⟩ (.int .i64 x.mac) ∧
   Part.own.own (rng lo hi) w5 (.slice (some ⟨gp, 0, none⟩) m cap) (l.set k { l[k] with hops := l[k].hops.set i x }) ∧ Chg (at1 gh) w w5 := by
 obtain ⟨hv, T, hcc, ho, hT, hre⟩ := nest_at h k hk
 have e : hv = .slice (some ⟨gh, 0, none⟩) l[k].hops.length ch := by
  have := hcc 3 hv rfl
  rw [hc] at this
  exact (Option.some.inj this).symm
 subst e
 obtain ⟨w5, hw5, hp, hch⟩ := hop_put5 ho.1 i hi' x
 have hT2 : T gh := ho.2 gh rfl
 refine ⟨w5, hw5, hre _ { l[k] with hops := l[k].hops.set i x } (hch.mono (fun b hb => by have e : b = gh := hb; rw [e]; exact hT2)) ⟨?_, ?_⟩ (by simp [Part.c]), hch⟩
 ·
  simpa using hp
 ·
  intro b hb
  have e : b = gh := by simpa [Value.ownBlock] using hb.symm
  rw [e]; exact hT2
theorem emod_nat {r : Int} {n : Nat} (hn : 0 < n) : ∃ k : Nat, r % (n : Int) = k ∧ k < n := by
 have h1 := Int.emod_nonneg r (show (n : Int) ≠ 0 by omega)
 have h2 := Int.emod_lt_of_pos r (show (0 : Int) < n by omega)
 exact ⟨(r % n).toNat, by omega, by omega⟩
theorem l_atE (code : List Int) (v : Value) (i : Int) (w : World) (hr : RdS Rep.byte w v code) (hu : ∀ x ∈ code, U8 x) (h0 : 0 ≤ i) (h1 : i ≤ 1048576) (hl : code.length ≤ 1048576) :
  Calls Tryz.prog 38 #[v, .int .i64 i] w fun e w' => ∃ r : Int, e = .returned (.int .i64 r) ∧ 0 ≤ r ∧ r ≤ 255 ∧ Ext w w' :=
 (l_at code v i w hr hu h0 h1 hl).mono fun _ _ ⟨r, a1, a2, a3, a4⟩ => ⟨r, a1, a2, a3, a4 ▸ Ext.refl _⟩
theorem usable_some {t : Topo} {p : Pth} {now : Int} (h : usable t p now = true) : 0 < p.parts.length := by
 have h1 := (usable_of h).1
 unfold simple wfPath at h1
 simp only [Bool.and_eq_true, inR_true] at h1
 omega
theorem partAt_getElem {l : List Part} {k : Nat} (h : k < l.length) : partAt l k = l[k] := by simp [partAt, h]
set_option maxRecDepth 100000 in
set_option maxHeartbeats 20000000 in
theorem l_FnForged (code : List Int) (cv : Value) (w : World) (hr : RdS Rep.byte w cv code) (hu : ∀ x ∈ code, U8 x) :
  Calls Tryz.prog 6 #[cv] w fun e w' => e = .returned (.bool true) ∧ Ext w w' := by
 obtain ⟨co, cc, rfl, _⟩ := hr.shape
 by_cases hbig : 1048576 < code.length
 ·
  have hb1 : decide (1048576 < code.length) = true := by simpa using hbig
  have HB1 := Lib.hid hb1; clear hb1
  go_enter Tryz.func6, Tryz.ntmps6
  go_wp2_with fail
  refine (l_big code _ _ hr).mono ?_
  rintro e _ ⟨rfl, rfl⟩
  rw [HB1.out]
  go_wp2_with fail
  go_ret
  exact ⟨rfl, Ext.refl _⟩
 have hb1 : decide (1048576 < code.length) = false := by simpa using hbig
 have hl : code.length ≤ 1048576 := by omega
 have HB1 := Lib.hid hb1; clear hb1 hbig
 go_enter Tryz.func6, Tryz.ntmps6
 go_wp2_with fail
 refine (l_big code _ _ hr).mono ?_
 rintro e _ ⟨rfl, rfl⟩
 rw [HB1.out]
 go_wp2_with fail
 refine (s_DrawPath code _ _ (hr.ext (Ext.refl _)) hu hl).mono ?_
 rintro e w1 ⟨v1, v2, vp, t, p, rfl, TK, PDr, rA, rL, rP, hz1⟩
 obtain ⟨o1, c1, rfl, _⟩ := rA.shape
 obtain ⟨o2, c2, rfl, _⟩ := rL.shape
 obtain ⟨o_0, c_0, rfl, _⟩ := rP.shape
 have hps := PDr.size
 have hpl := PDr.len
 have hxb : (usable t p 50 != usable t p 50) = false := by simp
 have hts : t.size ≤ 1048576 := by have h1 := TK.n8; have h2 := TK.few; unfold Topo.size; omega
 have hx1 := ext2 w1 (.cells #[.slice o1 t.ases.length c1, .slice o2 t.links.length c2] 33) (.cells #[.slice o_0 p.parts.length c_0] 26)
 have HB1 := Lib.hid (al2 w1 (.cells #[.slice o1 t.ases.length c1, .slice o2 t.links.length c2] 33) (.cells #[.slice o_0 p.parts.length c_0] 26))
 have cf1 := blk2 HB1.out.1
 have cf2 := blk1 HB1.out.2
 go_wp2_with fail
 refine planStep (.blk [0, 1, 3, 4] (.one 2 (.one 5 (.blk [6] .done)))) [] (by kernel_rfl) (by kernel_rfl) ?_
 try clear cf1
 try clear cf2
 have cf3 := blk2 (Ext.block ((Ext.refl _).drew) HB1.out.1)
 have cf4 := blk1 (Ext.block ((Ext.refl _).drew) HB1.out.2)
 refine blkStep (fun K HK => ?_)
 simp only [PK]
 go_wp2_with fail
 refine HK.out _ _ ?_
 clear HK K
 refine oneStep (fun K HK => ?_)
 simp only [PK]
 go_wp2_with fail
 refine (i_PathUsable t _ _ p _ 50 _ (rA.ext (hx1.trans ((Ext.refl _).drew))) (rL.ext (hx1.trans ((Ext.refl _).drew))) (rP.ext (hx1.trans ((Ext.refl _).drew))) (by omega)).mono ?_
 rintro e w2 ⟨rfl, hz2⟩
 try clear cf3
 try clear cf4
 have cf5 := blk2 (Ext.block (((Ext.refl _).drew).trans hz2) HB1.out.1)
 have cf6 := blk1 (Ext.block (((Ext.refl _).drew).trans hz2) HB1.out.2)
 go_wp2_with fail
 refine HK.out _ _ hz2 ?_
 clear HK K
 refine oneStep (fun K HK => ?_)
 simp only [PK]
 go_wp2_with fail
 refine (s_PathUsable t _ _ p _ 50 _ (rA.ext ((hx1.trans ((Ext.refl _).drew)).trans hz2)) (rL.ext ((hx1.trans ((Ext.refl _).drew)).trans hz2)) (rP.ext ((hx1.trans ((Ext.refl _).drew)).trans hz2)) (by omega)).mono ?_
 rintro e w3 ⟨rfl, hz3⟩
 try clear cf5
 try clear cf6
 have cf7 := blk2 (Ext.block ((((Ext.refl _).drew).trans hz2).trans hz3) HB1.out.1)
 have cf8 := blk1 (Ext.block ((((Ext.refl _).drew).trans hz2).trans hz3) HB1.out.2)
 go_wp2_with fail
 refine HK.out _ _ hz3 ?_
 clear HK K
 refine blkStep (fun K HK => ?_)
 simp only [PK]
 go_wp2_with fail
 refine HK.out _ _ ?_
 clear HK K
 refine doneStep (by kernel_rfl) ?_
 go_wp2_with fail
 refine (i_PathUsable t _ _ p _ 50 _ (rA.ext (((hx1.trans ((Ext.refl _).drew)).trans hz2).trans hz3)) (rL.ext (((hx1.trans ((Ext.refl _).drew)).trans hz2).trans hz3)) (rP.ext (((hx1.trans ((Ext.refl _).drew)).trans hz2).trans hz3)) (by omega)).mono ?_
 rintro e w4 ⟨rfl, hz4⟩
 clear hxb
 obtain ⟨us, hus⟩ : ∃ b, b = usable t p 50 := ⟨_, rfl⟩
 rw [← hus]
 have HUS := Lib.hid hus
 clear hus
 cases us
 case false =>
  try clear cf7
  try clear cf8
  have cf9 := blk2 (Ext.block (((((Ext.refl _).drew).trans hz2).trans hz3).trans hz4) HB1.out.1)
  have cf10 := blk1 (Ext.block (((((Ext.refl _).drew).trans hz2).trans hz3).trans hz4) HB1.out.2)
  go_wp2_with fail
  go_ret
  exact ⟨rfl, (((((hz1.trans hx1).trans ((Ext.refl _).drew)).trans hz2).trans hz3).trans hz4)⟩
 case true =>
  try clear cf7
  try clear cf8
  have cf11 := blk2 (Ext.block (((((Ext.refl _).drew).trans hz2).trans hz3).trans hz4) HB1.out.1)
  have cf12 := blk1 (Ext.block (((((Ext.refl _).drew).trans hz2).trans hz3).trans hz4) HB1.out.2)
  go_wp2_with fail
  refine (i_PathAllowed t _ _ p _ _ (rL.ext ((((hx1.trans ((Ext.refl _).drew)).trans hz2).trans hz3).trans hz4)) (rP.ext ((((hx1.trans ((Ext.refl _).drew)).trans hz2).trans hz3).trans hz4)) (by omega)).mono ?_
  rintro e w5 ⟨ba, rfl, hba, hz5⟩
  have HBA := Lib.hid hba
  clear hba
  cases ba
  case false =>
   try clear cf11
   try clear cf12
   have cf13 := blk2 (Ext.block ((((((Ext.refl _).drew).trans hz2).trans hz3).trans hz4).trans hz5) HB1.out.1)
   have cf14 := blk1 (Ext.block ((((((Ext.refl _).drew).trans hz2).trans hz3).trans hz4).trans hz5) HB1.out.2)
   go_wp2_with fail
   go_ret
   exact ⟨rfl, ((((((hz1.trans hx1).trans ((Ext.refl _).drew)).trans hz2).trans hz3).trans hz4).trans hz5)⟩
  case true =>
   have HAL := Lib.hid (HBA.out.1 rfl)
   clear HBA
   have hn0 := usable_some HUS.out.symm
   have hn1 : ¬ (p.parts = []) := List.ne_nil_of_length_pos hn0
   have hph : ∀ x ∈ p.parts, 1 ≤ x.hops.length ∧ x.hops.length ≤ 5 := fun x hx => (PDr.part x hx).len
   try clear cf11
   try clear cf12
   have cf15 := blk2 (Ext.block ((((((Ext.refl _).drew).trans hz2).trans hz3).trans hz4).trans hz5) HB1.out.1)
   have cf16 := blk1 (Ext.block ((((((Ext.refl _).drew).trans hz2).trans hz3).trans hz4).trans hz5) HB1.out.2)
   go_wp2_with fail
   refine planStep (.blk [0, 2, 3, 4] (.one 1 (.blk [5, 6] .done))) [] (by kernel_rfl) (by kernel_rfl) ?_
   try clear cf15
   try clear cf16
   have cf17 := blk2 (Ext.block (((((((Ext.refl _).drew).trans hz2).trans hz3).trans hz4).trans hz5).trans ((Ext.refl _).drew)) HB1.out.1)
   have cf18 := blk1 (Ext.block (((((((Ext.refl _).drew).trans hz2).trans hz3).trans hz4).trans hz5).trans ((Ext.refl _).drew)) HB1.out.2)
   refine blkStep (fun K HK => ?_)
   simp only [PK]
   go_wp2_with fail
   refine HK.out _ _ ?_
   clear HK K
   refine oneStep (fun K HK => ?_)
   simp only [PK]
   go_wp2_with fail
   refine (l_atE code _ 3 _ (hr.ext (((((((hz1.trans hx1).trans ((Ext.refl _).drew)).trans hz2).trans hz3).trans hz4).trans hz5).trans ((Ext.refl _).drew))) hu (by decide) (by decide) hl).mono ?_
   rintro e w6 ⟨r, rfl, hr0, hr1, hz6⟩
   try clear cf17
   try clear cf18
   have cf19 := blk2 (Ext.block ((((((((Ext.refl _).drew).trans hz2).trans hz3).trans hz4).trans hz5).trans ((Ext.refl _).drew)).trans hz6) HB1.out.1)
   have cf20 := blk1 (Ext.block ((((((((Ext.refl _).drew).trans hz2).trans hz3).trans hz4).trans hz5).trans ((Ext.refl _).drew)).trans hz6) HB1.out.2)
   go_wp2_with fail
   refine HK.out _ _ hz6 ?_
   clear HK K
   refine blkStep (fun K HK => ?_)
   simp only [PK]
   go_wp2_with fail
   refine HK.out _ _ ?_
   clear HK K
   refine doneStep (by kernel_rfl) ?_
   obtain ⟨j, hj, hj1⟩ := emod_nat (r := r) hn0
   rw [hj]
   clear hj hr0 hr1 hn1
   have hjp := hph p.parts[j] (List.getElem_mem _)
   have hjn : ¬ (p.parts[j].hops = []) := List.ne_nil_of_length_pos (by omega)
   obtain ⟨bj, offj, oj, chj, rfl, hcj, hrj⟩ := Part.at (rP.ext (((((((hx1.trans ((Ext.refl _).drew)).trans hz2).trans hz3).trans hz4).trans hz5).trans ((Ext.refl _).drew)).trans hz6)) j hj1
   go_wp2_with fail
   refine planStep (.blk [0, 2, 3, 4, 5, 6, 7, 8] (.one 1 (.blk [9, 10] .done))) [] (by kernel_rfl) (by kernel_rfl) ?_
   try clear cf19
   try clear cf20
   have cf21 := blk2 (Ext.block (((((((((Ext.refl _).drew).trans hz2).trans hz3).trans hz4).trans hz5).trans ((Ext.refl _).drew)).trans hz6).trans ((Ext.refl _).drew)) HB1.out.1)
   have cf22 := blk1 (Ext.block (((((((((Ext.refl _).drew).trans hz2).trans hz3).trans hz4).trans hz5).trans ((Ext.refl _).drew)).trans hz6).trans ((Ext.refl _).drew)) HB1.out.2)
   have cf23 := Part.at_ext ((Ext.refl _).drew) hcj
   refine blkStep (fun K HK => ?_)
   simp only [PK]
   go_wp2_with fail
   refine HK.out _ _ ?_
   clear HK K
   refine oneStep (fun K HK => ?_)
   simp only [PK]
   go_wp2_with fail
   refine (l_atE code _ 4 _ (hr.ext (((((((((hz1.trans hx1).trans ((Ext.refl _).drew)).trans hz2).trans hz3).trans hz4).trans hz5).trans ((Ext.refl _).drew)).trans hz6).trans ((Ext.refl _).drew))) hu (by decide) (by decide) hl).mono ?_
   rintro e w7 ⟨r2, rfl, hr0, hr1, hz7⟩
   try clear cf21
   try clear cf22
   try clear cf23
   have cf24 := blk2 (Ext.block ((((((((((Ext.refl _).drew).trans hz2).trans hz3).trans hz4).trans hz5).trans ((Ext.refl _).drew)).trans hz6).trans ((Ext.refl _).drew)).trans hz7) HB1.out.1)
   have cf25 := blk1 (Ext.block ((((((((((Ext.refl _).drew).trans hz2).trans hz3).trans hz4).trans hz5).trans ((Ext.refl _).drew)).trans hz6).trans ((Ext.refl _).drew)).trans hz7) HB1.out.2)
   have cf26 := Part.at_ext (((Ext.refl _).drew).trans hz7) hcj
   go_wp2_with fail
   refine HK.out _ _ hz7 ?_
   clear HK K
   refine blkStep (fun K HK => ?_)
   simp only [PK]
   go_wp2_with fail
   refine HK.out _ _ ?_
   clear HK K
   refine doneStep (by kernel_rfl) ?_
   obtain ⟨k, hk, hk1⟩ := emod_nat (r := r2) (show 0 < p.parts[j].hops.length by omega)
   rw [hk]
   clear hk hr0 hr1 hjn hcj hrj
   obtain ⟨EP⟩ := elemPartC
   obtain ⟨EH⟩ := elemHop
   have hx7 : Ext w7 (w7.alloc (.cells #[.slice none 0 0] 26)) := (Ext.refl _).alloc _
   have HB7 := Lib.hid (blk_new w7 (.cells #[.slice none 0 0] 26))
   have hs7 : (w7.alloc (.cells #[.slice none 0 0] 26)).heap.size = w7.heap.size + 1 := by simp
   obtain ⟨b7, hb7⟩ : ∃ b, b = w7.heap.size := ⟨_, rfl⟩
   rw [← hb7] at hs7
   have HB7e := Lib.hid hb7
   have HS7 := Lib.hid hs7
   clear hb7 hs7
   try clear cf24
   try clear cf25
   try clear cf26
   have cf27 := blk2 (Ext.block ((((((((((Ext.refl _).drew).trans hz2).trans hz3).trans hz4).trans hz5).trans ((Ext.refl _).drew)).trans hz6).trans ((Ext.refl _).drew)).trans hz7) HB1.out.1)
   have cf28 := blk1 (Ext.block ((((((((((Ext.refl _).drew).trans hz2).trans hz3).trans hz4).trans hz5).trans ((Ext.refl _).drew)).trans hz6).trans ((Ext.refl _).drew)).trans hz7) HB1.out.2)
   go_wp2_with fail
   rw [← HB7e.out] at HB7
   rw [← HB7e.out]
   generalize w7.alloc (.cells #[.slice none 0 0] 26) = wq at hx7 HB7 HS7 ⊢
   go_loopg [8] p.parts.length (fun gk i wr => ∃ m : Nat, gk + m = p.parts.length ∧ i = .int .i64 m ∧ (∃ ok ck, Hid (wr.heap[b7]? = some (.cells #[.slice ok m ck] 26)) ∧ Part.own.own (rng (b7 + 1) wr.heap.size) wr (.slice ok m ck) (p.parts.take m)) ∧ b7 + 1 ≤ wr.heap.size ∧ Ext w7 wr)
   case atStart => exact ⟨0, by omega, rfl, ⟨none, 0, HB7, Part.own.mono (Part.own.nil _) (fun b hb => hb.elim)⟩, by have h1 := HS7.out; omega, hx7⟩
   case round =>
    obtain ⟨gkm, hgq⟩ : ∃ q : Nat, q = gk := ⟨_, rfl⟩
    subst hgq
    obtain ⟨wr1, hwq⟩ : ∃ q : World, q = wr := ⟨_, rfl⟩
    subst hwq
    obtain ⟨m, hgm, rfl, ⟨ok, ck, HBk, hown⟩, hsw, hx⟩ := hrel
    clear hx7 HB7 HS7
    have hc3 := blk1 HBk.out
    try clear cf27
    try clear cf28
    have cf29 := blk2 (Ext.block (((((((((((Ext.refl _).drew).trans hz2).trans hz3).trans hz4).trans hz5).trans ((Ext.refl _).drew)).trans hz6).trans ((Ext.refl _).drew)).trans hz7).trans hx) HB1.out.1)
    have cf30 := blk1 (Ext.block (((((((((((Ext.refl _).drew).trans hz2).trans hz3).trans hz4).trans hz5).trans ((Ext.refl _).drew)).trans hz6).trans ((Ext.refl _).drew)).trans hz7).trans hx) HB1.out.2)
    by_cases hlt : m < p.parts.length
    ·
     have hlt2 : (m : Int) < (p.parts.length : Int) := by omega
     obtain ⟨b, off, oh, ch, hbo, hc, hr⟩ := Part.at (rP.ext ((((((((((hx1.trans ((Ext.refl _).drew)).trans hz2).trans hz3).trans hz4).trans hz5).trans ((Ext.refl _).drew)).trans hz6).trans ((Ext.refl _).drew)).trans hz7).trans hx)) m hlt
     cases hbo
     have hp5 := (hph p.parts[m] (List.getElem_mem _)).2
     obtain ⟨pd, hpd⟩ : ∃ pd, pd = p.parts[m] := ⟨_, rfl⟩
     have HE : Hid (p.parts.take m ++ [pd] = p.parts.take (m + 1)) := Lib.hid (by rw [hpd]; exact take_snocE hlt)
     rw [← hpd] at hc hr hp5
     clear hpd
     have hg' : gkm - 1 + (m + 1) = p.parts.length ∧ gkm - 1 < gkm := by omega
     have HG := Lib.hid hg'; clear hg' hgm
     have htl : (p.parts.take m).length = m := by simp; omega
     have hln : (p.parts.take m).length + 1 ≤ 1048577 := by omega
     generalize p.parts.take m = out at *
     have hxa : Ext wr1 (wr1.alloc (.cells #[.int .i64 pd.kind, .int .i64 pd.ts, .int .i64 pd.beta, .slice oh pd.hops.length ch] 47)) := (Ext.refl _).alloc _
     have HX := Lib.hid (blk_new wr1 (.cells #[.int .i64 pd.kind, .int .i64 pd.ts, .int .i64 pd.beta, .slice oh pd.hops.length ch] 47))
     have hrx := hr.ext (hxa.alloc (.cells #[] 44))
     have hxa2 := hxa.alloc (.cells #[] 44)
     have cx0 := blk2 (Ext.block ((((((((((((Ext.refl _).drew).trans hz2).trans hz3).trans hz4).trans hz5).trans ((Ext.refl _).drew)).trans hz6).trans ((Ext.refl _).drew)).trans hz7).trans hx).trans hxa2) HB1.out.1)
     have cx1 := blk1 (Ext.block ((((((((((((Ext.refl _).drew).trans hz2).trans hz3).trans hz4).trans hz5).trans ((Ext.refl _).drew)).trans hz6).trans ((Ext.refl _).drew)).trans hz7).trans hx).trans hxa2) HB1.out.2)
     have hc8 := And.intro (Ext.cell hxa2 hc.1) (And.intro (Ext.cell hxa2 hc.2.1) (And.intro (Ext.cell hxa2 hc.2.2.1) (Ext.cell hxa2 hc.2.2.2)))
     clear hxa2
     go_wp2_with (at_builtin; refine appS (v := .slice (some ⟨wr1.heap.size + 1, 0, none⟩) 0 0) (l := []) EH Hop.flen Hop.one rfl _ _ rfl pd.hops rfl (OwnF.emptyAt (f := Hop.f) (n := 5) (base := wr1.heap.size + 1) (by simp) (by omega)) rfl hrx (by first | omega | (simp; omega)) (by first | (unfold maxLen; omega) | (simp [maxLen]; omega)) (by simp) ?_)
     intro v' w1' ho' hg'
     have hbx : w1'.heap[wr1.heap.size]? = some (.cells #[.int .i64 pd.kind, .int .i64 pd.ts, .int .i64 pd.beta, .slice oh pd.hops.length ch] 47) := (hg'.block wr1.heap.size (by simp; omega) (by simp [Value.ownBlock])).trans (Ext.block ((Ext.refl _).alloc _) HX.out)
     have hxw : Ext wr1 w1' := (hxa.alloc _).grown hg' (fun k hk => by simp [Value.ownBlock] at hk; omega)
     try rw [List.nil_append] at ho'
     clear hg' hrx hc hc8
     clear cx0 cx1
     obtain ⟨oo, co, rfl, _⟩ := (OwnF.rd (hf := Hop.flen) ho').shape
     have hck := blk1 (Ext.block hxw HBk.out)
     have hcX := blk4 hbx
     have fX := fr_of hbx 3
     have hs1 : wr1.heap.size < w1'.heap.size := blk_lt hbx
     have ous := ho'.set (p := ⟨wr1.heap.size, 3, none⟩) (by simp) (.slice oo pd.hops.length co)
     have hxs : Ext wr1 (w1'.setCell ⟨wr1.heap.size, 3, none⟩ (.slice oo pd.hops.length co)) := hxw.setCell (by simp) _
     have hbk := Ext.block (hxs.alloc (.cells #[.int .i64 pd.kind, .int .i64 pd.ts, .int .i64 pd.beta, .slice oo pd.hops.length co] 47)) HBk.out
     have HBK := Lib.hid hbk; clear hbk hbx ho'
     have hnew := blk_new (w1'.setCell ⟨wr1.heap.size, 3, none⟩ (.slice oo pd.hops.length co)) (.cells #[.int .i64 pd.kind, .int .i64 pd.ts, .int .i64 pd.beta, .slice oo pd.hops.length co] 47)
     rw [show (w1'.setCell ⟨wr1.heap.size, 3, none⟩ (.slice oo pd.hops.length co)).heap.size = w1'.heap.size from by simp] at hnew
     have HNEW := Lib.hid hnew; clear hnew
     go_wp2_with (at_builtin; refine appN (lo := b7 + 1) (w0 := wr1) (c := Part.c) (hc := Part.clen) (sub := (·.hops)) (I := Own.flat Hop.f 5 Hop.flen 44) EP rfl _ _ rfl pd (.slice oo pd.hops.length co) (rng (wr1.heap.size + 1) w1'.heap.size) (part_oneC _ _ _ _) rfl hown (hxs.alloc _) (Own.ext (O := Own.flat Hop.f 5 Hop.flen 44) (Own.mono _ (Own.ofF (hf := Hop.flen) ous) (fun q hq => ⟨by have := hq.1; simpa using this, by have := hq.2; simpa using this⟩)) ((Ext.refl _).alloc _)) (fun q hq => ⟨by have := hq.1; omega, by have := hq.2; simp; omega⟩) hsw rfl (by exact blk_list (Part.c pd (.slice oo pd.hops.length co)) HNEW.out) (by omega) (by unfold maxLen; omega) ?_)
     intro v2' w2' ho2 hg2 hvlo
     have hx2' := ((hx.trans hxs).alloc _).grown hg2 (fun q hq => Nat.le_trans (by have h1 := HB7e.out; omega) (hvlo q hq))
     have hb3' := (hg2.block b7 (blk_lt HBK.out) (fun e => by have := hvlo _ e.symm; omega)).trans HBK.out
     rw [HE.out] at ho2
     obtain ⟨on, cn, hve, _⟩ := (Part.ord ho2).shape
     rw [show (p.parts.take (m + 1)).length = m + 1 from by simp; omega] at hve
     subst hve
     clear hck hcX fX
     have c3' := blk1 hb3'
     have f3' := fr_of hb3' 0
     have hb4 := blk_set hb3' 0 (.slice on (m + 1) cn)
     simp only [List.setIfInBounds_toArray, List.set_cons_zero] at hb4
     have HB4 := Lib.hid hb4; clear hb4 hb3'
     have hx4 := hx2'.setCell (p := ⟨b7, 0, none⟩) (by have h1 := HB7e.out; simp; omega) (.slice on (m + 1) cn)
     have HO4 := Lib.hid (Own.kept Part.own ho2 (⟨rfl, rfl, rfl, by simp [World.setCell], fun q hq hn => Below.heap_setCell _ _ _ _ hn⟩ : Chg (fun q => q = b7) w2' (w2'.setCell ⟨b7, 0, none⟩ (.slice on (m + 1) cn))) (fun q hq e => by have := hq.1; omega))
     have hsw' : b7 + 1 ≤ w2'.heap.size := Nat.le_trans hsw (Nat.le_trans (hxs.alloc _ : Ext wr1 _).size hg2.size)
     clear hg2 ho2 hvlo
     go_wp2_with fail
     go_roundg (gkm - 1)
     case measure => exact HG.out.2
     case rel => exact ⟨m + 1, HG.out.1, by go_num, ⟨on, cn, HB4, by simpa using HO4.out⟩, by simpa using hsw', hx4⟩
    ·
     rw [List.take_of_length_le (by omega)] at hown
     obtain rfl : m = p.parts.length := by omega
     clear hgm hlt
     obtain ⟨gp, cp_, hve, _⟩ := nest_shape hown hn0
     cases hve
     obtain ⟨hgp1, hgp2⟩ := part_block hown
     obtain ⟨gh, chh, hcc, hoh, hgh1, hgh2, hgh3⟩ := part_hops hown j hj1 (by omega)
     have hcell := hcc 3 _ rfl
     obtain ⟨bq, offq, hbo, hcH⟩ := Hop.at (OwnF.rd (hf := Hop.flen) hoh) k hk1
     cases hbo
     simp only [Nat.zero_add] at hcH
     have hgood := ((PDr.part p.parts[j] (List.getElem_mem _)).good TK).hops p.parts[j].hops[k] (List.getElem_mem _)
     obtain ⟨hd, hhd⟩ : ∃ hd, hd = p.parts[j].hops[k] := ⟨_, rfl⟩
     rw [← hhd] at hcH hgood
     have HHD := Lib.hid hhd
     have hex1 := hgood.2.1
     have hex2 := hgood.2.2
     clear hhd hgood hcc
     have hj2 : (j : Int) < (p.parts.length : Int) := by omega
     have hk2 : (k : Int) < (p.parts[j].hops.length : Int) := by omega
     have hx10 : Ext wr1 (wr1.alloc (.cells #[.int .i64 hd.asn, .int .i64 hd.ing, .int .i64 hd.eg, .int .i64 hd.exp, .int .i64 hd.mac] 44)) := (Ext.refl _).alloc _
     have HB10 := Lib.hid (blk_new wr1 (.cells #[.int .i64 hd.asn, .int .i64 hd.ing, .int .i64 hd.eg, .int .i64 hd.exp, .int .i64 hd.mac] 44))
     obtain ⟨b10, hb10⟩ : ∃ b, b = wr1.heap.size := ⟨_, rfl⟩
     have HB10e := Lib.hid hb10
     have hgp2' : gp < b10 := by omega
     have hgh2' : gh < b10 := by omega
     have hb7' : b7 < b10 := by omega
     clear hb10
     go_upto_region 18 with (fail)
     rw [← HB10e.out] at HB10 hown hgp2 hgh2
     rw [← HB10e.out]
     replace hown := Own.ext hown hx10
     replace HBk := Lib.hid (Ext.block hx10 HBk.out)
     replace hoh := OwnF.ext hoh hx10
     replace hx := hx.trans hx10
     have hcell := Ext.cell hx10 hcell
     have hcH := And.intro (Ext.cell hx10 hcH.1) (And.intro (Ext.cell hx10 hcH.2.1) (And.intro (Ext.cell hx10 hcH.2.2.1) (And.intro (Ext.cell hx10 hcH.2.2.2.1) (Ext.cell hx10 hcH.2.2.2.2))))
     clear hc3 hsw hx10
     generalize wr1.alloc (.cells #[.int .i64 hd.asn, .int .i64 hd.ing, .int .i64 hd.eg, .int .i64 hd.exp, .int .i64 hd.mac] 44) = w10 at hx HB10 hown HBk hoh hcell hcH ⊢
     refine wp_region_fin (fun _ => False) [([0, 1, 2, 3], 4)] [5, 6] [7] (by kernel_rfl) (by kernel_rfl) (by kernel_rfl) ?_
     have ch10 := blk5 HB10.out
     have q0 := ChgSW.cell (S := fun _ => False) (ch10.1) id
     have q1 := ChgSW.cell (S := fun _ => False) (ch10.2.1) id
     have q2 := ChgSW.cell (S := fun _ => False) (ch10.2.2.1) id
     have q3 := ChgSW.cell (S := fun _ => False) (ch10.2.2.2.1) id
     have q4 := ChgSW.cell (S := fun _ => False) (ch10.2.2.2.2) id
     clear ch10
     simp only [wpBlocksX, pickOps, PK]
     have hch : Chg (fun _ => False) w10 w10.drew := Chg.ofExt (Ext.refl w10).drew
     have hxd : Ext w10 w10.drew := (Ext.refl w10).drew
     replace hown := Own.ext hown hxd
     replace HBk := Lib.hid (Ext.block hxd HBk.out)
     replace HB10 := Lib.hid (Ext.block hxd HB10.out)
     replace hoh := OwnF.ext hoh hxd
     replace hx := hx.trans hxd
     replace hcell := Ext.cell hxd hcell
     replace hcH := And.intro (Ext.cell hxd hcH.1) (And.intro (Ext.cell hxd hcH.2.1) (And.intro (Ext.cell hxd hcH.2.2.1) (And.intro (Ext.cell hxd hcH.2.2.2.1) (Ext.cell hxd hcH.2.2.2.2))))
     clear hxd
     obtain ⟨wd, hnw⟩ : ∃ wn, wn = w10.drew := ⟨_, rfl⟩
     rw [← hnw] at hx HB10 hown HBk hoh hcell hcH hch ⊢
     clear hnw
     repeat (first | go_big_quiet_step (fail) | quiet_step (fail))
     refine wpQuiet_nil ?_
     go_wp2_with fail
     refine (l_at code _ 5 _ (hr.ext (((((((((((hz1.trans hx1).trans ((Ext.refl _).drew)).trans hz2).trans hz3).trans hz4).trans hz5).trans ((Ext.refl _).drew)).trans hz6).trans ((Ext.refl _).drew)).trans hz7).trans hx)) hu (by decide) (by decide) hl).mono ?_
     rintro e _ ⟨r3, rfl, hr0, hr1, rfl⟩
     go_wp2_with fail
     refine ⟨⟨⟨_, hch⟩, rfl⟩, ?_⟩
     repeat (first | go_big_quiet_step (fail) | quiet_step (fail))
     refine wpQuiet_nil ?_
     obtain ⟨wp10, hw10, hb10, hc10⟩ := one_set HB10.out 3 (.int .i64 (hd.exp + 1 + r3))
     simp only [List.setIfInBounds_toArray, List.set_cons_succ, List.set_cons_zero] at hb10
     have HW := Lib.hid hw10
     clear hw10
     have ff0 := fr_of HB10.out 3
     have cb := blk5 HB10.out
     go_wp2_with fail
     rw [← HW.out]
     clear HW ff0 cb HB10
     have HB10 := Lib.hid hb10
     refine NoPanic.normal ?_
     clear hch hb10 q0 q1 q2 q3 q4
     have hne : ∀ i, at1 b10 i → ¬ (i < b10) := fun i hi h => by have h1 : i = b10 := hi; omega
     replace hown := Own.chgR hown hc10 (fun i hi => .inr (by have h1 : i = b10 := hi; omega))
     replace HBk := Lib.hid (hc10.blkS HBk.out (fun h => hne _ h hb7'))
     replace hcell := Chg.cell hc10 hcell (fun h => hne _ h hgp2')
     replace hx := hx.chg hc10 (fun i hi => by have h1 : i = b10 := hi; have h2 := HB7e.out; omega)
     obtain ⟨gh9, chh9, hcc9, hoh9, _, _, _⟩ := part_hops hown j hj1 (by omega)
     have e9 := hcell.symm.trans (hcc9 3 _ rfl)
     cases e9
     clear hcc9 hoh hcH
     obtain ⟨bq9, offq9, hbo9, hcH⟩ := Hop.at (OwnF.rd (hf := Hop.flen) hoh9) k hk1
     cases hbo9
     simp only [Nat.zero_add] at hcH
     go_upto_region 19 with (fail)
     refine wp_region_fin (fun _ => False) [] [0, 1, 2, 3, 4, 5, 6, 7, 8] [9] (by kernel_rfl) (by kernel_rfl) (by kernel_rfl) ?_
     have ch10 := blk5 HB10.out
     have ch7 := blk1 HBk.out
     have q0 := ChgSW.cell (S := fun _ => False) (ch10.1) id
     have q1 := ChgSW.cell (S := fun _ => False) (ch10.2.1) id
     have q2 := ChgSW.cell (S := fun _ => False) (ch10.2.2.1) id
     have q3 := ChgSW.cell (S := fun _ => False) (ch10.2.2.2.1) id
     have q4 := ChgSW.cell (S := fun _ => False) (ch10.2.2.2.2) id
     have q5 := ChgSW.cell (S := fun _ => False) (ch7) id
     have q6 := ChgSW.cell (S := fun _ => False) (hcell) id
     clear ch10 ch7
     simp only [wpBlocksX, pickOps, PK]
     have hxd : Ext wp10 wp10.drew := (Ext.refl wp10).drew
     replace hown := Own.ext hown hxd
     replace HBk := Lib.hid (Ext.block hxd HBk.out)
     replace hoh9 := OwnF.ext hoh9 hxd
     replace hx := hx.trans hxd
     replace hcell := Ext.cell hxd hcell
     replace hcH := And.intro (Ext.cell hxd hcH.1) (And.intro (Ext.cell hxd hcH.2.1) (And.intro (Ext.cell hxd hcH.2.2.1) (And.intro (Ext.cell hxd hcH.2.2.2.1) (Ext.cell hxd hcH.2.2.2.2))))
     clear hxd
     obtain ⟨wd2, hnw⟩ : ∃ wn, wn = wp10.drew := ⟨_, rfl⟩
     rw [← hnw] at hx hown HBk hoh9 hcell hcH ⊢
     clear hnw
     repeat (first | go_big_quiet_step (fail) | quiet_step (fail))
     refine wpQuiet_nil ?_
     obtain ⟨wS, hwS, hownS, hcS⟩ := part_hop_put hown j hj1 k hk1 hcell { hd with exp := hd.exp + 1 + r3 }
     have HWS := Lib.hid hwS
     clear hwS
     have fS0 := OwnF.free hoh9 (k * 5)
     have fS1 := OwnF.free hoh9 (k * 5 + 1)
     have fS2 := OwnF.free hoh9 (k * 5 + 2)
     have fS3 := OwnF.free hoh9 (k * 5 + 3)
     have fS4 := OwnF.free hoh9 (k * 5 + 4)
     go_wp2_with fail
     rw [← HWS.out]
     clear HWS fS0 fS1 fS2 fS3 fS4
     refine NoPanic.normal ?_
     clear q0 q1 q2 q3 q4 q5 q6
     replace HBk := Lib.hid (hcS.blkS HBk.out (fun h => by have h1 : b7 = gh := h; omega))
     replace hx := hx.chg hcS (fun i hi => by have h1 : i = gh := hi; have h2 := HB7e.out; omega)
     obtain ⟨q, hq⟩ : ∃ q, q = later p j k r3 := ⟨_, rfl⟩
     have hqp : q.parts = p.parts.set j { p.parts[j] with hops := p.parts[j].hops.set k { hd with exp := hd.exp + 1 + r3 } } := by
      rw [hq, HHD.out]
      unfold later
      rw [partAt_at hj1, hopAt_at hk1]
     rw [← hqp] at hownS
     have hql : q.parts.length = p.parts.length := by rw [hqp]; simp
     have hqs : q.size ≤ 24 := by
      refine pth_size (by omega) (fun x hx => ?_)
      rw [hqp] at hx
      rcases List.mem_or_eq_of_mem_set hx with h | h
      ·
       exact (hph x h).2
      ·
       rw [h]; simpa using hjp.2
     have LAW := forged TK PDr HUS.out.symm HAL.out hj1 (show k < (partAt p.parts j).hops.length by rw [partAt_at hj1]; exact hk1) (a := r3) ⟨hr0, hr1⟩
     rw [← hq] at LAW
     have HLAW := Lib.hid LAW
     have rQ := Part.ord hownS
     rw [← hql] at rQ HBk
     clear LAW hownS hown hoh9 hcell hcH hq hqp hql HB10 hc10 hcS hr0 hr1 hex1 hex2 hne
     try clear cf29
     try clear cf30
     have cf31 := blk2 (Ext.block (((((((((((Ext.refl _).drew).trans hz2).trans hz3).trans hz4).trans hz5).trans ((Ext.refl _).drew)).trans hz6).trans ((Ext.refl _).drew)).trans hz7).trans hx) HB1.out.1)
     have cf32 := blk1 (Ext.block (((((((((((Ext.refl _).drew).trans hz2).trans hz3).trans hz4).trans hz5).trans ((Ext.refl _).drew)).trans hz6).trans ((Ext.refl _).drew)).trans hz7).trans hx) HB1.out.2)
     have cf33 := blk1 HBk.out
     go_upto_region 20 with (fail)
     go_cut [11] (fun v wc => ∃ (b : Nat) (tr : Trc) (b0 b1 b2 : Option Addr) (d0 d1 d2 : Nat), v = .pointer (some ⟨b, 0, none⟩) ∧ Hid (tr = traverse t 50 [] (newPkt 1 q 0 0 [])) ∧ wc.heap[b]? = some (.cells #[.int .i64 tr.code, .slice b0 tr.steps.length d0, .int .i64 tr.pkt.kind, .int .i64 tr.pkt.src, .int .i64 tr.pkt.dst, .slice b1 tr.pkt.path.parts.length d1, .int .i64 tr.pkt.pi, .int .i64 tr.pkt.hi, .int .i64 tr.pkt.beta, .int .i64 tr.pkt.rid, .int .i64 tr.pkt.seq, .slice b2 tr.pkt.pay.length d2] 56) ∧ Ext wS wc)
     case first =>
      have hl2 : (newPkt 1 q 0 0 []).size ≤ 1048576 := by rw [newPkt_size]; simp; omega
      refine planStep (.blk [0, 2] (.tri 1 3 6 (.two 3 6 (.two 4 6 (.two 5 6 (.one 6 (.one 7 .done)) (.one 5 (.one 7 .done))) (.one 4 (.one 5 (.one 7 .done)))) (.one 3 (.one 4 (.one 5 (.one 7 .done))))) (.tri 1 4 6 (.two 4 6 (.two 5 6 (.one 6 (.one 7 .done)) (.one 5 (.one 7 .done))) (.one 4 (.one 5 (.one 7 .done)))) (.two 1 6 (.two 5 6 (.one 6 (.one 7 .done)) (.one 5 (.one 7 .done))) (.one 1 (.one 5 (.one 7 .done)))) (.two 1 4 (.one 4 (.one 5 (.one 7 .done))) (.one 1 (.one 5 (.one 7 .done))))) (.two 1 3 (.one 3 (.one 4 (.one 5 (.one 7 .done)))) (.two 1 4 (.one 4 (.one 5 (.one 7 .done))) (.one 1 (.one 5 (.one 7 .done))))))) [7] (by kernel_rfl) (by kernel_rfl) ?_
      have hxd := (Ext.refl wS).drew
      obtain ⟨wd3, hnw⟩ : ∃ wn, wn = wS.drew := ⟨_, rfl⟩
      rw [← hnw] at hxd ⊢
      clear hnw
      have cd0 := blk2 (Ext.block ((((((((((((Ext.refl _).drew).trans hz2).trans hz3).trans hz4).trans hz5).trans ((Ext.refl _).drew)).trans hz6).trans ((Ext.refl _).drew)).trans hz7).trans hx).trans hxd) HB1.out.1)
      have cd1 := blk1 (Ext.block ((((((((((((Ext.refl _).drew).trans hz2).trans hz3).trans hz4).trans hz5).trans ((Ext.refl _).drew)).trans hz6).trans ((Ext.refl _).drew)).trans hz7).trans hx).trans hxd) HB1.out.2)
      have cd2 := blk1 (Ext.block ((Ext.refl _).trans hxd) HBk.out)
      refine blkStep (fun K HK => ?_)
      simp only [PK]
      go_wp2_with fail
      refine HK.out _ _ ?_
      clear HK K cd0 cd1 cd2
      refine triStep ?_ ?_ ?_
      ·
       have rN1 := OwnF.rd (hf := intFlen) (OwnF.empty intF 1 0 3 wd3 (Nat.zero_le _))
       have hxN1 : Ext wd3 (wd3.alloc (.cells #[] 3)) := (Ext.refl _).alloc _
       refine oneStep (fun K HK => ?_)
       simp only [PK]
       go_wp2_with fail
       refine HK.out _ _ hxN1 ?_
       clear HK K
       generalize wd3.alloc (.cells #[] 3) = wa1 at rN1 hxN1 ⊢
       refine twoStep ?_ ?_
       ·
        have rN3 := OwnF.rd (hf := byteFlen) (OwnF.empty byteF 1 0 5 wa1 (Nat.zero_le _))
        have hxN3 : Ext wa1 (wa1.alloc (.cells #[] 5)) := (Ext.refl _).alloc _
        refine oneStep (fun K HK => ?_)
        simp only [PK]
        go_wp2_with fail
        refine HK.out _ _ hxN3 ?_
        clear HK K
        generalize wa1.alloc (.cells #[] 5) = wa3 at rN3 hxN3 ⊢
        refine twoStep ?_ ?_
        ·
         refine oneStep (fun K HK => ?_)
         simp only [PK]
         go_wp2_with fail
         refine (i_NewPacket 1 q _ 0 0 [] _ _ (rQ.ext ((hxd.trans hxN1).trans hxN3)) (rN3.ext (Ext.refl _)) (by omega) (by simp)).mono ?_
         rintro e wk1 ⟨u0, u1, rfl, ou, hk1x⟩
         go_wp2_with fail
         refine HK.out _ _ hk1x ?_
         clear HK K
         refine twoStep ?_ ?_
         ·
          refine oneStep (fun K HK => ?_)
          simp only [PK]
          go_wp2_with fail
          refine (i_Traverse t _ _ 50 [] _ (newPkt 1 q 0 0 []) _ _ _ (rA.ext (((((((((((hx1.trans ((Ext.refl _).drew)).trans hz2).trans hz3).trans hz4).trans hz5).trans ((Ext.refl _).drew)).trans hz6).trans ((Ext.refl _).drew)).trans hz7).trans hx).trans (((hxd.trans hxN1).trans hxN3).trans hk1x))) (rL.ext (((((((((((hx1.trans ((Ext.refl _).drew)).trans hz2).trans hz3).trans hz4).trans hz5).trans ((Ext.refl _).drew)).trans hz6).trans ((Ext.refl _).drew)).trans hz7).trans hx).trans (((hxd.trans hxN1).trans hxN3).trans hk1x))) (rN1.ext (hxN3.trans hk1x)) ((Pkt.own_rd0 ou).ext (Ext.refl _)) ((Pkt.own_rd1 ou).ext (Ext.refl _)) hts hl2).mono ?_
          rintro e wk2 ⟨x0, x1, x2, rfl, oo, hk2x⟩
          obtain ⟨tr, htr⟩ : ∃ tr, tr = traverse t 50 [] (newPkt 1 q 0 0 []) := ⟨_, rfl⟩
          rw [← htr] at oo ⊢
          have HTR := Lib.hid htr; clear htr
          obtain ⟨b0, d0, rfl, _⟩ := (Trc.own_rd0 oo).shape
          obtain ⟨b1, d1, rfl, _⟩ := (Trc.own_rd1 oo).shape
          obtain ⟨b2, d2, rfl, _⟩ := (Trc.own_rd2 oo).shape
          go_wp2_with fail
          refine HK.out _ _ hk2x ?_
          clear HK K
          refine oneStep (fun K HK => ?_)
          simp only [PK]
          go_wp2_with fail
          refine HK.out _ _ ((Ext.refl _).alloc _) ?_
          clear HK K
          refine badStep (by kernel_rfl) (fun K HK => ?_)
          simp only [PK]
          go_wp2_with fail
          refine HK.out _ _ ?_
          clear HK K
          refine doneStep (by kernel_rfl) ?_
          go_wp2_with fail
          go_meet
          exact ⟨_, tr, b0, b1, b2, d0, d1, d2, rfl, HTR, blk_new _ _, ((((hxd.trans hxN1).trans hxN3).trans hk1x).trans hk2x).alloc _⟩
         ·
          have hba := blk_new wk1 (.cells #[.int .i64 0, .slice none 0 0, .int .i64 0, .int .i64 0, .int .i64 0, .slice none 0 0, .int .i64 0, .int .i64 0, .int .i64 0, .int .i64 0, .int .i64 0, .slice none 0 0] 56)
          have HBA := Lib.hid hba; clear hba
          have hxN6 : Ext wk1 (wk1.alloc (.cells #[.int .i64 0, .slice none 0 0, .int .i64 0, .int .i64 0, .int .i64 0, .slice none 0 0, .int .i64 0, .int .i64 0, .int .i64 0, .int .i64 0, .int .i64 0, .slice none 0 0] 56)) := (Ext.refl _).alloc _
          refine oneStep (fun K HK => ?_)
          simp only [PK]
          go_wp2_with fail
          refine HK.out _ _ hxN6 ?_
          clear HK K
          generalize wk1.alloc (.cells #[.int .i64 0, .slice none 0 0, .int .i64 0, .int .i64 0, .int .i64 0, .slice none 0 0, .int .i64 0, .int .i64 0, .int .i64 0, .int .i64 0, .int .i64 0, .slice none 0 0] 56) = wa6 at HBA hxN6 ⊢
          refine oneStep (fun K HK => ?_)
          simp only [PK]
          go_wp2_with fail
          refine (i_Traverse t _ _ 50 [] _ (newPkt 1 q 0 0 []) _ _ _ (rA.ext (((((((((((hx1.trans ((Ext.refl _).drew)).trans hz2).trans hz3).trans hz4).trans hz5).trans ((Ext.refl _).drew)).trans hz6).trans ((Ext.refl _).drew)).trans hz7).trans hx).trans ((((hxd.trans hxN1).trans hxN3).trans hk1x).trans hxN6))) (rL.ext (((((((((((hx1.trans ((Ext.refl _).drew)).trans hz2).trans hz3).trans hz4).trans hz5).trans ((Ext.refl _).drew)).trans hz6).trans ((Ext.refl _).drew)).trans hz7).trans hx).trans ((((hxd.trans hxN1).trans hxN3).trans hk1x).trans hxN6))) (rN1.ext ((hxN3.trans hk1x).trans hxN6)) ((Pkt.own_rd0 ou).ext hxN6) ((Pkt.own_rd1 ou).ext hxN6) hts hl2).mono ?_
          rintro e wk2 ⟨x0, x1, x2, rfl, oo, hk2x⟩
          obtain ⟨tr, htr⟩ : ∃ tr, tr = traverse t 50 [] (newPkt 1 q 0 0 []) := ⟨_, rfl⟩
          rw [← htr] at oo ⊢
          have HTR := Lib.hid htr; clear htr
          obtain ⟨b0, d0, rfl, _⟩ := (Trc.own_rd0 oo).shape
          obtain ⟨b1, d1, rfl, _⟩ := (Trc.own_rd1 oo).shape
          obtain ⟨b2, d2, rfl, _⟩ := (Trc.own_rd2 oo).shape
          go_wp2_with fail
          refine HK.out _ _ hk2x ?_
          clear HK K
          have hbs := Ext.block hk2x HBA.out
          have hcs := blk12 hbs
          have hfs0 := fr_of hbs 0
          have hfs1 := fr_of hbs 1
          have hfs2 := fr_of hbs 2
          have hfs3 := fr_of hbs 3
          have hfs4 := fr_of hbs 4
          have hfs5 := fr_of hbs 5
          have hfs6 := fr_of hbs 6
          have hfs7 := fr_of hbs 7
          have hfs8 := fr_of hbs 8
          have hfs9 := fr_of hbs 9
          have hfs10 := fr_of hbs 10
          have hfs11 := fr_of hbs 11
          have HBS := Lib.hid hbs; clear hbs
          refine badStep (by kernel_rfl) (fun K HK => ?_)
          simp only [PK]
          go_wp2_with fail
          refine HK.out _ _ ?_
          clear HK K
          refine doneStep (by kernel_rfl) ?_
          go_wp2_with fail
          go_meet
          obtain ⟨wv, hwv, hbv, hcv, hsv⟩ := vd_set HBS.out (.int .i64 tr.code) ( .slice b0 tr.steps.length d0) ( .int .i64 tr.pkt.kind) ( .int .i64 tr.pkt.src) ( .int .i64 tr.pkt.dst) ( .slice b1 tr.pkt.path.parts.length d1) ( .int .i64 tr.pkt.pi) ( .int .i64 tr.pkt.hi) ( .int .i64 tr.pkt.beta) ( .int .i64 tr.pkt.rid) ( .int .i64 tr.pkt.seq) ( .slice b2 tr.pkt.pay.length d2)
          rw [← hwv]
          exact ⟨_, tr, b0, b1, b2, d0, d1, d2, rfl, HTR, hbv, (((((hxd.trans hxN1).trans hxN3).trans hk1x).trans hxN6).trans hk2x).chg1 hcv (((hxd.trans hxN1).trans hxN3).trans hk1x).size⟩
        ·
         have hba := blk_new wa3 (.cells #[.int .i64 0, .slice none 0 0, .int .i64 0, .int .i64 0, .int .i64 0, .slice none 0 0, .int .i64 0, .int .i64 0, .int .i64 0, .int .i64 0, .int .i64 0, .slice none 0 0] 56)
         have HBA := Lib.hid hba; clear hba
         have hxN6 : Ext wa3 (wa3.alloc (.cells #[.int .i64 0, .slice none 0 0, .int .i64 0, .int .i64 0, .int .i64 0, .slice none 0 0, .int .i64 0, .int .i64 0, .int .i64 0, .int .i64 0, .int .i64 0, .slice none 0 0] 56)) := (Ext.refl _).alloc _
         refine oneStep (fun K HK => ?_)
         simp only [PK]
         go_wp2_with fail
         refine HK.out _ _ hxN6 ?_
         clear HK K
         generalize wa3.alloc (.cells #[.int .i64 0, .slice none 0 0, .int .i64 0, .int .i64 0, .int .i64 0, .slice none 0 0, .int .i64 0, .int .i64 0, .int .i64 0, .int .i64 0, .int .i64 0, .slice none 0 0] 56) = wa6 at HBA hxN6 ⊢
         refine oneStep (fun K HK => ?_)
         simp only [PK]
         go_wp2_with fail
         refine (i_NewPacket 1 q _ 0 0 [] _ _ (rQ.ext (((hxd.trans hxN1).trans hxN3).trans hxN6)) (rN3.ext hxN6) (by omega) (by simp)).mono ?_
         rintro e wk1 ⟨u0, u1, rfl, ou, hk1x⟩
         go_wp2_with fail
         refine HK.out _ _ hk1x ?_
         clear HK K
         refine oneStep (fun K HK => ?_)
         simp only [PK]
         go_wp2_with fail
         refine (i_Traverse t _ _ 50 [] _ (newPkt 1 q 0 0 []) _ _ _ (rA.ext (((((((((((hx1.trans ((Ext.refl _).drew)).trans hz2).trans hz3).trans hz4).trans hz5).trans ((Ext.refl _).drew)).trans hz6).trans ((Ext.refl _).drew)).trans hz7).trans hx).trans ((((hxd.trans hxN1).trans hxN3).trans hxN6).trans hk1x))) (rL.ext (((((((((((hx1.trans ((Ext.refl _).drew)).trans hz2).trans hz3).trans hz4).trans hz5).trans ((Ext.refl _).drew)).trans hz6).trans ((Ext.refl _).drew)).trans hz7).trans hx).trans ((((hxd.trans hxN1).trans hxN3).trans hxN6).trans hk1x))) (rN1.ext ((hxN3.trans hxN6).trans hk1x)) ((Pkt.own_rd0 ou).ext (Ext.refl _)) ((Pkt.own_rd1 ou).ext (Ext.refl _)) hts hl2).mono ?_
         rintro e wk2 ⟨x0, x1, x2, rfl, oo, hk2x⟩
         obtain ⟨tr, htr⟩ : ∃ tr, tr = traverse t 50 [] (newPkt 1 q 0 0 []) := ⟨_, rfl⟩
         rw [← htr] at oo ⊢
         have HTR := Lib.hid htr; clear htr
         obtain ⟨b0, d0, rfl, _⟩ := (Trc.own_rd0 oo).shape
         obtain ⟨b1, d1, rfl, _⟩ := (Trc.own_rd1 oo).shape
         obtain ⟨b2, d2, rfl, _⟩ := (Trc.own_rd2 oo).shape
         go_wp2_with fail
         refine HK.out _ _ hk2x ?_
         clear HK K
         have hbs := Ext.block (hk1x.trans hk2x) HBA.out
         have hcs := blk12 hbs
         have hfs0 := fr_of hbs 0
         have hfs1 := fr_of hbs 1
         have hfs2 := fr_of hbs 2
         have hfs3 := fr_of hbs 3
         have hfs4 := fr_of hbs 4
         have hfs5 := fr_of hbs 5
         have hfs6 := fr_of hbs 6
         have hfs7 := fr_of hbs 7
         have hfs8 := fr_of hbs 8
         have hfs9 := fr_of hbs 9
         have hfs10 := fr_of hbs 10
         have hfs11 := fr_of hbs 11
         have HBS := Lib.hid hbs; clear hbs
         refine badStep (by kernel_rfl) (fun K HK => ?_)
         simp only [PK]
         go_wp2_with fail
         refine HK.out _ _ ?_
         clear HK K
         refine doneStep (by kernel_rfl) ?_
         go_wp2_with fail
         go_meet
         obtain ⟨wv, hwv, hbv, hcv, hsv⟩ := vd_set HBS.out (.int .i64 tr.code) ( .slice b0 tr.steps.length d0) ( .int .i64 tr.pkt.kind) ( .int .i64 tr.pkt.src) ( .int .i64 tr.pkt.dst) ( .slice b1 tr.pkt.path.parts.length d1) ( .int .i64 tr.pkt.pi) ( .int .i64 tr.pkt.hi) ( .int .i64 tr.pkt.beta) ( .int .i64 tr.pkt.rid) ( .int .i64 tr.pkt.seq) ( .slice b2 tr.pkt.pay.length d2)
         rw [← hwv]
         exact ⟨_, tr, b0, b1, b2, d0, d1, d2, rfl, HTR, hbv, (((((hxd.trans hxN1).trans hxN3).trans hxN6).trans hk1x).trans hk2x).chg1 hcv ((hxd.trans hxN1).trans hxN3).size⟩
       ·
        have hba := blk_new wa1 (.cells #[.int .i64 0, .slice none 0 0, .int .i64 0, .int .i64 0, .int .i64 0, .slice none 0 0, .int .i64 0, .int .i64 0, .int .i64 0, .int .i64 0, .int .i64 0, .slice none 0 0] 56)
        have HBA := Lib.hid hba; clear hba
        have hxN6 : Ext wa1 (wa1.alloc (.cells #[.int .i64 0, .slice none 0 0, .int .i64 0, .int .i64 0, .int .i64 0, .slice none 0 0, .int .i64 0, .int .i64 0, .int .i64 0, .int .i64 0, .int .i64 0, .slice none 0 0] 56)) := (Ext.refl _).alloc _
        refine oneStep (fun K HK => ?_)
        simp only [PK]
        go_wp2_with fail
        refine HK.out _ _ hxN6 ?_
        clear HK K
        generalize wa1.alloc (.cells #[.int .i64 0, .slice none 0 0, .int .i64 0, .int .i64 0, .int .i64 0, .slice none 0 0, .int .i64 0, .int .i64 0, .int .i64 0, .int .i64 0, .int .i64 0, .slice none 0 0] 56) = wa6 at HBA hxN6 ⊢
        have rN3 := OwnF.rd (hf := byteFlen) (OwnF.empty byteF 1 0 5 wa6 (Nat.zero_le _))
        have hxN3 : Ext wa6 (wa6.alloc (.cells #[] 5)) := (Ext.refl _).alloc _
        refine oneStep (fun K HK => ?_)
        simp only [PK]
        go_wp2_with fail
        refine HK.out _ _ hxN3 ?_
        clear HK K
        generalize wa6.alloc (.cells #[] 5) = wa3 at rN3 hxN3 ⊢
        refine oneStep (fun K HK => ?_)
        simp only [PK]
        go_wp2_with fail
        refine (i_NewPacket 1 q _ 0 0 [] _ _ (rQ.ext (((hxd.trans hxN1).trans hxN6).trans hxN3)) (rN3.ext (Ext.refl _)) (by omega) (by simp)).mono ?_
        rintro e wk1 ⟨u0, u1, rfl, ou, hk1x⟩
        go_wp2_with fail
        refine HK.out _ _ hk1x ?_
        clear HK K
        refine oneStep (fun K HK => ?_)
        simp only [PK]
        go_wp2_with fail
        refine (i_Traverse t _ _ 50 [] _ (newPkt 1 q 0 0 []) _ _ _ (rA.ext (((((((((((hx1.trans ((Ext.refl _).drew)).trans hz2).trans hz3).trans hz4).trans hz5).trans ((Ext.refl _).drew)).trans hz6).trans ((Ext.refl _).drew)).trans hz7).trans hx).trans ((((hxd.trans hxN1).trans hxN6).trans hxN3).trans hk1x))) (rL.ext (((((((((((hx1.trans ((Ext.refl _).drew)).trans hz2).trans hz3).trans hz4).trans hz5).trans ((Ext.refl _).drew)).trans hz6).trans ((Ext.refl _).drew)).trans hz7).trans hx).trans ((((hxd.trans hxN1).trans hxN6).trans hxN3).trans hk1x))) (rN1.ext ((hxN6.trans hxN3).trans hk1x)) ((Pkt.own_rd0 ou).ext (Ext.refl _)) ((Pkt.own_rd1 ou).ext (Ext.refl _)) hts hl2).mono ?_
        rintro e wk2 ⟨x0, x1, x2, rfl, oo, hk2x⟩
        obtain ⟨tr, htr⟩ : ∃ tr, tr = traverse t 50 [] (newPkt 1 q 0 0 []) := ⟨_, rfl⟩
        rw [← htr] at oo ⊢
        have HTR := Lib.hid htr; clear htr
        obtain ⟨b0, d0, rfl, _⟩ := (Trc.own_rd0 oo).shape
        obtain ⟨b1, d1, rfl, _⟩ := (Trc.own_rd1 oo).shape
        obtain ⟨b2, d2, rfl, _⟩ := (Trc.own_rd2 oo).shape
        go_wp2_with fail
        refine HK.out _ _ hk2x ?_
        clear HK K
        have hbs := Ext.block ((hxN3.trans hk1x).trans hk2x) HBA.out
        have hcs := blk12 hbs
        have hfs0 := fr_of hbs 0
        have hfs1 := fr_of hbs 1
        have hfs2 := fr_of hbs 2
        have hfs3 := fr_of hbs 3
        have hfs4 := fr_of hbs 4
        have hfs5 := fr_of hbs 5
        have hfs6 := fr_of hbs 6
        have hfs7 := fr_of hbs 7
        have hfs8 := fr_of hbs 8
        have hfs9 := fr_of hbs 9
        have hfs10 := fr_of hbs 10
        have hfs11 := fr_of hbs 11
        have HBS := Lib.hid hbs; clear hbs
        refine badStep (by kernel_rfl) (fun K HK => ?_)
        simp only [PK]
        go_wp2_with fail
        refine HK.out _ _ ?_
        clear HK K
        refine doneStep (by kernel_rfl) ?_
        go_wp2_with fail
        go_meet
        obtain ⟨wv, hwv, hbv, hcv, hsv⟩ := vd_set HBS.out (.int .i64 tr.code) ( .slice b0 tr.steps.length d0) ( .int .i64 tr.pkt.kind) ( .int .i64 tr.pkt.src) ( .int .i64 tr.pkt.dst) ( .slice b1 tr.pkt.path.parts.length d1) ( .int .i64 tr.pkt.pi) ( .int .i64 tr.pkt.hi) ( .int .i64 tr.pkt.beta) ( .int .i64 tr.pkt.rid) ( .int .i64 tr.pkt.seq) ( .slice b2 tr.pkt.pay.length d2)
        rw [← hwv]
        exact ⟨_, tr, b0, b1, b2, d0, d1, d2, rfl, HTR, hbv, (((((hxd.trans hxN1).trans hxN6).trans hxN3).trans hk1x).trans hk2x).chg1 hcv (hxd.trans hxN1).size⟩
      ·
       have rN3 := OwnF.rd (hf := byteFlen) (OwnF.empty byteF 1 0 5 wd3 (Nat.zero_le _))
       have hxN3 : Ext wd3 (wd3.alloc (.cells #[] 5)) := (Ext.refl _).alloc _
       refine oneStep (fun K HK => ?_)
       simp only [PK]
       go_wp2_with fail
       refine HK.out _ _ hxN3 ?_
       clear HK K
       generalize wd3.alloc (.cells #[] 5) = wa3 at rN3 hxN3 ⊢
       refine triStep ?_ ?_ ?_
       ·
        have rN1 := OwnF.rd (hf := intFlen) (OwnF.empty intF 1 0 3 wa3 (Nat.zero_le _))
        have hxN1 : Ext wa3 (wa3.alloc (.cells #[] 3)) := (Ext.refl _).alloc _
        refine oneStep (fun K HK => ?_)
        simp only [PK]
        go_wp2_with fail
        refine HK.out _ _ hxN1 ?_
        clear HK K
        generalize wa3.alloc (.cells #[] 3) = wa1 at rN1 hxN1 ⊢
        refine twoStep ?_ ?_
        ·
         refine oneStep (fun K HK => ?_)
         simp only [PK]
         go_wp2_with fail
         refine (i_NewPacket 1 q _ 0 0 [] _ _ (rQ.ext ((hxd.trans hxN3).trans hxN1)) (rN3.ext hxN1) (by omega) (by simp)).mono ?_
         rintro e wk1 ⟨u0, u1, rfl, ou, hk1x⟩
         go_wp2_with fail
         refine HK.out _ _ hk1x ?_
         clear HK K
         refine twoStep ?_ ?_
         ·
          refine oneStep (fun K HK => ?_)
          simp only [PK]
          go_wp2_with fail
          refine (i_Traverse t _ _ 50 [] _ (newPkt 1 q 0 0 []) _ _ _ (rA.ext (((((((((((hx1.trans ((Ext.refl _).drew)).trans hz2).trans hz3).trans hz4).trans hz5).trans ((Ext.refl _).drew)).trans hz6).trans ((Ext.refl _).drew)).trans hz7).trans hx).trans (((hxd.trans hxN3).trans hxN1).trans hk1x))) (rL.ext (((((((((((hx1.trans ((Ext.refl _).drew)).trans hz2).trans hz3).trans hz4).trans hz5).trans ((Ext.refl _).drew)).trans hz6).trans ((Ext.refl _).drew)).trans hz7).trans hx).trans (((hxd.trans hxN3).trans hxN1).trans hk1x))) (rN1.ext hk1x) ((Pkt.own_rd0 ou).ext (Ext.refl _)) ((Pkt.own_rd1 ou).ext (Ext.refl _)) hts hl2).mono ?_
          rintro e wk2 ⟨x0, x1, x2, rfl, oo, hk2x⟩
          obtain ⟨tr, htr⟩ : ∃ tr, tr = traverse t 50 [] (newPkt 1 q 0 0 []) := ⟨_, rfl⟩
          rw [← htr] at oo ⊢
          have HTR := Lib.hid htr; clear htr
          obtain ⟨b0, d0, rfl, _⟩ := (Trc.own_rd0 oo).shape
          obtain ⟨b1, d1, rfl, _⟩ := (Trc.own_rd1 oo).shape
          obtain ⟨b2, d2, rfl, _⟩ := (Trc.own_rd2 oo).shape
          go_wp2_with fail
          refine HK.out _ _ hk2x ?_
          clear HK K
          refine oneStep (fun K HK => ?_)
          simp only [PK]
          go_wp2_with fail
          refine HK.out _ _ ((Ext.refl _).alloc _) ?_
          clear HK K
          refine badStep (by kernel_rfl) (fun K HK => ?_)
          simp only [PK]
          go_wp2_with fail
          refine HK.out _ _ ?_
          clear HK K
          refine doneStep (by kernel_rfl) ?_
          go_wp2_with fail
          go_meet
          exact ⟨_, tr, b0, b1, b2, d0, d1, d2, rfl, HTR, blk_new _ _, ((((hxd.trans hxN3).trans hxN1).trans hk1x).trans hk2x).alloc _⟩
         ·
          have hba := blk_new wk1 (.cells #[.int .i64 0, .slice none 0 0, .int .i64 0, .int .i64 0, .int .i64 0, .slice none 0 0, .int .i64 0, .int .i64 0, .int .i64 0, .int .i64 0, .int .i64 0, .slice none 0 0] 56)
          have HBA := Lib.hid hba; clear hba
          have hxN6 : Ext wk1 (wk1.alloc (.cells #[.int .i64 0, .slice none 0 0, .int .i64 0, .int .i64 0, .int .i64 0, .slice none 0 0, .int .i64 0, .int .i64 0, .int .i64 0, .int .i64 0, .int .i64 0, .slice none 0 0] 56)) := (Ext.refl _).alloc _
          refine oneStep (fun K HK => ?_)
          simp only [PK]
          go_wp2_with fail
          refine HK.out _ _ hxN6 ?_
          clear HK K
          generalize wk1.alloc (.cells #[.int .i64 0, .slice none 0 0, .int .i64 0, .int .i64 0, .int .i64 0, .slice none 0 0, .int .i64 0, .int .i64 0, .int .i64 0, .int .i64 0, .int .i64 0, .slice none 0 0] 56) = wa6 at HBA hxN6 ⊢
          refine oneStep (fun K HK => ?_)
          simp only [PK]
          go_wp2_with fail
          refine (i_Traverse t _ _ 50 [] _ (newPkt 1 q 0 0 []) _ _ _ (rA.ext (((((((((((hx1.trans ((Ext.refl _).drew)).trans hz2).trans hz3).trans hz4).trans hz5).trans ((Ext.refl _).drew)).trans hz6).trans ((Ext.refl _).drew)).trans hz7).trans hx).trans ((((hxd.trans hxN3).trans hxN1).trans hk1x).trans hxN6))) (rL.ext (((((((((((hx1.trans ((Ext.refl _).drew)).trans hz2).trans hz3).trans hz4).trans hz5).trans ((Ext.refl _).drew)).trans hz6).trans ((Ext.refl _).drew)).trans hz7).trans hx).trans ((((hxd.trans hxN3).trans hxN1).trans hk1x).trans hxN6))) (rN1.ext (hk1x.trans hxN6)) ((Pkt.own_rd0 ou).ext hxN6) ((Pkt.own_rd1 ou).ext hxN6) hts hl2).mono ?_
          rintro e wk2 ⟨x0, x1, x2, rfl, oo, hk2x⟩
          obtain ⟨tr, htr⟩ : ∃ tr, tr = traverse t 50 [] (newPkt 1 q 0 0 []) := ⟨_, rfl⟩
          rw [← htr] at oo ⊢
          have HTR := Lib.hid htr; clear htr
          obtain ⟨b0, d0, rfl, _⟩ := (Trc.own_rd0 oo).shape
          obtain ⟨b1, d1, rfl, _⟩ := (Trc.own_rd1 oo).shape
          obtain ⟨b2, d2, rfl, _⟩ := (Trc.own_rd2 oo).shape
          go_wp2_with fail
          refine HK.out _ _ hk2x ?_
          clear HK K
          have hbs := Ext.block hk2x HBA.out
          have hcs := blk12 hbs
          have hfs0 := fr_of hbs 0
          have hfs1 := fr_of hbs 1
          have hfs2 := fr_of hbs 2
          have hfs3 := fr_of hbs 3
          have hfs4 := fr_of hbs 4
          have hfs5 := fr_of hbs 5
          have hfs6 := fr_of hbs 6
          have hfs7 := fr_of hbs 7
          have hfs8 := fr_of hbs 8
          have hfs9 := fr_of hbs 9
          have hfs10 := fr_of hbs 10
          have hfs11 := fr_of hbs 11
          have HBS := Lib.hid hbs; clear hbs
          refine badStep (by kernel_rfl) (fun K HK => ?_)
          simp only [PK]
          go_wp2_with fail
          refine HK.out _ _ ?_
          clear HK K
          refine doneStep (by kernel_rfl) ?_
          go_wp2_with fail
          go_meet
          obtain ⟨wv, hwv, hbv, hcv, hsv⟩ := vd_set HBS.out (.int .i64 tr.code) ( .slice b0 tr.steps.length d0) ( .int .i64 tr.pkt.kind) ( .int .i64 tr.pkt.src) ( .int .i64 tr.pkt.dst) ( .slice b1 tr.pkt.path.parts.length d1) ( .int .i64 tr.pkt.pi) ( .int .i64 tr.pkt.hi) ( .int .i64 tr.pkt.beta) ( .int .i64 tr.pkt.rid) ( .int .i64 tr.pkt.seq) ( .slice b2 tr.pkt.pay.length d2)
          rw [← hwv]
          exact ⟨_, tr, b0, b1, b2, d0, d1, d2, rfl, HTR, hbv, (((((hxd.trans hxN3).trans hxN1).trans hk1x).trans hxN6).trans hk2x).chg1 hcv (((hxd.trans hxN3).trans hxN1).trans hk1x).size⟩
        ·
         have hba := blk_new wa1 (.cells #[.int .i64 0, .slice none 0 0, .int .i64 0, .int .i64 0, .int .i64 0, .slice none 0 0, .int .i64 0, .int .i64 0, .int .i64 0, .int .i64 0, .int .i64 0, .slice none 0 0] 56)
         have HBA := Lib.hid hba; clear hba
         have hxN6 : Ext wa1 (wa1.alloc (.cells #[.int .i64 0, .slice none 0 0, .int .i64 0, .int .i64 0, .int .i64 0, .slice none 0 0, .int .i64 0, .int .i64 0, .int .i64 0, .int .i64 0, .int .i64 0, .slice none 0 0] 56)) := (Ext.refl _).alloc _
         refine oneStep (fun K HK => ?_)
         simp only [PK]
         go_wp2_with fail
         refine HK.out _ _ hxN6 ?_
         clear HK K
         generalize wa1.alloc (.cells #[.int .i64 0, .slice none 0 0, .int .i64 0, .int .i64 0, .int .i64 0, .slice none 0 0, .int .i64 0, .int .i64 0, .int .i64 0, .int .i64 0, .int .i64 0, .slice none 0 0] 56) = wa6 at HBA hxN6 ⊢
         refine oneStep (fun K HK => ?_)
         simp only [PK]
         go_wp2_with fail
         refine (i_NewPacket 1 q _ 0 0 [] _ _ (rQ.ext (((hxd.trans hxN3).trans hxN1).trans hxN6)) (rN3.ext (hxN1.trans hxN6)) (by omega) (by simp)).mono ?_
         rintro e wk1 ⟨u0, u1, rfl, ou, hk1x⟩
         go_wp2_with fail
         refine HK.out _ _ hk1x ?_
         clear HK K
         refine oneStep (fun K HK => ?_)
         simp only [PK]
         go_wp2_with fail
         refine (i_Traverse t _ _ 50 [] _ (newPkt 1 q 0 0 []) _ _ _ (rA.ext (((((((((((hx1.trans ((Ext.refl _).drew)).trans hz2).trans hz3).trans hz4).trans hz5).trans ((Ext.refl _).drew)).trans hz6).trans ((Ext.refl _).drew)).trans hz7).trans hx).trans ((((hxd.trans hxN3).trans hxN1).trans hxN6).trans hk1x))) (rL.ext (((((((((((hx1.trans ((Ext.refl _).drew)).trans hz2).trans hz3).trans hz4).trans hz5).trans ((Ext.refl _).drew)).trans hz6).trans ((Ext.refl _).drew)).trans hz7).trans hx).trans ((((hxd.trans hxN3).trans hxN1).trans hxN6).trans hk1x))) (rN1.ext (hxN6.trans hk1x)) ((Pkt.own_rd0 ou).ext (Ext.refl _)) ((Pkt.own_rd1 ou).ext (Ext.refl _)) hts hl2).mono ?_
         rintro e wk2 ⟨x0, x1, x2, rfl, oo, hk2x⟩
         obtain ⟨tr, htr⟩ : ∃ tr, tr = traverse t 50 [] (newPkt 1 q 0 0 []) := ⟨_, rfl⟩
         rw [← htr] at oo ⊢
         have HTR := Lib.hid htr; clear htr
         obtain ⟨b0, d0, rfl, _⟩ := (Trc.own_rd0 oo).shape
         obtain ⟨b1, d1, rfl, _⟩ := (Trc.own_rd1 oo).shape
         obtain ⟨b2, d2, rfl, _⟩ := (Trc.own_rd2 oo).shape
         go_wp2_with fail
         refine HK.out _ _ hk2x ?_
         clear HK K
         have hbs := Ext.block (hk1x.trans hk2x) HBA.out
         have hcs := blk12 hbs
         have hfs0 := fr_of hbs 0
         have hfs1 := fr_of hbs 1
         have hfs2 := fr_of hbs 2
         have hfs3 := fr_of hbs 3
         have hfs4 := fr_of hbs 4
         have hfs5 := fr_of hbs 5
         have hfs6 := fr_of hbs 6
         have hfs7 := fr_of hbs 7
         have hfs8 := fr_of hbs 8
         have hfs9 := fr_of hbs 9
         have hfs10 := fr_of hbs 10
         have hfs11 := fr_of hbs 11
         have HBS := Lib.hid hbs; clear hbs
         refine badStep (by kernel_rfl) (fun K HK => ?_)
         simp only [PK]
         go_wp2_with fail
         refine HK.out _ _ ?_
         clear HK K
         refine doneStep (by kernel_rfl) ?_
         go_wp2_with fail
         go_meet
         obtain ⟨wv, hwv, hbv, hcv, hsv⟩ := vd_set HBS.out (.int .i64 tr.code) ( .slice b0 tr.steps.length d0) ( .int .i64 tr.pkt.kind) ( .int .i64 tr.pkt.src) ( .int .i64 tr.pkt.dst) ( .slice b1 tr.pkt.path.parts.length d1) ( .int .i64 tr.pkt.pi) ( .int .i64 tr.pkt.hi) ( .int .i64 tr.pkt.beta) ( .int .i64 tr.pkt.rid) ( .int .i64 tr.pkt.seq) ( .slice b2 tr.pkt.pay.length d2)
         rw [← hwv]
         exact ⟨_, tr, b0, b1, b2, d0, d1, d2, rfl, HTR, hbv, (((((hxd.trans hxN3).trans hxN1).trans hxN6).trans hk1x).trans hk2x).chg1 hcv ((hxd.trans hxN3).trans hxN1).size⟩
       ·
        refine oneStep (fun K HK => ?_)
        simp only [PK]
        go_wp2_with fail
        refine (i_NewPacket 1 q _ 0 0 [] _ _ (rQ.ext (hxd.trans hxN3)) (rN3.ext (Ext.refl _)) (by omega) (by simp)).mono ?_
        rintro e wk1 ⟨u0, u1, rfl, ou, hk1x⟩
        go_wp2_with fail
        refine HK.out _ _ hk1x ?_
        clear HK K
        refine twoStep ?_ ?_
        ·
         have rN1 := OwnF.rd (hf := intFlen) (OwnF.empty intF 1 0 3 wk1 (Nat.zero_le _))
         have hxN1 : Ext wk1 (wk1.alloc (.cells #[] 3)) := (Ext.refl _).alloc _
         refine oneStep (fun K HK => ?_)
         simp only [PK]
         go_wp2_with fail
         refine HK.out _ _ hxN1 ?_
         clear HK K
         generalize wk1.alloc (.cells #[] 3) = wa1 at rN1 hxN1 ⊢
         refine twoStep ?_ ?_
         ·
          refine oneStep (fun K HK => ?_)
          simp only [PK]
          go_wp2_with fail
          refine (i_Traverse t _ _ 50 [] _ (newPkt 1 q 0 0 []) _ _ _ (rA.ext (((((((((((hx1.trans ((Ext.refl _).drew)).trans hz2).trans hz3).trans hz4).trans hz5).trans ((Ext.refl _).drew)).trans hz6).trans ((Ext.refl _).drew)).trans hz7).trans hx).trans (((hxd.trans hxN3).trans hk1x).trans hxN1))) (rL.ext (((((((((((hx1.trans ((Ext.refl _).drew)).trans hz2).trans hz3).trans hz4).trans hz5).trans ((Ext.refl _).drew)).trans hz6).trans ((Ext.refl _).drew)).trans hz7).trans hx).trans (((hxd.trans hxN3).trans hk1x).trans hxN1))) (rN1.ext (Ext.refl _)) ((Pkt.own_rd0 ou).ext hxN1) ((Pkt.own_rd1 ou).ext hxN1) hts hl2).mono ?_
          rintro e wk2 ⟨x0, x1, x2, rfl, oo, hk2x⟩
          obtain ⟨tr, htr⟩ : ∃ tr, tr = traverse t 50 [] (newPkt 1 q 0 0 []) := ⟨_, rfl⟩
          rw [← htr] at oo ⊢
          have HTR := Lib.hid htr; clear htr
          obtain ⟨b0, d0, rfl, _⟩ := (Trc.own_rd0 oo).shape
          obtain ⟨b1, d1, rfl, _⟩ := (Trc.own_rd1 oo).shape
          obtain ⟨b2, d2, rfl, _⟩ := (Trc.own_rd2 oo).shape
          go_wp2_with fail
          refine HK.out _ _ hk2x ?_
          clear HK K
          refine oneStep (fun K HK => ?_)
          simp only [PK]
          go_wp2_with fail
          refine HK.out _ _ ((Ext.refl _).alloc _) ?_
          clear HK K
          refine badStep (by kernel_rfl) (fun K HK => ?_)
          simp only [PK]
          go_wp2_with fail
          refine HK.out _ _ ?_
          clear HK K
          refine doneStep (by kernel_rfl) ?_
          go_wp2_with fail
          go_meet
          exact ⟨_, tr, b0, b1, b2, d0, d1, d2, rfl, HTR, blk_new _ _, ((((hxd.trans hxN3).trans hk1x).trans hxN1).trans hk2x).alloc _⟩
         ·
          have hba := blk_new wa1 (.cells #[.int .i64 0, .slice none 0 0, .int .i64 0, .int .i64 0, .int .i64 0, .slice none 0 0, .int .i64 0, .int .i64 0, .int .i64 0, .int .i64 0, .int .i64 0, .slice none 0 0] 56)
          have HBA := Lib.hid hba; clear hba
          have hxN6 : Ext wa1 (wa1.alloc (.cells #[.int .i64 0, .slice none 0 0, .int .i64 0, .int .i64 0, .int .i64 0, .slice none 0 0, .int .i64 0, .int .i64 0, .int .i64 0, .int .i64 0, .int .i64 0, .slice none 0 0] 56)) := (Ext.refl _).alloc _
          refine oneStep (fun K HK => ?_)
          simp only [PK]
          go_wp2_with fail
          refine HK.out _ _ hxN6 ?_
          clear HK K
          generalize wa1.alloc (.cells #[.int .i64 0, .slice none 0 0, .int .i64 0, .int .i64 0, .int .i64 0, .slice none 0 0, .int .i64 0, .int .i64 0, .int .i64 0, .int .i64 0, .int .i64 0, .slice none 0 0] 56) = wa6 at HBA hxN6 ⊢
          refine oneStep (fun K HK => ?_)
          simp only [PK]
          go_wp2_with fail
          refine (i_Traverse t _ _ 50 [] _ (newPkt 1 q 0 0 []) _ _ _ (rA.ext (((((((((((hx1.trans ((Ext.refl _).drew)).trans hz2).trans hz3).trans hz4).trans hz5).trans ((Ext.refl _).drew)).trans hz6).trans ((Ext.refl _).drew)).trans hz7).trans hx).trans ((((hxd.trans hxN3).trans hk1x).trans hxN1).trans hxN6))) (rL.ext (((((((((((hx1.trans ((Ext.refl _).drew)).trans hz2).trans hz3).trans hz4).trans hz5).trans ((Ext.refl _).drew)).trans hz6).trans ((Ext.refl _).drew)).trans hz7).trans hx).trans ((((hxd.trans hxN3).trans hk1x).trans hxN1).trans hxN6))) (rN1.ext hxN6) ((Pkt.own_rd0 ou).ext (hxN1.trans hxN6)) ((Pkt.own_rd1 ou).ext (hxN1.trans hxN6)) hts hl2).mono ?_
          rintro e wk2 ⟨x0, x1, x2, rfl, oo, hk2x⟩
          obtain ⟨tr, htr⟩ : ∃ tr, tr = traverse t 50 [] (newPkt 1 q 0 0 []) := ⟨_, rfl⟩
          rw [← htr] at oo ⊢
          have HTR := Lib.hid htr; clear htr
          obtain ⟨b0, d0, rfl, _⟩ := (Trc.own_rd0 oo).shape
          obtain ⟨b1, d1, rfl, _⟩ := (Trc.own_rd1 oo).shape
          obtain ⟨b2, d2, rfl, _⟩ := (Trc.own_rd2 oo).shape
          go_wp2_with fail
          refine HK.out _ _ hk2x ?_
          clear HK K
          have hbs := Ext.block hk2x HBA.out
          have hcs := blk12 hbs
          have hfs0 := fr_of hbs 0
          have hfs1 := fr_of hbs 1
          have hfs2 := fr_of hbs 2
          have hfs3 := fr_of hbs 3
          have hfs4 := fr_of hbs 4
          have hfs5 := fr_of hbs 5
          have hfs6 := fr_of hbs 6
          have hfs7 := fr_of hbs 7
          have hfs8 := fr_of hbs 8
          have hfs9 := fr_of hbs 9
          have hfs10 := fr_of hbs 10
          have hfs11 := fr_of hbs 11
          have HBS := Lib.hid hbs; clear hbs
          refine badStep (by kernel_rfl) (fun K HK => ?_)
          simp only [PK]
          go_wp2_with fail
          refine HK.out _ _ ?_
          clear HK K
          refine doneStep (by kernel_rfl) ?_
          go_wp2_with fail
          go_meet
          obtain ⟨wv, hwv, hbv, hcv, hsv⟩ := vd_set HBS.out (.int .i64 tr.code) ( .slice b0 tr.steps.length d0) ( .int .i64 tr.pkt.kind) ( .int .i64 tr.pkt.src) ( .int .i64 tr.pkt.dst) ( .slice b1 tr.pkt.path.parts.length d1) ( .int .i64 tr.pkt.pi) ( .int .i64 tr.pkt.hi) ( .int .i64 tr.pkt.beta) ( .int .i64 tr.pkt.rid) ( .int .i64 tr.pkt.seq) ( .slice b2 tr.pkt.pay.length d2)
          rw [← hwv]
          exact ⟨_, tr, b0, b1, b2, d0, d1, d2, rfl, HTR, hbv, (((((hxd.trans hxN3).trans hk1x).trans hxN1).trans hxN6).trans hk2x).chg1 hcv (((hxd.trans hxN3).trans hk1x).trans hxN1).size⟩
        ·
         have hba := blk_new wk1 (.cells #[.int .i64 0, .slice none 0 0, .int .i64 0, .int .i64 0, .int .i64 0, .slice none 0 0, .int .i64 0, .int .i64 0, .int .i64 0, .int .i64 0, .int .i64 0, .slice none 0 0] 56)
         have HBA := Lib.hid hba; clear hba
         have hxN6 : Ext wk1 (wk1.alloc (.cells #[.int .i64 0, .slice none 0 0, .int .i64 0, .int .i64 0, .int .i64 0, .slice none 0 0, .int .i64 0, .int .i64 0, .int .i64 0, .int .i64 0, .int .i64 0, .slice none 0 0] 56)) := (Ext.refl _).alloc _
         refine oneStep (fun K HK => ?_)
         simp only [PK]
         go_wp2_with fail
         refine HK.out _ _ hxN6 ?_
         clear HK K
         generalize wk1.alloc (.cells #[.int .i64 0, .slice none 0 0, .int .i64 0, .int .i64 0, .int .i64 0, .slice none 0 0, .int .i64 0, .int .i64 0, .int .i64 0, .int .i64 0, .int .i64 0, .slice none 0 0] 56) = wa6 at HBA hxN6 ⊢
         have rN1 := OwnF.rd (hf := intFlen) (OwnF.empty intF 1 0 3 wa6 (Nat.zero_le _))
         have hxN1 : Ext wa6 (wa6.alloc (.cells #[] 3)) := (Ext.refl _).alloc _
         refine oneStep (fun K HK => ?_)
         simp only [PK]
         go_wp2_with fail
         refine HK.out _ _ hxN1 ?_
         clear HK K
         generalize wa6.alloc (.cells #[] 3) = wa1 at rN1 hxN1 ⊢
         refine oneStep (fun K HK => ?_)
         simp only [PK]
         go_wp2_with fail
         refine (i_Traverse t _ _ 50 [] _ (newPkt 1 q 0 0 []) _ _ _ (rA.ext (((((((((((hx1.trans ((Ext.refl _).drew)).trans hz2).trans hz3).trans hz4).trans hz5).trans ((Ext.refl _).drew)).trans hz6).trans ((Ext.refl _).drew)).trans hz7).trans hx).trans ((((hxd.trans hxN3).trans hk1x).trans hxN6).trans hxN1))) (rL.ext (((((((((((hx1.trans ((Ext.refl _).drew)).trans hz2).trans hz3).trans hz4).trans hz5).trans ((Ext.refl _).drew)).trans hz6).trans ((Ext.refl _).drew)).trans hz7).trans hx).trans ((((hxd.trans hxN3).trans hk1x).trans hxN6).trans hxN1))) (rN1.ext (Ext.refl _)) ((Pkt.own_rd0 ou).ext (hxN6.trans hxN1)) ((Pkt.own_rd1 ou).ext (hxN6.trans hxN1)) hts hl2).mono ?_
         rintro e wk2 ⟨x0, x1, x2, rfl, oo, hk2x⟩
         obtain ⟨tr, htr⟩ : ∃ tr, tr = traverse t 50 [] (newPkt 1 q 0 0 []) := ⟨_, rfl⟩
         rw [← htr] at oo ⊢
         have HTR := Lib.hid htr; clear htr
         obtain ⟨b0, d0, rfl, _⟩ := (Trc.own_rd0 oo).shape
         obtain ⟨b1, d1, rfl, _⟩ := (Trc.own_rd1 oo).shape
         obtain ⟨b2, d2, rfl, _⟩ := (Trc.own_rd2 oo).shape
         go_wp2_with fail
         refine HK.out _ _ hk2x ?_
         clear HK K
         have hbs := Ext.block (hxN1.trans hk2x) HBA.out
         have hcs := blk12 hbs
         have hfs0 := fr_of hbs 0
         have hfs1 := fr_of hbs 1
         have hfs2 := fr_of hbs 2
         have hfs3 := fr_of hbs 3
         have hfs4 := fr_of hbs 4
         have hfs5 := fr_of hbs 5
         have hfs6 := fr_of hbs 6
         have hfs7 := fr_of hbs 7
         have hfs8 := fr_of hbs 8
         have hfs9 := fr_of hbs 9
         have hfs10 := fr_of hbs 10
         have hfs11 := fr_of hbs 11
         have HBS := Lib.hid hbs; clear hbs
         refine badStep (by kernel_rfl) (fun K HK => ?_)
         simp only [PK]
         go_wp2_with fail
         refine HK.out _ _ ?_
         clear HK K
         refine doneStep (by kernel_rfl) ?_
         go_wp2_with fail
         go_meet
         obtain ⟨wv, hwv, hbv, hcv, hsv⟩ := vd_set HBS.out (.int .i64 tr.code) ( .slice b0 tr.steps.length d0) ( .int .i64 tr.pkt.kind) ( .int .i64 tr.pkt.src) ( .int .i64 tr.pkt.dst) ( .slice b1 tr.pkt.path.parts.length d1) ( .int .i64 tr.pkt.pi) ( .int .i64 tr.pkt.hi) ( .int .i64 tr.pkt.beta) ( .int .i64 tr.pkt.rid) ( .int .i64 tr.pkt.seq) ( .slice b2 tr.pkt.pay.length d2)
         rw [← hwv]
         exact ⟨_, tr, b0, b1, b2, d0, d1, d2, rfl, HTR, hbv, (((((hxd.trans hxN3).trans hk1x).trans hxN6).trans hxN1).trans hk2x).chg1 hcv ((hxd.trans hxN3).trans hk1x).size⟩
       ·
        have hba := blk_new wa3 (.cells #[.int .i64 0, .slice none 0 0, .int .i64 0, .int .i64 0, .int .i64 0, .slice none 0 0, .int .i64 0, .int .i64 0, .int .i64 0, .int .i64 0, .int .i64 0, .slice none 0 0] 56)
        have HBA := Lib.hid hba; clear hba
        have hxN6 : Ext wa3 (wa3.alloc (.cells #[.int .i64 0, .slice none 0 0, .int .i64 0, .int .i64 0, .int .i64 0, .slice none 0 0, .int .i64 0, .int .i64 0, .int .i64 0, .int .i64 0, .int .i64 0, .slice none 0 0] 56)) := (Ext.refl _).alloc _
        refine oneStep (fun K HK => ?_)
        simp only [PK]
        go_wp2_with fail
        refine HK.out _ _ hxN6 ?_
        clear HK K
        generalize wa3.alloc (.cells #[.int .i64 0, .slice none 0 0, .int .i64 0, .int .i64 0, .int .i64 0, .slice none 0 0, .int .i64 0, .int .i64 0, .int .i64 0, .int .i64 0, .int .i64 0, .slice none 0 0] 56) = wa6 at HBA hxN6 ⊢
        refine twoStep ?_ ?_
        ·
         have rN1 := OwnF.rd (hf := intFlen) (OwnF.empty intF 1 0 3 wa6 (Nat.zero_le _))
         have hxN1 : Ext wa6 (wa6.alloc (.cells #[] 3)) := (Ext.refl _).alloc _
         refine oneStep (fun K HK => ?_)
         simp only [PK]
         go_wp2_with fail
         refine HK.out _ _ hxN1 ?_
         clear HK K
         generalize wa6.alloc (.cells #[] 3) = wa1 at rN1 hxN1 ⊢
         refine oneStep (fun K HK => ?_)
         simp only [PK]
         go_wp2_with fail
         refine (i_NewPacket 1 q _ 0 0 [] _ _ (rQ.ext (((hxd.trans hxN3).trans hxN6).trans hxN1)) (rN3.ext (hxN6.trans hxN1)) (by omega) (by simp)).mono ?_
         rintro e wk1 ⟨u0, u1, rfl, ou, hk1x⟩
         go_wp2_with fail
         refine HK.out _ _ hk1x ?_
         clear HK K
         refine oneStep (fun K HK => ?_)
         simp only [PK]
         go_wp2_with fail
         refine (i_Traverse t _ _ 50 [] _ (newPkt 1 q 0 0 []) _ _ _ (rA.ext (((((((((((hx1.trans ((Ext.refl _).drew)).trans hz2).trans hz3).trans hz4).trans hz5).trans ((Ext.refl _).drew)).trans hz6).trans ((Ext.refl _).drew)).trans hz7).trans hx).trans ((((hxd.trans hxN3).trans hxN6).trans hxN1).trans hk1x))) (rL.ext (((((((((((hx1.trans ((Ext.refl _).drew)).trans hz2).trans hz3).trans hz4).trans hz5).trans ((Ext.refl _).drew)).trans hz6).trans ((Ext.refl _).drew)).trans hz7).trans hx).trans ((((hxd.trans hxN3).trans hxN6).trans hxN1).trans hk1x))) (rN1.ext hk1x) ((Pkt.own_rd0 ou).ext (Ext.refl _)) ((Pkt.own_rd1 ou).ext (Ext.refl _)) hts hl2).mono ?_
         rintro e wk2 ⟨x0, x1, x2, rfl, oo, hk2x⟩
         obtain ⟨tr, htr⟩ : ∃ tr, tr = traverse t 50 [] (newPkt 1 q 0 0 []) := ⟨_, rfl⟩
         rw [← htr] at oo ⊢
         have HTR := Lib.hid htr; clear htr
         obtain ⟨b0, d0, rfl, _⟩ := (Trc.own_rd0 oo).shape
         obtain ⟨b1, d1, rfl, _⟩ := (Trc.own_rd1 oo).shape
         obtain ⟨b2, d2, rfl, _⟩ := (Trc.own_rd2 oo).shape
         go_wp2_with fail
         refine HK.out _ _ hk2x ?_
         clear HK K
         have hbs := Ext.block ((hxN1.trans hk1x).trans hk2x) HBA.out
         have hcs := blk12 hbs
         have hfs0 := fr_of hbs 0
         have hfs1 := fr_of hbs 1
         have hfs2 := fr_of hbs 2
         have hfs3 := fr_of hbs 3
         have hfs4 := fr_of hbs 4
         have hfs5 := fr_of hbs 5
         have hfs6 := fr_of hbs 6
         have hfs7 := fr_of hbs 7
         have hfs8 := fr_of hbs 8
         have hfs9 := fr_of hbs 9
         have hfs10 := fr_of hbs 10
         have hfs11 := fr_of hbs 11
         have HBS := Lib.hid hbs; clear hbs
         refine badStep (by kernel_rfl) (fun K HK => ?_)
         simp only [PK]
         go_wp2_with fail
         refine HK.out _ _ ?_
         clear HK K
         refine doneStep (by kernel_rfl) ?_
         go_wp2_with fail
         go_meet
         obtain ⟨wv, hwv, hbv, hcv, hsv⟩ := vd_set HBS.out (.int .i64 tr.code) ( .slice b0 tr.steps.length d0) ( .int .i64 tr.pkt.kind) ( .int .i64 tr.pkt.src) ( .int .i64 tr.pkt.dst) ( .slice b1 tr.pkt.path.parts.length d1) ( .int .i64 tr.pkt.pi) ( .int .i64 tr.pkt.hi) ( .int .i64 tr.pkt.beta) ( .int .i64 tr.pkt.rid) ( .int .i64 tr.pkt.seq) ( .slice b2 tr.pkt.pay.length d2)
         rw [← hwv]
         exact ⟨_, tr, b0, b1, b2, d0, d1, d2, rfl, HTR, hbv, (((((hxd.trans hxN3).trans hxN6).trans hxN1).trans hk1x).trans hk2x).chg1 hcv (hxd.trans hxN3).size⟩
        ·
         refine oneStep (fun K HK => ?_)
         simp only [PK]
         go_wp2_with fail
         refine (i_NewPacket 1 q _ 0 0 [] _ _ (rQ.ext ((hxd.trans hxN3).trans hxN6)) (rN3.ext hxN6) (by omega) (by simp)).mono ?_
         rintro e wk1 ⟨u0, u1, rfl, ou, hk1x⟩
         go_wp2_with fail
         refine HK.out _ _ hk1x ?_
         clear HK K
         have rN1 := OwnF.rd (hf := intFlen) (OwnF.empty intF 1 0 3 wk1 (Nat.zero_le _))
         have hxN1 : Ext wk1 (wk1.alloc (.cells #[] 3)) := (Ext.refl _).alloc _
         refine oneStep (fun K HK => ?_)
         simp only [PK]
         go_wp2_with fail
         refine HK.out _ _ hxN1 ?_
         clear HK K
         generalize wk1.alloc (.cells #[] 3) = wa1 at rN1 hxN1 ⊢
         refine oneStep (fun K HK => ?_)
         simp only [PK]
         go_wp2_with fail
         refine (i_Traverse t _ _ 50 [] _ (newPkt 1 q 0 0 []) _ _ _ (rA.ext (((((((((((hx1.trans ((Ext.refl _).drew)).trans hz2).trans hz3).trans hz4).trans hz5).trans ((Ext.refl _).drew)).trans hz6).trans ((Ext.refl _).drew)).trans hz7).trans hx).trans ((((hxd.trans hxN3).trans hxN6).trans hk1x).trans hxN1))) (rL.ext (((((((((((hx1.trans ((Ext.refl _).drew)).trans hz2).trans hz3).trans hz4).trans hz5).trans ((Ext.refl _).drew)).trans hz6).trans ((Ext.refl _).drew)).trans hz7).trans hx).trans ((((hxd.trans hxN3).trans hxN6).trans hk1x).trans hxN1))) (rN1.ext (Ext.refl _)) ((Pkt.own_rd0 ou).ext hxN1) ((Pkt.own_rd1 ou).ext hxN1) hts hl2).mono ?_
         rintro e wk2 ⟨x0, x1, x2, rfl, oo, hk2x⟩
         obtain ⟨tr, htr⟩ : ∃ tr, tr = traverse t 50 [] (newPkt 1 q 0 0 []) := ⟨_, rfl⟩
         rw [← htr] at oo ⊢
         have HTR := Lib.hid htr; clear htr
         obtain ⟨b0, d0, rfl, _⟩ := (Trc.own_rd0 oo).shape
         obtain ⟨b1, d1, rfl, _⟩ := (Trc.own_rd1 oo).shape
         obtain ⟨b2, d2, rfl, _⟩ := (Trc.own_rd2 oo).shape
         go_wp2_with fail
         refine HK.out _ _ hk2x ?_
         clear HK K
         have hbs := Ext.block ((hk1x.trans hxN1).trans hk2x) HBA.out
         have hcs := blk12 hbs
         have hfs0 := fr_of hbs 0
         have hfs1 := fr_of hbs 1
         have hfs2 := fr_of hbs 2
         have hfs3 := fr_of hbs 3
         have hfs4 := fr_of hbs 4
         have hfs5 := fr_of hbs 5
         have hfs6 := fr_of hbs 6
         have hfs7 := fr_of hbs 7
         have hfs8 := fr_of hbs 8
         have hfs9 := fr_of hbs 9
         have hfs10 := fr_of hbs 10
         have hfs11 := fr_of hbs 11
         have HBS := Lib.hid hbs; clear hbs
         refine badStep (by kernel_rfl) (fun K HK => ?_)
         simp only [PK]
         go_wp2_with fail
         refine HK.out _ _ ?_
         clear HK K
         refine doneStep (by kernel_rfl) ?_
         go_wp2_with fail
         go_meet
         obtain ⟨wv, hwv, hbv, hcv, hsv⟩ := vd_set HBS.out (.int .i64 tr.code) ( .slice b0 tr.steps.length d0) ( .int .i64 tr.pkt.kind) ( .int .i64 tr.pkt.src) ( .int .i64 tr.pkt.dst) ( .slice b1 tr.pkt.path.parts.length d1) ( .int .i64 tr.pkt.pi) ( .int .i64 tr.pkt.hi) ( .int .i64 tr.pkt.beta) ( .int .i64 tr.pkt.rid) ( .int .i64 tr.pkt.seq) ( .slice b2 tr.pkt.pay.length d2)
         rw [← hwv]
         exact ⟨_, tr, b0, b1, b2, d0, d1, d2, rfl, HTR, hbv, (((((hxd.trans hxN3).trans hxN6).trans hk1x).trans hxN1).trans hk2x).chg1 hcv (hxd.trans hxN3).size⟩
      ·
       have hba := blk_new wd3 (.cells #[.int .i64 0, .slice none 0 0, .int .i64 0, .int .i64 0, .int .i64 0, .slice none 0 0, .int .i64 0, .int .i64 0, .int .i64 0, .int .i64 0, .int .i64 0, .slice none 0 0] 56)
       have HBA := Lib.hid hba; clear hba
       have hxN6 : Ext wd3 (wd3.alloc (.cells #[.int .i64 0, .slice none 0 0, .int .i64 0, .int .i64 0, .int .i64 0, .slice none 0 0, .int .i64 0, .int .i64 0, .int .i64 0, .int .i64 0, .int .i64 0, .slice none 0 0] 56)) := (Ext.refl _).alloc _
       refine oneStep (fun K HK => ?_)
       simp only [PK]
       go_wp2_with fail
       refine HK.out _ _ hxN6 ?_
       clear HK K
       generalize wd3.alloc (.cells #[.int .i64 0, .slice none 0 0, .int .i64 0, .int .i64 0, .int .i64 0, .slice none 0 0, .int .i64 0, .int .i64 0, .int .i64 0, .int .i64 0, .int .i64 0, .slice none 0 0] 56) = wa6 at HBA hxN6 ⊢
       refine twoStep ?_ ?_
       ·
        have rN1 := OwnF.rd (hf := intFlen) (OwnF.empty intF 1 0 3 wa6 (Nat.zero_le _))
        have hxN1 : Ext wa6 (wa6.alloc (.cells #[] 3)) := (Ext.refl _).alloc _
        refine oneStep (fun K HK => ?_)
        simp only [PK]
        go_wp2_with fail
        refine HK.out _ _ hxN1 ?_
        clear HK K
        generalize wa6.alloc (.cells #[] 3) = wa1 at rN1 hxN1 ⊢
        have rN3 := OwnF.rd (hf := byteFlen) (OwnF.empty byteF 1 0 5 wa1 (Nat.zero_le _))
        have hxN3 : Ext wa1 (wa1.alloc (.cells #[] 5)) := (Ext.refl _).alloc _
        refine oneStep (fun K HK => ?_)
        simp only [PK]
        go_wp2_with fail
        refine HK.out _ _ hxN3 ?_
        clear HK K
        generalize wa1.alloc (.cells #[] 5) = wa3 at rN3 hxN3 ⊢
        refine oneStep (fun K HK => ?_)
        simp only [PK]
        go_wp2_with fail
        refine (i_NewPacket 1 q _ 0 0 [] _ _ (rQ.ext (((hxd.trans hxN6).trans hxN1).trans hxN3)) (rN3.ext (Ext.refl _)) (by omega) (by simp)).mono ?_
        rintro e wk1 ⟨u0, u1, rfl, ou, hk1x⟩
        go_wp2_with fail
        refine HK.out _ _ hk1x ?_
        clear HK K
        refine oneStep (fun K HK => ?_)
        simp only [PK]
        go_wp2_with fail
        refine (i_Traverse t _ _ 50 [] _ (newPkt 1 q 0 0 []) _ _ _ (rA.ext (((((((((((hx1.trans ((Ext.refl _).drew)).trans hz2).trans hz3).trans hz4).trans hz5).trans ((Ext.refl _).drew)).trans hz6).trans ((Ext.refl _).drew)).trans hz7).trans hx).trans ((((hxd.trans hxN6).trans hxN1).trans hxN3).trans hk1x))) (rL.ext (((((((((((hx1.trans ((Ext.refl _).drew)).trans hz2).trans hz3).trans hz4).trans hz5).trans ((Ext.refl _).drew)).trans hz6).trans ((Ext.refl _).drew)).trans hz7).trans hx).trans ((((hxd.trans hxN6).trans hxN1).trans hxN3).trans hk1x))) (rN1.ext (hxN3.trans hk1x)) ((Pkt.own_rd0 ou).ext (Ext.refl _)) ((Pkt.own_rd1 ou).ext (Ext.refl _)) hts hl2).mono ?_
        rintro e wk2 ⟨x0, x1, x2, rfl, oo, hk2x⟩
        obtain ⟨tr, htr⟩ : ∃ tr, tr = traverse t 50 [] (newPkt 1 q 0 0 []) := ⟨_, rfl⟩
        rw [← htr] at oo ⊢
        have HTR := Lib.hid htr; clear htr
        obtain ⟨b0, d0, rfl, _⟩ := (Trc.own_rd0 oo).shape
        obtain ⟨b1, d1, rfl, _⟩ := (Trc.own_rd1 oo).shape
        obtain ⟨b2, d2, rfl, _⟩ := (Trc.own_rd2 oo).shape
        go_wp2_with fail
        refine HK.out _ _ hk2x ?_
        clear HK K
        have hbs := Ext.block (((hxN1.trans hxN3).trans hk1x).trans hk2x) HBA.out
        have hcs := blk12 hbs
        have hfs0 := fr_of hbs 0
        have hfs1 := fr_of hbs 1
        have hfs2 := fr_of hbs 2
        have hfs3 := fr_of hbs 3
        have hfs4 := fr_of hbs 4
        have hfs5 := fr_of hbs 5
        have hfs6 := fr_of hbs 6
        have hfs7 := fr_of hbs 7
        have hfs8 := fr_of hbs 8
        have hfs9 := fr_of hbs 9
        have hfs10 := fr_of hbs 10
        have hfs11 := fr_of hbs 11
        have HBS := Lib.hid hbs; clear hbs
        refine badStep (by kernel_rfl) (fun K HK => ?_)
        simp only [PK]
        go_wp2_with fail
        refine HK.out _ _ ?_
        clear HK K
        refine doneStep (by kernel_rfl) ?_
        go_wp2_with fail
        go_meet
        obtain ⟨wv, hwv, hbv, hcv, hsv⟩ := vd_set HBS.out (.int .i64 tr.code) ( .slice b0 tr.steps.length d0) ( .int .i64 tr.pkt.kind) ( .int .i64 tr.pkt.src) ( .int .i64 tr.pkt.dst) ( .slice b1 tr.pkt.path.parts.length d1) ( .int .i64 tr.pkt.pi) ( .int .i64 tr.pkt.hi) ( .int .i64 tr.pkt.beta) ( .int .i64 tr.pkt.rid) ( .int .i64 tr.pkt.seq) ( .slice b2 tr.pkt.pay.length d2)
        rw [← hwv]
        exact ⟨_, tr, b0, b1, b2, d0, d1, d2, rfl, HTR, hbv, (((((hxd.trans hxN6).trans hxN1).trans hxN3).trans hk1x).trans hk2x).chg1 hcv hxd.size⟩
       ·
        have rN3 := OwnF.rd (hf := byteFlen) (OwnF.empty byteF 1 0 5 wa6 (Nat.zero_le _))
        have hxN3 : Ext wa6 (wa6.alloc (.cells #[] 5)) := (Ext.refl _).alloc _
        refine oneStep (fun K HK => ?_)
        simp only [PK]
        go_wp2_with fail
        refine HK.out _ _ hxN3 ?_
        clear HK K
        generalize wa6.alloc (.cells #[] 5) = wa3 at rN3 hxN3 ⊢
        refine twoStep ?_ ?_
        ·
         have rN1 := OwnF.rd (hf := intFlen) (OwnF.empty intF 1 0 3 wa3 (Nat.zero_le _))
         have hxN1 : Ext wa3 (wa3.alloc (.cells #[] 3)) := (Ext.refl _).alloc _
         refine oneStep (fun K HK => ?_)
         simp only [PK]
         go_wp2_with fail
         refine HK.out _ _ hxN1 ?_
         clear HK K
         generalize wa3.alloc (.cells #[] 3) = wa1 at rN1 hxN1 ⊢
         refine oneStep (fun K HK => ?_)
         simp only [PK]
         go_wp2_with fail
         refine (i_NewPacket 1 q _ 0 0 [] _ _ (rQ.ext (((hxd.trans hxN6).trans hxN3).trans hxN1)) (rN3.ext hxN1) (by omega) (by simp)).mono ?_
         rintro e wk1 ⟨u0, u1, rfl, ou, hk1x⟩
         go_wp2_with fail
         refine HK.out _ _ hk1x ?_
         clear HK K
         refine oneStep (fun K HK => ?_)
         simp only [PK]
         go_wp2_with fail
         refine (i_Traverse t _ _ 50 [] _ (newPkt 1 q 0 0 []) _ _ _ (rA.ext (((((((((((hx1.trans ((Ext.refl _).drew)).trans hz2).trans hz3).trans hz4).trans hz5).trans ((Ext.refl _).drew)).trans hz6).trans ((Ext.refl _).drew)).trans hz7).trans hx).trans ((((hxd.trans hxN6).trans hxN3).trans hxN1).trans hk1x))) (rL.ext (((((((((((hx1.trans ((Ext.refl _).drew)).trans hz2).trans hz3).trans hz4).trans hz5).trans ((Ext.refl _).drew)).trans hz6).trans ((Ext.refl _).drew)).trans hz7).trans hx).trans ((((hxd.trans hxN6).trans hxN3).trans hxN1).trans hk1x))) (rN1.ext hk1x) ((Pkt.own_rd0 ou).ext (Ext.refl _)) ((Pkt.own_rd1 ou).ext (Ext.refl _)) hts hl2).mono ?_
         rintro e wk2 ⟨x0, x1, x2, rfl, oo, hk2x⟩
         obtain ⟨tr, htr⟩ : ∃ tr, tr = traverse t 50 [] (newPkt 1 q 0 0 []) := ⟨_, rfl⟩
         rw [← htr] at oo ⊢
         have HTR := Lib.hid htr; clear htr
         obtain ⟨b0, d0, rfl, _⟩ := (Trc.own_rd0 oo).shape
         obtain ⟨b1, d1, rfl, _⟩ := (Trc.own_rd1 oo).shape
         obtain ⟨b2, d2, rfl, _⟩ := (Trc.own_rd2 oo).shape
         go_wp2_with fail
         refine HK.out _ _ hk2x ?_
         clear HK K
         have hbs := Ext.block (((hxN3.trans hxN1).trans hk1x).trans hk2x) HBA.out
         have hcs := blk12 hbs
         have hfs0 := fr_of hbs 0
         have hfs1 := fr_of hbs 1
         have hfs2 := fr_of hbs 2
         have hfs3 := fr_of hbs 3
         have hfs4 := fr_of hbs 4
         have hfs5 := fr_of hbs 5
         have hfs6 := fr_of hbs 6
         have hfs7 := fr_of hbs 7
         have hfs8 := fr_of hbs 8
         have hfs9 := fr_of hbs 9
         have hfs10 := fr_of hbs 10
         have hfs11 := fr_of hbs 11
         have HBS := Lib.hid hbs; clear hbs
         refine badStep (by kernel_rfl) (fun K HK => ?_)
         simp only [PK]
         go_wp2_with fail
         refine HK.out _ _ ?_
         clear HK K
         refine doneStep (by kernel_rfl) ?_
         go_wp2_with fail
         go_meet
         obtain ⟨wv, hwv, hbv, hcv, hsv⟩ := vd_set HBS.out (.int .i64 tr.code) ( .slice b0 tr.steps.length d0) ( .int .i64 tr.pkt.kind) ( .int .i64 tr.pkt.src) ( .int .i64 tr.pkt.dst) ( .slice b1 tr.pkt.path.parts.length d1) ( .int .i64 tr.pkt.pi) ( .int .i64 tr.pkt.hi) ( .int .i64 tr.pkt.beta) ( .int .i64 tr.pkt.rid) ( .int .i64 tr.pkt.seq) ( .slice b2 tr.pkt.pay.length d2)
         rw [← hwv]
         exact ⟨_, tr, b0, b1, b2, d0, d1, d2, rfl, HTR, hbv, (((((hxd.trans hxN6).trans hxN3).trans hxN1).trans hk1x).trans hk2x).chg1 hcv hxd.size⟩
        ·
         refine oneStep (fun K HK => ?_)
         simp only [PK]
         go_wp2_with fail
         refine (i_NewPacket 1 q _ 0 0 [] _ _ (rQ.ext ((hxd.trans hxN6).trans hxN3)) (rN3.ext (Ext.refl _)) (by omega) (by simp)).mono ?_
         rintro e wk1 ⟨u0, u1, rfl, ou, hk1x⟩
         go_wp2_with fail
         refine HK.out _ _ hk1x ?_
         clear HK K
         have rN1 := OwnF.rd (hf := intFlen) (OwnF.empty intF 1 0 3 wk1 (Nat.zero_le _))
         have hxN1 : Ext wk1 (wk1.alloc (.cells #[] 3)) := (Ext.refl _).alloc _
         refine oneStep (fun K HK => ?_)
         simp only [PK]
         go_wp2_with fail
         refine HK.out _ _ hxN1 ?_
         clear HK K
         generalize wk1.alloc (.cells #[] 3) = wa1 at rN1 hxN1 ⊢
         refine oneStep (fun K HK => ?_)
         simp only [PK]
         go_wp2_with fail
         refine (i_Traverse t _ _ 50 [] _ (newPkt 1 q 0 0 []) _ _ _ (rA.ext (((((((((((hx1.trans ((Ext.refl _).drew)).trans hz2).trans hz3).trans hz4).trans hz5).trans ((Ext.refl _).drew)).trans hz6).trans ((Ext.refl _).drew)).trans hz7).trans hx).trans ((((hxd.trans hxN6).trans hxN3).trans hk1x).trans hxN1))) (rL.ext (((((((((((hx1.trans ((Ext.refl _).drew)).trans hz2).trans hz3).trans hz4).trans hz5).trans ((Ext.refl _).drew)).trans hz6).trans ((Ext.refl _).drew)).trans hz7).trans hx).trans ((((hxd.trans hxN6).trans hxN3).trans hk1x).trans hxN1))) (rN1.ext (Ext.refl _)) ((Pkt.own_rd0 ou).ext hxN1) ((Pkt.own_rd1 ou).ext hxN1) hts hl2).mono ?_
         rintro e wk2 ⟨x0, x1, x2, rfl, oo, hk2x⟩
         obtain ⟨tr, htr⟩ : ∃ tr, tr = traverse t 50 [] (newPkt 1 q 0 0 []) := ⟨_, rfl⟩
         rw [← htr] at oo ⊢
         have HTR := Lib.hid htr; clear htr
         obtain ⟨b0, d0, rfl, _⟩ := (Trc.own_rd0 oo).shape
         obtain ⟨b1, d1, rfl, _⟩ := (Trc.own_rd1 oo).shape
         obtain ⟨b2, d2, rfl, _⟩ := (Trc.own_rd2 oo).shape
         go_wp2_with fail
         refine HK.out _ _ hk2x ?_
         clear HK K
         have hbs := Ext.block (((hxN3.trans hk1x).trans hxN1).trans hk2x) HBA.out
         have hcs := blk12 hbs
         have hfs0 := fr_of hbs 0
         have hfs1 := fr_of hbs 1
         have hfs2 := fr_of hbs 2
         have hfs3 := fr_of hbs 3
         have hfs4 := fr_of hbs 4
         have hfs5 := fr_of hbs 5
         have hfs6 := fr_of hbs 6
         have hfs7 := fr_of hbs 7
         have hfs8 := fr_of hbs 8
         have hfs9 := fr_of hbs 9
         have hfs10 := fr_of hbs 10
         have hfs11 := fr_of hbs 11
         have HBS := Lib.hid hbs; clear hbs
         refine badStep (by kernel_rfl) (fun K HK => ?_)
         simp only [PK]
         go_wp2_with fail
         refine HK.out _ _ ?_
         clear HK K
         refine doneStep (by kernel_rfl) ?_
         go_wp2_with fail
         go_meet
         obtain ⟨wv, hwv, hbv, hcv, hsv⟩ := vd_set HBS.out (.int .i64 tr.code) ( .slice b0 tr.steps.length d0) ( .int .i64 tr.pkt.kind) ( .int .i64 tr.pkt.src) ( .int .i64 tr.pkt.dst) ( .slice b1 tr.pkt.path.parts.length d1) ( .int .i64 tr.pkt.pi) ( .int .i64 tr.pkt.hi) ( .int .i64 tr.pkt.beta) ( .int .i64 tr.pkt.rid) ( .int .i64 tr.pkt.seq) ( .slice b2 tr.pkt.pay.length d2)
         rw [← hwv]
         exact ⟨_, tr, b0, b1, b2, d0, d1, d2, rfl, HTR, hbv, (((((hxd.trans hxN6).trans hxN3).trans hk1x).trans hxN1).trans hk2x).chg1 hcv hxd.size⟩
     case rest =>
      obtain ⟨b11, tr, b0, b1, b2, d0, d1, d2, rfl, HTR, hbt, hxt⟩ := hcut
      obtain ⟨wt, hwt⟩ : ∃ wt : World, wt = wc := ⟨_, rfl⟩
      subst hwt
      have HBT := Lib.hid hbt
      clear hbt
      have hcd : (tr.code == 4) = true := by rw [HTR.out, HLAW.out.1]; rfl
      have hre : reaches t 50 [] q = false := by unfold reaches; rw [HLAW.out.1]; rfl
      obtain ⟨n, hn⟩ : ∃ n, n = (pathSteps p.parts).length := ⟨_, rfl⟩
      have hst : (tr.steps.length : Int) < (n : Int) := by rw [HTR.out, hn]; have h1 := HLAW.out.2; omega
      have HN := Lib.hid hn
      clear hn HLAW
      try clear cf31
      try clear cf32
      try clear cf33
      have cf34 := blk2 (Ext.block ((((((((((((Ext.refl _).drew).trans hz2).trans hz3).trans hz4).trans hz5).trans ((Ext.refl _).drew)).trans hz6).trans ((Ext.refl _).drew)).trans hz7).trans hx).trans hxt) HB1.out.1)
      have cf35 := blk1 (Ext.block ((((((((((((Ext.refl _).drew).trans hz2).trans hz3).trans hz4).trans hz5).trans ((Ext.refl _).drew)).trans hz6).trans ((Ext.refl _).drew)).trans hz7).trans hx).trans hxt) HB1.out.2)
      have cf36 := blk1 (Ext.block hxt HBk.out)
      have cf37 := blk12 HBT.out
      go_wp2_with fail
      refine planStep (.blk [0, 1, 2, 3, 4, 5, 6, 7] (.one 8 (.blk [9, 10, 11, 12, 14] (.one 13 (.one 15 (.blk [16, 17, 18] .done)))))) [] (by kernel_rfl) (by kernel_rfl) ?_
      try clear cf34
      try clear cf35
      try clear cf36
      try clear cf37
      have cf38 := blk2 (Ext.block (((((((((((((Ext.refl _).drew).trans hz2).trans hz3).trans hz4).trans hz5).trans ((Ext.refl _).drew)).trans hz6).trans ((Ext.refl _).drew)).trans hz7).trans hx).trans hxt).trans ((Ext.refl _).drew)) HB1.out.1)
      have cf39 := blk1 (Ext.block (((((((((((((Ext.refl _).drew).trans hz2).trans hz3).trans hz4).trans hz5).trans ((Ext.refl _).drew)).trans hz6).trans ((Ext.refl _).drew)).trans hz7).trans hx).trans hxt).trans ((Ext.refl _).drew)) HB1.out.2)
      have cf40 := blk1 (Ext.block (hxt.trans ((Ext.refl _).drew)) HBk.out)
      have cf41 := blk12 (Ext.block ((Ext.refl _).drew) HBT.out)
      refine blkStep (fun K HK => ?_)
      simp only [PK]
      go_wp2_with fail
      refine HK.out _ _ ?_
      clear HK K
      refine oneStep (fun K HK => ?_)
      simp only [PK]
      go_wp2_with fail
      refine (i_PathLength p _ _ (rP.ext ((((((((((((hx1.trans ((Ext.refl _).drew)).trans hz2).trans hz3).trans hz4).trans hz5).trans ((Ext.refl _).drew)).trans hz6).trans ((Ext.refl _).drew)).trans hz7).trans hx).trans hxt).trans ((Ext.refl _).drew))) (by omega)).mono ?_
      rintro e w8 ⟨rfl, hz8⟩
      rw [← HN.out]
      try clear cf38
      try clear cf39
      try clear cf40
      try clear cf41
      have cf42 := blk2 (Ext.block ((((((((((((((Ext.refl _).drew).trans hz2).trans hz3).trans hz4).trans hz5).trans ((Ext.refl _).drew)).trans hz6).trans ((Ext.refl _).drew)).trans hz7).trans hx).trans hxt).trans ((Ext.refl _).drew)).trans hz8) HB1.out.1)
      have cf43 := blk1 (Ext.block ((((((((((((((Ext.refl _).drew).trans hz2).trans hz3).trans hz4).trans hz5).trans ((Ext.refl _).drew)).trans hz6).trans ((Ext.refl _).drew)).trans hz7).trans hx).trans hxt).trans ((Ext.refl _).drew)).trans hz8) HB1.out.2)
      have cf44 := blk1 (Ext.block ((hxt.trans ((Ext.refl _).drew)).trans hz8) HBk.out)
      have cf45 := blk12 (Ext.block (((Ext.refl _).drew).trans hz8) HBT.out)
      go_wp2_with fail
      refine HK.out _ _ hz8 ?_
      clear HK K
      refine blkStep (fun K HK => ?_)
      simp only [PK]
      go_wp2_with fail
      refine HK.out _ _ ?_
      clear HK K
      refine oneStep (fun K HK => ?_)
      simp only [PK]
      go_wp2_with fail
      refine HK.out _ _ ((Ext.refl _).alloc _) ?_
      clear HK K
      refine oneStep (fun K HK => ?_)
      simp only [PK]
      go_wp2_with fail
      refine (i_Reaches t _ _ 50 [] _ q _ _ (rA.ext ((((((((((((((hx1.trans ((Ext.refl _).drew)).trans hz2).trans hz3).trans hz4).trans hz5).trans ((Ext.refl _).drew)).trans hz6).trans ((Ext.refl _).drew)).trans hz7).trans hx).trans hxt).trans ((Ext.refl _).drew)).trans hz8).trans ((Ext.refl _).alloc _))) (rL.ext ((((((((((((((hx1.trans ((Ext.refl _).drew)).trans hz2).trans hz3).trans hz4).trans hz5).trans ((Ext.refl _).drew)).trans hz6).trans ((Ext.refl _).drew)).trans hz7).trans hx).trans hxt).trans ((Ext.refl _).drew)).trans hz8).trans ((Ext.refl _).alloc _))) (by exact OwnF.rd (hf := intFlen) (OwnF.emptyAt (f := intF) (n := 1) (base := 0) (e := 3) (by simp) (Nat.zero_le _))) (rQ.ext (((hxt.trans ((Ext.refl _).drew)).trans hz8).trans ((Ext.refl _).alloc _))) hts (by omega)).mono ?_
      rintro e w9 ⟨rfl, hz9⟩
      rw [hre]
      try clear cf42
      try clear cf43
      try clear cf44
      try clear cf45
      have cf46 := blk2 (Ext.block ((((((((((((((((Ext.refl _).drew).trans hz2).trans hz3).trans hz4).trans hz5).trans ((Ext.refl _).drew)).trans hz6).trans ((Ext.refl _).drew)).trans hz7).trans hx).trans hxt).trans ((Ext.refl _).drew)).trans hz8).trans ((Ext.refl _).alloc _)).trans hz9) HB1.out.1)
      have cf47 := blk1 (Ext.block ((((((((((((((((Ext.refl _).drew).trans hz2).trans hz3).trans hz4).trans hz5).trans ((Ext.refl _).drew)).trans hz6).trans ((Ext.refl _).drew)).trans hz7).trans hx).trans hxt).trans ((Ext.refl _).drew)).trans hz8).trans ((Ext.refl _).alloc _)).trans hz9) HB1.out.2)
      have cf48 := blk1 (Ext.block ((((hxt.trans ((Ext.refl _).drew)).trans hz8).trans ((Ext.refl _).alloc _)).trans hz9) HBk.out)
      have cf49 := blk12 (Ext.block (((((Ext.refl _).drew).trans hz8).trans ((Ext.refl _).alloc _)).trans hz9) HBT.out)
      go_wp2_with fail
      refine HK.out _ _ hz9 ?_
      clear HK K
      refine blkStep (fun K HK => ?_)
      simp only [PK]
      go_wp2_with fail
      refine HK.out _ _ ?_
      clear HK K
      refine doneStep (by kernel_rfl) ?_
      go_wp2_with fail
      go_ret
      exact ⟨rfl, ((((((((((((((((hz1.trans hx1).trans ((Ext.refl _).drew)).trans hz2).trans hz3).trans hz4).trans hz5).trans ((Ext.refl _).drew)).trans hz6).trans ((Ext.refl _).drew)).trans hz7).trans hx).trans hxt).trans ((Ext.refl _).drew)).trans hz8).trans ((Ext.refl _).alloc _)).trans hz9)⟩
end
end Go.Proofs.YtjmlicmloacmaaaGreat
