/- The walk of the law on room: a path can be reserved exactly if there is room at all of its interfaces. No condition. -/
import Derived.Test.YtpijlnfjdajeeaaKQxW33a
import Derived.Test.YtpijlnfjdajeeaaKQxPlainR
import Derived.Test.YtpijlnfjdajeeaaKQ34
import Derived.Test.YtpijlnfjdajeeaaKQ36
namespace Go.Proofs.Ytpijlnfjdajeeaa
open Go.ChangeShapes Go.WideShapes Go.ChangeAt Go.RowKit Go.Deep

theorem RdS.uptoR {α : Type} {r : Rep α} {w : World} {o : Option Addr} {m cap : Nat} {l : List α} (h : RdS r w (.slice o m cap) l) (k : Nat) (hk : k ≤ l.length) : RdS r w (.slice o k cap) (l.take k) := by
 obtain ⟨o', cap', hv, h1, h2, hn, h3⟩ := h
 cases hv
 have hl : (l.take k).length = k := by simp; omega
 refine ⟨o, cap, by rw [hl], by omega, h2, hn, fun i hi => ?_⟩
 obtain ⟨b, off, cs, a1, a2, a3⟩ := h3 i (by omega)
 exact ⟨b, off, cs, a1, a2, by simpa using a3⟩
theorem nodup_allTo {l : List Int} : ∀ k, k ≤ l.length → allTo (freshAt l) k = true → (l.take k).Nodup
 | 0, _, _ => by simp
 | k + 1, hk, h => by
  have hk' : k < l.length := by omega
  rw [List.take_succ_eq_append_getElem hk', List.nodup_append]
  simp only [allTo, Bool.and_eq_true] at h
  have h1 := h.1
  refine ⟨nodup_allTo k (by omega) h1, by simp, fun a ha b hb e => ?_⟩
  rw [List.mem_singleton.1 hb] at e
  have h2 := h.2
  rw [freshAt_at hk'] at h2
  rw [e] at ha
  have h3 : hasI (l.take k) l[k] = true := List.any_eq_true.2 ⟨_, ha, by simp⟩
  rw [h3] at h2
  cases h2

set_option maxRecDepth 100000 in
set_option maxHeartbeats 20000000 in
theorem l_FnRoom (code : List Int) (cv : Value) (w : World) (hr : RdS Rep.byte w cv code) (hu : ∀ x ∈ code, U8 x) :
  Calls Try.prog 4 #[cv] w fun e w' => e = .returned (.bool true) ∧ Ext w w' := by
 obtain ⟨co, cc, rfl, _⟩ := hr.shape
 by_cases hbig : 1048576 < code.length
 ·
  have hb1 : decide (1048576 < code.length) = true := by simpa using hbig
  have HB1 := Lib.hid hb1; clear hb1
  go_enter Try.func4, Try.ntmps4
  go_wp2_with fail
  refine (l_big code _ _ hr).mono ?_
  rintro e _ ⟨rfl, rfl⟩
  rw [HB1.out]
  go_wp2_with fail
  go_ret
  exact ⟨rfl, Ext.refl _⟩
 have hb1 : decide (1048576 < code.length) = false := by simpa using hbig
 have hl : code.length ≤ 1048576 := by omega
 have HB1 := Lib.hid hb1; clear hb1 hbig
 go_enter Try.func4, Try.ntmps4
 go_wp2_with fail
 refine (l_big code _ _ hr).mono ?_
 rintro e _ ⟨rfl, rfl⟩
 rw [HB1.out]
 go_wp2_with fail
 refine (s_DrawLeasing code _ _ (hr.ext (Ext.refl _)) hu hl).mono ?_
 rintro e w1 ⟨vl, vp, l, p, nn, rfl, hl40, hlb, hn1, hn8, hp4, hx5, rQ, rP, hz1⟩
 obtain ⟨o_l, c_l, rfl, _⟩ := rQ.shape
 obtain ⟨o_p, c_p, rfl, _⟩ := rP.shape
 have hps := pth_size hp4 hx5
 have HPL := Lib.hid (steps_len hp4 hx5)
 have HLB := Lib.hid hlb
 clear hlb hp4 hx5
 have hx1 : Ext w1 (w1.alloc (.cells #[.slice o_p p.parts.length c_p] 46)) := (Ext.refl _).alloc _
 have HB1 := Lib.hid (blk_new w1 (.cells #[.slice o_p p.parts.length c_p] 46))
 have cf1 := blk1 HB1.out
 go_wp2_with fail
 refine (i_InterfacesUsed p _ _ (rP.ext hx1) (by omega)).mono ?_
 rintro e w2 ⟨vi, rfl, OI, hz2⟩
 obtain ⟨d, hd⟩ : ∃ d, d = usedIfs (pathSteps p.parts) := ⟨_, rfl⟩
 rw [← hd] at OI
 have HD := Lib.hid hd
 clear hd
 have rI := ints_rep OI
 clear OI
 obtain ⟨o_i, c_i, rfl, hli⟩ := rI.shape
 have hcapI := rI.capLe
 try clear cf1
 have cf2 := blk1 (Ext.block hz2 HB1.out)
 go_wp2_with fail
 go_loopg [7] d.length (fun gk i wr => ∃ k : Nat, gk + k = d.length ∧ i = .int .i64 k ∧ Hid (allTo (freshAt d) k = true) ∧ Ext w2 wr)
 case atStart => exact ⟨0, by omega, rfl, Lib.hid rfl, Ext.refl _⟩
 case round =>
  obtain ⟨k, hgk, rfl, HA, hx⟩ := hrel
  have HGK := Lib.hid hgk
  clear hgk
  obtain ⟨wr1, hwq⟩ : ∃ q : World, q = wr := ⟨_, rfl⟩
  subst hwq
  by_cases hlt : k < d.length
  ·
   have hlt2 : (k : Int) < (d.length : Int) := by omega
   have hk0 : (k : Int) ≤ c_i := by omega
   obtain ⟨bi, offi, rfl, hci⟩ := ints_at (rI.ext hx) k hlt
   try clear cf2
   have cf3 := blk1 (Ext.block (hz2.trans hx) HB1.out)
   go_wp2_with fail
   refine planStep (.blk [0, 1, 2, 3, 4, 5, 6] (.one 7 .done)) [] (by kernel_rfl) (by kernel_rfl) ?_
   try clear cf3
   have cf4 := blk1 (Ext.block ((hz2.trans hx).trans ((Ext.refl _).drew)) HB1.out)
   refine blkStep (fun K HK => ?_)
   simp only [PK]
   go_wp2_with fail
   refine HK.out _ _ ?_
   clear HK K
   refine oneStep (fun K HK => ?_)
   simp only [PK]
   go_wp2_with fail
   refine (l_in (d.take k) _ d[k] _ (RdS.uptoR (rI.ext (hx.trans ((Ext.refl _).drew))) k (by omega))).mono ?_
   rintro e w3 ⟨rfl, hz3⟩
   obtain ⟨bi9, hbi⟩ : ∃ b, b = hasI (d.take k) d[k] := ⟨_, rfl⟩
   rw [← hbi]
   have HBI := Lib.hid hbi
   clear hbi
   try clear cf4
   have cf5 := blk1 (Ext.block (((hz2.trans hx).trans ((Ext.refl _).drew)).trans hz3) HB1.out)
   go_wp2_with fail
   refine HK.out _ _ hz3 ?_
   clear HK K
   refine doneStep (by kernel_rfl) ?_
   clear hci
   cases bi9
   case false =>
    have HA2 : Hid (allTo (freshAt d) (k + 1) = true) := Lib.hid (allTo_snoc HA.out (by rw [freshAt_at hlt, ← HBI.out]; rfl))
    go_wp2_with fail
    go_roundg (gk - 1)
    case measure => have h2 := HGK.out; omega
    case rel => exact ⟨k + 1, by have h2 := HGK.out; omega, congrArg (Value.int .i64) (by first | omega | (unfold wrap64; omega)), HA2, hx.trans ((((Ext.refl _).drew).trans hz3))⟩
   case true =>
    go_wp2_with fail
    go_ret
    exact ⟨rfl, (((((hz1.trans hx1).trans hz2).trans hx).trans ((Ext.refl _).drew)).trans hz3)⟩
  ·
   have hge : ¬ (k : Int) < (d.length : Int) := by omega
   have HND : Hid ((usedIfs (pathSteps p.parts)).Nodup) := Lib.hid (by
    obtain rfl : k = d.length := by have h2 := HGK.out; omega
    have h1 := nodup_allTo d.length (Nat.le_refl _) HA.out
    rw [List.take_length] at h1
    rw [← HD.out]; exact h1)
   clear HA
   try clear cf2
   have cf6 := blk1 (Ext.block (hz2.trans hx) HB1.out)
   go_wp2_with fail
   refine (i_EgressSteps p _ _ (rP.ext ((hx1.trans hz2).trans hx)) (by omega)).mono ?_
   rintro e w4 ⟨vs, rfl, OS, hz4⟩
   obtain ⟨ss, hss⟩ : ∃ ss, ss = egSteps (pathSteps p.parts) := ⟨_, rfl⟩
   rw [← hss] at OS
   have hsl : ss.length ≤ 20 := by rw [hss]; exact Nat.le_trans (egSteps_len _) HPL.out
   have HSS := Lib.hid hss
   clear hss hge hlt hcapI hli
   have rS := OwnF.rd (hf := Step.flen) OS
   clear OS
   obtain ⟨o_s, c_s, rfl, _⟩ := rS.shape
   try clear cf6
   have cf7 := blk1 (Ext.block ((hz2.trans hx).trans hz4) HB1.out)
   go_wp2_with fail
   refine (s_EgressSteps p _ _ (rP.ext (((hx1.trans hz2).trans hx).trans hz4)) (by omega)).mono ?_
   rintro e w5 ⟨vt, rfl, OT, hz5⟩
   rw [← HSS.out] at OT
   obtain ⟨o_t, c_t, rfl, _⟩ := (OwnF.rd (hf := Step.flen) OT).shape
   clear OT
   have hxx : ((ss.length : Int) != (ss.length : Int)) = false := by simp
   try clear cf7
   have cf8 := blk1 (Ext.block (((hz2.trans hx).trans hz4).trans hz5) HB1.out)
   go_wp2_with fail
   go_loopg [9] ss.length (fun gk i wr => ∃ k : Nat, gk + k = ss.length ∧ i = .int .i64 k ∧ Hid (∀ s ∈ ss.take k, 1 ≤ s.eg ∧ s.eg ≤ 6 ∧ 0 ≤ s.asn ∧ s.asn ≤ 7) ∧ Ext w5 wr)
   case atStart => exact ⟨0, by omega, rfl, Lib.hid (by simp), Ext.refl _⟩
   case round =>
    obtain ⟨k2, hgk2, rfl, HB, hy⟩ := hrel
    have HGK2 := Lib.hid hgk2
    clear hgk2
    obtain ⟨wr2, hwq⟩ : ∃ q : World, q = wr := ⟨_, rfl⟩
    subst hwq
    by_cases hlu : k2 < ss.length
    ·
     have hlu2 : (k2 : Int) < (ss.length : Int) := by omega
     obtain ⟨bs, offs, rfl, hcs⟩ := Step.at (rS.ext (hz5.trans hy)) k2 hlu
     obtain ⟨sd, hsd⟩ : ∃ sd, sd = ss[k2] := ⟨_, rfl⟩
     rw [← hsd] at hcs
     have HSD := Lib.hid hsd
     clear hsd
     by_cases h1 : 6 < sd.eg
     ·
      try clear cf8
      have cf9 := blk1 (Ext.block ((((hz2.trans hx).trans hz4).trans hz5).trans hy) HB1.out)
      go_wp2_with fail
      go_ret
      exact ⟨rfl, ((((((hz1.trans hx1).trans hz2).trans hx).trans hz4).trans hz5).trans hy)⟩
     by_cases h2 : sd.eg < 1
     ·
      try clear cf8
      have cf10 := blk1 (Ext.block ((((hz2.trans hx).trans hz4).trans hz5).trans hy) HB1.out)
      go_wp2_with fail
      go_ret
      exact ⟨rfl, ((((((hz1.trans hx1).trans hz2).trans hx).trans hz4).trans hz5).trans hy)⟩
     by_cases h3 : sd.asn < 0
     ·
      try clear cf8
      have cf11 := blk1 (Ext.block ((((hz2.trans hx).trans hz4).trans hz5).trans hy) HB1.out)
      go_wp2_with fail
      go_ret
      exact ⟨rfl, ((((((hz1.trans hx1).trans hz2).trans hx).trans hz4).trans hz5).trans hy)⟩
     by_cases h4 : 8 ≤ sd.asn
     ·
      try clear cf8
      have cf12 := blk1 (Ext.block ((((hz2.trans hx).trans hz4).trans hz5).trans hy) HB1.out)
      go_wp2_with fail
      go_ret
      exact ⟨rfl, ((((((hz1.trans hx1).trans hz2).trans hx).trans hz4).trans hz5).trans hy)⟩
     have HB2 : Hid (∀ s ∈ ss.take (k2 + 1), 1 ≤ s.eg ∧ s.eg ≤ 6 ∧ 0 ≤ s.asn ∧ s.asn ≤ 7) := Lib.hid (fun s hs => by
      rw [List.take_succ_eq_append_getElem hlu] at hs
      rcases List.mem_append.1 hs with h | h
      ·
       exact HB.out s h
      ·
       rw [List.mem_singleton.1 h, ← HSD.out]; omega)
     try clear cf8
     have cf13 := blk1 (Ext.block ((((hz2.trans hx).trans hz4).trans hz5).trans hy) HB1.out)
     go_wp2_with fail
     go_roundg (gk - 1)
     case measure => have h5 := HGK2.out; omega
     case rel => exact ⟨k2 + 1, by have h5 := HGK2.out; omega, congrArg (Value.int .i64) (by first | omega | (unfold wrap64; omega)), HB2, hy⟩
    ·
     have hge2 : ¬ (k2 : Int) < (ss.length : Int) := by omega
     have LAW := room HSS.out.symm hl40 HLB.out (rate := nn) (by omega) HND.out (by
      obtain rfl : k2 = ss.length := by have h2 := HGK2.out; omega
      have h1 := HB.out
      rw [List.take_length] at h1
      exact h1) (by omega)
     have HLAW := Lib.hid LAW
     clear LAW HB
     try clear cf8
     have cf14 := blk1 (Ext.block ((((hz2.trans hx).trans hz4).trans hz5).trans hy) HB1.out)
     go_wp2_with fail
     refine (i_ReservePath l _ 77 p _ nn 60 8 45 _ (rQ.ext (((((hx1.trans hz2).trans hx).trans hz4).trans hz5).trans hy)) (rP.ext (((((hx1.trans hz2).trans hx).trans hz4).trans hz5).trans hy)) (by omega) (by omega)).mono ?_
     rintro e w6 ⟨vr, rfl, _, hz6⟩
     obtain ⟨okb, hokb⟩ : ∃ b, b = (reservePath l 77 p nn 60 8 45).2 := ⟨_, rfl⟩
     rw [← hokb]
     have HOK := Lib.hid (hokb.trans HLAW.out)
     clear hokb hge2 hlu
     by_cases h0 : 0 < ss.length
     ·
      have h02 : (0 : Int) < (ss.length : Int) := by omega
      try clear cf14
      have cf15 := blk1 (Ext.block (((((hz2.trans hx).trans hz4).trans hz5).trans hy).trans hz6) HB1.out)
      go_wp2_with fail
      refine (i_AvailableRate l _ p _ 8 45 _ (rQ.ext ((((((hx1.trans hz2).trans hx).trans hz4).trans hz5).trans hy).trans hz6)) (rP.ext ((((((hx1.trans hz2).trans hx).trans hz4).trans hz5).trans hy).trans hz6)) (by omega)).mono ?_
      rintro e w7 ⟨rfl, hz7⟩
      obtain ⟨av, hav⟩ : ∃ b, b = availRate l p 8 45 := ⟨_, rfl⟩
      rw [← hav]
      have HAV := Lib.hid hav
      clear hav
      by_cases h1 : nn ≤ av
      ·
       by_cases h2 : l.length + ss.length ≤ 40
       ·
        obtain rfl : okb = true := by rw [HOK.out, ← HAV.out]; simp [h0, h1, h2]
        have h22 : (l.length : Int) + (ss.length : Int) ≤ 40 := by omega
        try clear cf15
        have cf16 := blk1 (Ext.block ((((((hz2.trans hx).trans hz4).trans hz5).trans hy).trans hz6).trans hz7) HB1.out)
        go_wp2_with fail
        go_ret
        exact ⟨rfl, ((((((((hz1.trans hx1).trans hz2).trans hx).trans hz4).trans hz5).trans hy).trans hz6).trans hz7)⟩
       ·
        obtain rfl : okb = false := by rw [HOK.out, ← HAV.out]; simp [h2]
        have h22 : ¬ (l.length : Int) + (ss.length : Int) ≤ 40 := by omega
        try clear cf15
        have cf17 := blk1 (Ext.block ((((((hz2.trans hx).trans hz4).trans hz5).trans hy).trans hz6).trans hz7) HB1.out)
        go_wp2_with fail
        go_ret
        exact ⟨ret_bool (by simp [h22]), ((((((((hz1.trans hx1).trans hz2).trans hx).trans hz4).trans hz5).trans hy).trans hz6).trans hz7)⟩
      ·
       obtain rfl : okb = false := by rw [HOK.out, ← HAV.out]; simp [h1]
       try clear cf15
       have cf18 := blk1 (Ext.block ((((((hz2.trans hx).trans hz4).trans hz5).trans hy).trans hz6).trans hz7) HB1.out)
       go_wp2_with fail
       go_ret
       exact ⟨rfl, ((((((((hz1.trans hx1).trans hz2).trans hx).trans hz4).trans hz5).trans hy).trans hz6).trans hz7)⟩
     ·
      obtain rfl : okb = false := by rw [HOK.out]; simp [h0]
      have h02 : ¬ (0 : Int) < (ss.length : Int) := by omega
      try clear cf14
      have cf19 := blk1 (Ext.block (((((hz2.trans hx).trans hz4).trans hz5).trans hy).trans hz6) HB1.out)
      go_wp2_with fail
      go_ret
      exact ⟨rfl, (((((((hz1.trans hx1).trans hz2).trans hx).trans hz4).trans hz5).trans hy).trans hz6)⟩

end Go.Proofs.Ytpijlnfjdajeeaa
