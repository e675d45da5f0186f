/- What these laws need: FnForwards, FnHopsPassed, FnReplies: Slices of uint8: how they read, and the contracts of the laws' helper functions over them. The data of packets, how they read, what they own, and the contracts of the laws' helper functions over them. Contracts of copying hops, parts and paths, program and reference. Plain facts on the encoding of numbers: no program. The data of traces, how they read, what they own, and the contracts of the laws' helper functions over them. Contracts of the functions that encode numbers, program and reference. Ownership of a topology and its marks. -/
import Derived.Laws.BitsAllLaws
import Derived.Laws.BitsLemmas
import Derived.Test.YtikbeiafobnblaaGreatKR4
namespace Go.Proofs.YtikbeiafobnblaaGreat
section
open Go.ChangeShapes Go.WideShapes Go.ChangeAt Go.RowKit Go.Deep
theorem byteOne (n : Int) : ∀ u ∈ byteF n, u.oneCell' = true := by
  intro u hu
  simp only [byteF, List.mem_cons, List.not_mem_nil, or_false] at hu
  rw [hu]; rfl
theorem Tryz.infoByte : (Tryz.prog.info? 5).map (fun i => (i.zero, i.size, i.bytes)) = some (some (.int .u8 0), 1, 1) := by kernel_rfl
theorem elemByte : Nonempty (Elem Tryz.prog 22 5 1 1) := Elem.mk' Tryz.underlying22 Tryz.infoByte rfl (by decide)
end
section
open Go.ChangeShapes Go.WideShapes Go.ChangeAt Go.RowKit Go.Deep
theorem blk10 {w : World} {b : Nat} {x0 x1 x2 x3 x4 x5 x6 x7 x8 x9 : Value} {t : TypeId} {f : Nat × Nat} (h : w.heap[b]? = some (.cells #[x0, x1, x2, x3, x4, x5, x6, x7, x8, x9] t f)) :
    w.cell? ⟨b, 0, none⟩ = some x0 ∧ w.cell? ⟨b, 1, none⟩ = some x1 ∧ w.cell? ⟨b, 2, none⟩ = some x2 ∧ w.cell? ⟨b, 3, none⟩ = some x3 ∧ w.cell? ⟨b, 4, none⟩ = some x4 ∧ w.cell? ⟨b, 5, none⟩ = some x5 ∧ w.cell? ⟨b, 6, none⟩ = some x6 ∧ w.cell? ⟨b, 7, none⟩ = some x7 ∧ w.cell? ⟨b, 8, none⟩ = some x8 ∧ w.cell? ⟨b, 9, none⟩ = some x9 :=
  ⟨blk_cell h 0, blk_cell h 1, blk_cell h 2, blk_cell h 3, blk_cell h 4, blk_cell h 5, blk_cell h 6, blk_cell h 7, blk_cell h 8, blk_cell h 9⟩
theorem Pkt.own_kept {S T : Nat → Prop} {w w' : World} {h0 h1 : Value} {x : Pkt} (h : Pkt.own S w h0 h1 x) (c : Chg T w w') (hs : ∀ b, S b → ¬ T b) : Pkt.own S w' h0 h1 x := by
  obtain ⟨S0, S1, a, b, c0, c1, d⟩ := h
  exact ⟨S0, S1, Part.own.kept a c (fun k hk => hs k (c0 k hk)), byteOwn.kept b c (fun k hk => hs k (c1 k hk)), c0, c1, d⟩
theorem Pkt.own_ext {S : Nat → Prop} {w w' : World} {h0 h1 : Value} {x : Pkt} (h : Pkt.own S w h0 h1 x) (e : Ext w w') : Pkt.own S w' h0 h1 x :=
  Pkt.own_kept h (Chg.ofExt (S := noB) e) (fun _ _ h => h)
theorem Pkt.own_mono {S T : Nat → Prop} {w : World} {h0 h1 : Value} {x : Pkt} (h : Pkt.own S w h0 h1 x) (hs : ∀ b, S b → T b) : Pkt.own T w h0 h1 x := by
  obtain ⟨S0, S1, a, b, c0, c1, d⟩ := h
  exact ⟨S0, S1, a, b, fun k hk => hs k (c0 k hk), fun k hk => hs k (c1 k hk), d⟩
theorem Pkt.own_rd0 {S : Nat → Prop} {w : World} {h0 h1 : Value} {x : Pkt} (h : Pkt.own S w h0 h1 x) : RdS Part.rep w h0 x.path.parts := by
  obtain ⟨S0, S1, a, _⟩ := h; exact Part.own.rd a
theorem Pkt.own_rd1 {S : Nat → Prop} {w : World} {h0 h1 : Value} {x : Pkt} (h : Pkt.own S w h0 h1 x) : RdS Rep.byte w h1 x.pay := by
  obtain ⟨S0, S1, _, b, _⟩ := h; exact byteOwn.rd b
end
section
open Go.ChangeShapes Go.WideShapes Go.ChangeAt Go.RowKit Go.Deep
theorem elemPartC : Nonempty (Elem Tryz.prog 24 47 4 48) := Elem.mk' Tryz.underlying24 Tryz.infoPart rfl (by decide)
theorem take_snocE {α : Type} {l : List α} {k : Nat} (hk : k < l.length) : l.take k ++ [l[k]] = l.take (k + 1) := (List.take_succ_eq_append_getElem hk).symm
set_option maxHeartbeats 400000 in
theorem i_copyHops (l : List Hop) (v : Value) (w : World) (hv : RdS Hop.rep w v l) (hl : l.length ≤ 1048576) :
  Calls Tryz.prog 236 #[v] w fun e w' => ∃ v', e = .returned v' ∧ OwnF Hop.f 5 w.heap.size 44 w' v' l ∧ Ext w w' := by
 obtain ⟨E⟩ := elemHop
 go_enter Tryz.func236, Tryz.ntmps236
 go_wp2_with (at_builtin; refine appS E Hop.flen Hop.one rfl _ _ rfl l rfl (OwnF.empty Hop.f 5 w.heap.size _ w (Nat.le_refl _)) rfl (hv.ext ((Ext.refl _).alloc _)) (by first | omega | (simp; omega)) (by first | (unfold maxLen; omega) | (simp [maxLen]; omega)) (by simp) ?_)
 intro v' w' ho' hg'
 have hx' : Ext w w' := ((Ext.refl w).alloc _).app hg' (OwnF.empty Hop.f 5 w.heap.size 44 w (Nat.le_refl _)) (Nat.le_refl _)
 try rw [List.nil_append] at ho'
 clear hg'
 go_wp2
 go_ret
 exact ⟨_, rfl, ho', hx'⟩
set_option maxRecDepth 100000 in
set_option maxHeartbeats 4000000 in
theorem i_copyPath (x : Pth) (v : Value) (w : World) (r : RdS Part.rep w v x.parts) (hl : x.size ≤ 1048576) :
  Calls Tryz.prog 162 #[.agg #[v]] w fun e w' => ∃ u, e = .returned (.agg #[u]) ∧ Part.own.own (rng w.heap.size w'.heap.size) w' u x.parts ∧ Ext w w' := by
 obtain ⟨ps⟩ := x
 unfold Pth.size at hl
 dsimp only at r hl ⊢
 obtain ⟨o, cap, rfl, hsm⟩ := r.shape
 obtain ⟨E⟩ := elemPartC
 have hx0 := ext2 w (.cells #[.slice o ps.length cap] 26) (.cells #[.slice none 0 0] 26)
 have hB := al3 w (.cells #[.slice o ps.length cap] 26) (.cells #[.slice none 0 0] 26) (.cells #[.slice none 0 0] 26)
 have HB := Lib.hid hB; clear hB
 have HB2 := Lib.hid (al2 w (.cells #[.slice o ps.length cap] 26) (.cells #[.slice none 0 0] 26))
 go_enter Tryz.func162, Tryz.ntmps162
 go_wp2
 go_loopg [9] ps.length (fun gk i wr => ∃ k : Nat, gk + k = ps.length ∧ i = .int .i64 k ∧ (∃ ok ck, Hid (wr.heap[w.heap.size + 1 + 1]? = some (.cells #[.slice ok k ck] 26)) ∧ Part.own.own (rng (w.heap.size + 1 + 1 + 1) wr.heap.size) wr (.slice ok k ck) (ps.take k)) ∧ w.heap.size + 1 + 1 + 1 ≤ wr.heap.size ∧ Ext ((w.alloc (.cells #[.slice o ps.length cap] 26)).alloc (.cells #[.slice none 0 0] 26)) wr)
 case atStart =>
  refine ⟨0, rfl, rfl, ⟨none, 0, Lib.hid HB.out.2.2, ?_⟩, by simp, (Ext.refl _).alloc _⟩
  exact Part.own.mono (Part.own.nil _) (fun b hb => hb.elim)
 case round =>
  obtain ⟨k, hgk, rfl, ⟨ok, ck, HBk, hown⟩, hsw, hx⟩ := hrel
  have hcb := blk1 (hx.block HB2.out.1)
  have hc3 := blk1 HBk.out
  by_cases hlt : k < ps.length
  ·
   obtain ⟨b, off, oh, ch, rfl, hc, hr⟩ := Part.at r k hlt
   have hcx := Part.at_ext (hx0.trans hx) hc
   have hrj := hr.ext (hx0.trans hx)
   clear hc
   have hle := hopsN_le hlt
   have hg' : gk - 1 + (k + 1) = ps.length ∧ gk - 1 < gk := by omega
   have HG := Lib.hid hg'; clear hg' hgk
   have htl : (ps.take k).length = k := by simp; omega
   have hln : (ps.take k).length + 1 ≤ 1048577 := by omega
   have HE := Lib.hid (take_snocE hlt)
   generalize ps.take k = out at *
   have hxa : Ext wr (wr.alloc (.cells #[.int .i64 ps[k].kind, .int .i64 ps[k].ts, .int .i64 ps[k].beta, .slice oh ps[k].hops.length ch] 47)) := (Ext.refl _).alloc _
   have HX := Lib.hid (blk_new wr (.cells #[.int .i64 ps[k].kind, .int .i64 ps[k].ts, .int .i64 ps[k].beta, .slice oh ps[k].hops.length ch] 47))
   go_wp2_with fail
   refine (i_copyHops ps[k].hops _ _ (hrj.ext hxa) (by omega)).mono ?_
   rintro e w1 ⟨u, rfl, ou, h1⟩
   obtain ⟨oo, co, rfl, _⟩ := (OwnF.rd (hf := Hop.flen) ou).shape
   have hbx := h1.block HX.out
   have hck := blk1 (Ext.block (hxa.trans h1) HBk.out)
   have hcX := blk4 hbx
   have fX := fr_of hbx 3
   have hs1 : wr.heap.size < w1.heap.size := blk_lt hbx
   have ous := ou.set (p := ⟨wr.heap.size, 3, none⟩) (by simp) (.slice oo ps[k].hops.length co)
   have hxs : Ext wr (w1.setCell ⟨wr.heap.size, 3, none⟩ (.slice oo ps[k].hops.length co)) := (hxa.trans h1).setCell (by simp) _
   have hbk := Ext.block (hxs.alloc (.cells #[.int .i64 ps[k].kind, .int .i64 ps[k].ts, .int .i64 ps[k].beta, .slice oo ps[k].hops.length co] 47)) HBk.out
   have HBK := Lib.hid hbk; clear hbk hbx ou
   have hnew := blk_new (w1.setCell ⟨wr.heap.size, 3, none⟩ (.slice oo ps[k].hops.length co)) (.cells #[.int .i64 ps[k].kind, .int .i64 ps[k].ts, .int .i64 ps[k].beta, .slice oo ps[k].hops.length co] 47)
   rw [show (w1.setCell ⟨wr.heap.size, 3, none⟩ (.slice oo ps[k].hops.length co)).heap.size = w1.heap.size from by simp] at hnew
   have HNEW := Lib.hid hnew; clear hnew
   go_wp2_with (at_builtin; refine appN (lo := w.heap.size + 1 + 1 + 1) (w0 := wr) (c := Part.c) (hc := Part.clen) (sub := (·.hops)) (I := Own.flat Hop.f 5 Hop.flen 44) E rfl _ _ rfl ps[k] (.slice oo ps[k].hops.length co) (rng (wr.heap.size + 1) w1.heap.size) (part_oneC _ _ _ _) rfl hown (hxs.alloc _) (Own.ext (O := Own.flat Hop.f 5 Hop.flen 44) (Own.mono _ (Own.ofF (hf := Hop.flen) ous) (fun q hq => ⟨by have := hq.1; simpa using this, by have := hq.2; simpa using this⟩)) ((Ext.refl _).alloc _)) (fun q hq => ⟨by have := hq.1; omega, by have := hq.2; simp; omega⟩) hsw rfl (by exact blk_list (Part.c ps[k] (.slice oo ps[k].hops.length co)) HNEW.out) (by omega) (by unfold maxLen; omega) ?_)
   intro v' w' ho' hg' hvlo
   have hx' := ((hx.trans hxs).alloc _).grown hg' (fun q hq => Nat.le_trans (by simp) (hvlo q hq))
   have hb3' := (hg'.block (w.heap.size + 1 + 1) (blk_lt HBK.out) (fun e => by have := hvlo _ e.symm; omega)).trans HBK.out
   rw [HE.out] at ho'
   obtain ⟨on, cn, hve, _⟩ := (Part.ord ho').shape
   rw [show (ps.take (k + 1)).length = k + 1 from by simp; omega] at hve
   subst hve
   have c3' := blk1 hb3'
   have f3' := fr_of hb3' 0
   have hb4 := blk_set hb3' 0 (.slice on (k + 1) cn)
   simp only [List.setIfInBounds_toArray, List.set_cons_zero] at hb4
   have HB4 := Lib.hid hb4; clear hb4 hb3'
   have hx4 := hx'.setCell (p := ⟨w.heap.size + 1 + 1, 0, none⟩) (by simp) (.slice on (k + 1) cn)
   have HO4 := Lib.hid (Own.kept Part.own ho' (⟨rfl, rfl, rfl, by simp [World.setCell], fun q hq hn => Below.heap_setCell _ _ _ _ hn⟩ : Chg (fun q => q = w.heap.size + 1 + 1) w' (w'.setCell ⟨w.heap.size + 1 + 1, 0, none⟩ (.slice on (k + 1) cn))) (fun q hq e => by have := hq.1; omega))
   have hsw' : w.heap.size + 1 + 1 + 1 ≤ w'.heap.size := Nat.le_trans hsw (Nat.le_trans (hxs.alloc _ : Ext wr _).size hg'.size)
   clear hg' ho' hvlo
   go_wp2_with fail
   go_roundg (gk - 1)
   case measure => exact HG.out.2
   case rel => exact ⟨k + 1, HG.out.1, by go_num, ⟨on, cn, HB4, by simpa using HO4.out⟩, by simpa using hsw', hx4⟩
  ·
   rw [List.take_of_length_le (by omega)] at hown
   have hcr := blk1 (hx.block HB2.out.2)
   have g0 := fr_of (hx.block HB2.out.2) 0
   go_wp2
   refine bodyPost_ret (v := .agg #[.slice ok k ck]) (by simp [results, Tryz.results162, go_sem, hcr]) rfl ⟨_, rfl, ?_, ?_⟩
   ·
    refine Part.own.mono (Own.kept Part.own hown (⟨rfl, rfl, rfl, by simp [World.setCell], fun q hq hn => Below.heap_setCell _ _ _ _ hn⟩ : Chg (fun q => q = w.heap.size + 1) wr (wr.setCell ⟨w.heap.size + 1, 0, none⟩ (.slice ok k ck))) (fun q hq e => by have := hq.1; omega)) (fun q hq => ⟨by have := hq.1; omega, by simpa using hq.2⟩)
   ·
    exact (hx0.trans hx).setCell (by simp) _
set_option maxRecDepth 100000 in
set_option maxHeartbeats 4000000 in
theorem s_l22Copy (x : Pth) (v : Value) (w : World) (r : RdS Part.rep w v x.parts) (hl : x.size ≤ 1048576) :
  Calls Tryz.prog 173 #[.agg #[v]] w fun e w' => ∃ u, e = .returned (.agg #[u]) ∧ Part.own.own (rng w.heap.size w'.heap.size) w' u x.parts ∧ Ext w w' := by
 obtain ⟨ps⟩ := x
 unfold Pth.size at hl
 dsimp only at r hl ⊢
 obtain ⟨o, cap, rfl, hsm⟩ := r.shape
 obtain ⟨E⟩ := elemPartC
 have hx0 := ext2 w (.cells #[.slice o ps.length cap] 26) (.cells #[.slice none 0 0] 26)
 have hB := al3 w (.cells #[.slice o ps.length cap] 26) (.cells #[.slice none 0 0] 26) (.cells #[.slice none 0 0] 26)
 have HB := Lib.hid hB; clear hB
 have HB2 := Lib.hid (al2 w (.cells #[.slice o ps.length cap] 26) (.cells #[.slice none 0 0] 26))
 go_enter Tryz.func173, Tryz.ntmps173
 go_wp2
 go_loopg [4] ps.length (fun gk i wr => ∃ k : Nat, gk + k = ps.length ∧ i = .int .i64 k ∧ (∃ ok ck, Hid (wr.heap[w.heap.size + 1 + 1]? = some (.cells #[.slice ok k ck] 26)) ∧ Part.own.own (rng (w.heap.size + 1 + 1 + 1) wr.heap.size) wr (.slice ok k ck) (ps.take k)) ∧ w.heap.size + 1 + 1 + 1 ≤ wr.heap.size ∧ Ext ((w.alloc (.cells #[.slice o ps.length cap] 26)).alloc (.cells #[.slice none 0 0] 26)) wr)
 case atStart =>
  refine ⟨0, rfl, rfl, ⟨none, 0, Lib.hid HB.out.2.2, ?_⟩, by simp, (Ext.refl _).alloc _⟩
  exact Part.own.mono (Part.own.nil _) (fun b hb => hb.elim)
 case round =>
  obtain ⟨k, hgk, rfl, ⟨ok, ck, HBk, hown⟩, hsw, hx⟩ := hrel
  have hcb := blk1 (hx.block HB2.out.1)
  have hc3 := blk1 HBk.out
  by_cases hlt : k < ps.length
  ·
   obtain ⟨b, off, oh, ch, rfl, hc, hr⟩ := Part.at r k hlt
   have hcx := Part.at_ext (hx0.trans hx) hc
   have hrj := hr.ext (hx0.trans hx)
   clear hc
   have hle := hopsN_le hlt
   have hg' : gk - 1 + (k + 1) = ps.length ∧ gk - 1 < gk := by omega
   have HG := Lib.hid hg'; clear hg' hgk
   have htl : (ps.take k).length = k := by simp; omega
   have hln : (ps.take k).length + 1 ≤ 1048577 := by omega
   have HE := Lib.hid (take_snocE hlt)
   generalize ps.take k = out at *
   go_wp2_with fail
   refine (s_l21Copy ps[k] _ _ hrj (by omega)).mono ?_
   rintro e w1 ⟨u, rfl, ou, h1⟩
   obtain ⟨oo, co, rfl, _⟩ := (OwnF.rd (hf := Hop.flen) ou).shape
   have hbb := al2 w1 (.cells #[.int .i64 ps[k].kind, .int .i64 ps[k].ts, .int .i64 ps[k].beta, .slice oo ps[k].hops.length co] 47) (.cells #[.int .i64 ps[k].kind, .int .i64 ps[k].ts, .int .i64 ps[k].beta, .slice oo ps[k].hops.length co] 47)
   have HBB := Lib.hid hbb; clear hbb
   have hck := blk1 (Ext.block h1 HBk.out)
   have hck2 := blk1 (Ext.block (h1.alloc (.cells #[.int .i64 ps[k].kind, .int .i64 ps[k].ts, .int .i64 ps[k].beta, .slice oo ps[k].hops.length co] 47)) HBk.out)
   have hxs : Ext wr (w1.alloc (.cells #[.int .i64 ps[k].kind, .int .i64 ps[k].ts, .int .i64 ps[k].beta, .slice oo ps[k].hops.length co] 47)) := h1.alloc _
   have hbk := Ext.block (hxs.alloc (.cells #[.int .i64 ps[k].kind, .int .i64 ps[k].ts, .int .i64 ps[k].beta, .slice oo ps[k].hops.length co] 47)) HBk.out
   have HBK := Lib.hid hbk; clear hbk
   have ous := Own.mono _ (Own.ofF (hf := Hop.flen) ou) (T := rng wr.heap.size w1.heap.size) (fun q hq => ⟨by have := hq.1; omega, hq.2⟩)
   go_wp2_with (at_builtin; refine appN (lo := w.heap.size + 1 + 1 + 1) (w0 := wr) (c := Part.c) (hc := Part.clen) (sub := (·.hops)) (I := Own.flat Hop.f 5 Hop.flen 44) E rfl _ _ rfl ps[k] (.slice oo ps[k].hops.length co) (rng wr.heap.size w1.heap.size) (part_oneC _ _ _ _) rfl hown (hxs.alloc _) (Own.ext (O := Own.flat Hop.f 5 Hop.flen 44) ous (((Ext.refl _).alloc _).alloc _)) (fun q hq => ⟨hq.1, by have := hq.2; simp; omega⟩) hsw rfl (by exact blk_list (Part.c ps[k] (.slice oo ps[k].hops.length co)) (blk_new2 w1 _ _)) (by omega) (by unfold maxLen; omega) ?_)
   intro v' w' ho' hg' hvlo
   have hx' := ((hx.trans hxs).alloc _).grown hg' (fun q hq => Nat.le_trans (by simp) (hvlo q hq))
   have hb3' := (hg'.block (w.heap.size + 1 + 1) (blk_lt HBK.out) (fun e => by have := hvlo _ e.symm; omega)).trans HBK.out
   rw [HE.out] at ho'
   obtain ⟨on, cn, hve, _⟩ := (Part.ord ho').shape
   rw [show (ps.take (k + 1)).length = k + 1 from by simp; omega] at hve
   subst hve
   have c3' := blk1 hb3'
   have f3' := fr_of hb3' 0
   have hb4 := blk_set hb3' 0 (.slice on (k + 1) cn)
   simp only [List.setIfInBounds_toArray, List.set_cons_zero] at hb4
   have HB4 := Lib.hid hb4; clear hb4 hb3'
   have hx4 := hx'.setCell (p := ⟨w.heap.size + 1 + 1, 0, none⟩) (by simp) (.slice on (k + 1) cn)
   have HO4 := Lib.hid (Own.kept Part.own ho' (⟨rfl, rfl, rfl, by simp [World.setCell], fun q hq hn => Below.heap_setCell _ _ _ _ hn⟩ : Chg (fun q => q = w.heap.size + 1 + 1) w' (w'.setCell ⟨w.heap.size + 1 + 1, 0, none⟩ (.slice on (k + 1) cn))) (fun q hq e => by have := hq.1; omega))
   have hsw' : w.heap.size + 1 + 1 + 1 ≤ w'.heap.size := Nat.le_trans hsw (Nat.le_trans (hxs.alloc _ : Ext wr _).size hg'.size)
   clear hg' ho' hvlo
   go_wp2_with fail
   go_roundg (gk - 1)
   case measure => exact HG.out.2
   case rel => exact ⟨k + 1, HG.out.1, by go_num, ⟨on, cn, HB4, by simpa using HO4.out⟩, by simpa using hsw', hx4⟩
  ·
   rw [List.take_of_length_le (by omega)] at hown
   have hcr := blk1 (hx.block HB2.out.2)
   have g0 := fr_of (hx.block HB2.out.2) 0
   go_wp2
   refine bodyPost_ret (v := .agg #[.slice ok k ck]) (by simp [results, Tryz.results173, go_sem, hcr]) rfl ⟨_, rfl, ?_, ?_⟩
   ·
    refine Part.own.mono (Own.kept Part.own hown (⟨rfl, rfl, rfl, by simp [World.setCell], fun q hq hn => Below.heap_setCell _ _ _ _ hn⟩ : Chg (fun q => q = w.heap.size + 1) wr (wr.setCell ⟨w.heap.size + 1, 0, none⟩ (.slice ok k ck))) (fun q hq e => by have := hq.1; omega)) (fun q hq => ⟨by have := hq.1; omega, by simpa using hq.2⟩)
   ·
    exact (hx0.trans hx).setCell (by simp) _
end
section
theorem ofInt_nat (a : Nat) (ha : a < 9223372036854775808) : (BitVec.ofInt 64 (a : Int)).toNat = a := by
  rw [BitVec.ofInt_natCast, BitVec.toNat_ofNat]; exact Nat.mod_eq_of_lt (by omega)
theorem and_nat (a b : Nat) (ha : a < 9223372036854775808) (hb : b < 9223372036854775808) : bits .and .i64 (a : Int) (b : Int) = ((a &&& b : Nat) : Int) := by
  have hx : a &&& b < 2 ^ 63 := Nat.and_lt_two_pow _ (by omega)
  show IntKind.i64.wrap ((BitVec.ofInt 64 (a : Int) &&& BitVec.ofInt 64 (b : Int)).toNat : Int) = _
  rw [BitVec.toNat_and, ofInt_nat a ha, ofInt_nat b hb, IntKind.wrap_i64]
  omega
end
section
open Go.ChangeShapes Go.WideShapes Go.ChangeAt Go.RowKit Go.Deep
theorem blk12 {w : World} {b : Nat} {x0 x1 x2 x3 x4 x5 x6 x7 x8 x9 x10 x11 : Value} {t : TypeId} {f : Nat × Nat} (h : w.heap[b]? = some (.cells #[x0, x1, x2, x3, x4, x5, x6, x7, x8, x9, x10, x11] t f)) :
    w.cell? ⟨b, 0, none⟩ = some x0 ∧ w.cell? ⟨b, 1, none⟩ = some x1 ∧ w.cell? ⟨b, 2, none⟩ = some x2 ∧ w.cell? ⟨b, 3, none⟩ = some x3 ∧ w.cell? ⟨b, 4, none⟩ = some x4 ∧ w.cell? ⟨b, 5, none⟩ = some x5 ∧ w.cell? ⟨b, 6, none⟩ = some x6 ∧ w.cell? ⟨b, 7, none⟩ = some x7 ∧ w.cell? ⟨b, 8, none⟩ = some x8 ∧ w.cell? ⟨b, 9, none⟩ = some x9 ∧ w.cell? ⟨b, 10, none⟩ = some x10 ∧ w.cell? ⟨b, 11, none⟩ = some x11 :=
  ⟨blk_cell h 0, blk_cell h 1, blk_cell h 2, blk_cell h 3, blk_cell h 4, blk_cell h 5, blk_cell h 6, blk_cell h 7, blk_cell h 8, blk_cell h 9, blk_cell h 10, blk_cell h 11⟩
theorem Trc.own_kept {S T : Nat → Prop} {w w' : World} {h0 h1 h2 : Value} {x : Trc} (h : Trc.own S w h0 h1 h2 x) (c : Chg T w w') (hs : ∀ b, S b → ¬ T b) : Trc.own S w' h0 h1 h2 x := by
  obtain ⟨S0, S1, a, b, c0, c1, d⟩ := h
  exact ⟨S0, S1, stepOwn.kept a c (fun k hk => hs k (c0 k hk)), Pkt.own_kept b c (fun k hk => hs k (c1 k hk)), c0, c1, d⟩
theorem Trc.own_ext {S : Nat → Prop} {w w' : World} {h0 h1 h2 : Value} {x : Trc} (h : Trc.own S w h0 h1 h2 x) (e : Ext w w') : Trc.own S w' h0 h1 h2 x :=
  Trc.own_kept h (Chg.ofExt (S := noB) e) (fun _ _ h => h)
theorem Trc.own_mono {S T : Nat → Prop} {w : World} {h0 h1 h2 : Value} {x : Trc} (h : Trc.own S w h0 h1 h2 x) (hs : ∀ b, S b → T b) : Trc.own T w h0 h1 h2 x := by
  obtain ⟨S0, S1, a, b, c0, c1, d⟩ := h
  exact ⟨S0, S1, a, b, fun k hk => hs k (c0 k hk), fun k hk => hs k (c1 k hk), d⟩
theorem Trc.own_rd0 {S : Nat → Prop} {w : World} {h0 h1 h2 : Value} {x : Trc} (h : Trc.own S w h0 h1 h2 x) : RdS Step.rep w h0 x.steps := by
  obtain ⟨S0, S1, a, _⟩ := h; exact stepOwn.rd a
theorem Trc.own_rd1 {S : Nat → Prop} {w : World} {h0 h1 h2 : Value} {x : Trc} (h : Trc.own S w h0 h1 h2 x) : RdS Part.rep w h1 x.pkt.path.parts := by
  obtain ⟨S0, S1, _, b, _⟩ := h; exact Pkt.own_rd0 b
end
section
open Go.ChangeShapes Go.WideShapes Go.ChangeAt Go.RowKit Go.Deep
set_option maxHeartbeats 400000 in
theorem i_copyBytes (l : List Int) (v : Value) (w : World) (hv : RdS Rep.byte w v l) (hl : l.length ≤ 1099511627776) :
  Calls Tryz.prog 163 #[v] w fun e w' => ∃ v', e = .returned v' ∧ OwnF byteF 1 w.heap.size 5 w' v' l ∧ Ext w w' := by
 obtain ⟨E⟩ := elemByte
 go_enter Tryz.func163, Tryz.ntmps163
 go_wp2_with (at_builtin; refine appS E byteFlen byteOne rfl _ _ rfl l rfl (OwnF.empty byteF 1 w.heap.size _ w (Nat.le_refl _)) rfl (hv.ext ((Ext.refl _).alloc _)) (by simp; omega) (by simp [maxLen]; omega) (by simp) ?_)
 intro v' w' ho' hg'
 have hx' : Ext w w' := ((Ext.refl w).alloc _).app hg' (OwnF.empty byteF 1 w.heap.size 5 w (Nat.le_refl _)) (Nat.le_refl _)
 try rw [List.nil_append] at ho'
 clear hg'
 go_wp2
 go_ret
 exact ⟨_, rfl, ho', hx'⟩
end
section
open Go.ChangeShapes Go.WideShapes Go.ChangeAt Go.RowKit Go.Deep
def ASd.mk' (k : Int) : ASd := ⟨k, decide ((k + 1) % 3 = 0), k + 1 + 1⟩
def asOwn : Own ASd := Own.flat ASd.f 3 ASd.flen 155
def lnkOwn : Own Lnk := Own.flat Lnk.f 5 Lnk.flen 191
/-- What a topology's two handles own: two sets that share no block. -/
def Topo.own (S : Nat → Prop) (w : World) (h0 h1 : Value) (x : Topo) : Prop :=
  ∃ S0 S1 : Nat → Prop, asOwn.own S0 w h0 x.ases ∧ lnkOwn.own S1 w h1 x.links ∧ (∀ b, S0 b → S b) ∧ (∀ b, S1 b → S b) ∧ ∀ b, S0 b → ¬ S1 b
theorem Topo.own_kept {S T : Nat → Prop} {w w' : World} {h0 h1 : Value} {x : Topo} (h : Topo.own S w h0 h1 x) (c : Chg T w w') (hs : ∀ b, S b → ¬ T b) : Topo.own S w' h0 h1 x := by
  obtain ⟨S0, S1, a, b, c0, c1, d⟩ := h
  exact ⟨S0, S1, asOwn.kept a c (fun k hk => hs k (c0 k hk)), lnkOwn.kept b c (fun k hk => hs k (c1 k hk)), c0, c1, d⟩
theorem Topo.own_ext {S : Nat → Prop} {w w' : World} {h0 h1 : Value} {x : Topo} (h : Topo.own S w h0 h1 x) (e : Ext w w') : Topo.own S w' h0 h1 x :=
  Topo.own_kept h (Chg.ofExt (S := noB) e) (fun _ _ h => h)
theorem Topo.own_mono {S T : Nat → Prop} {w : World} {h0 h1 : Value} {x : Topo} (h : Topo.own S w h0 h1 x) (hs : ∀ b, S b → T b) : Topo.own T w h0 h1 x := by
  obtain ⟨S0, S1, a, b, c0, c1, d⟩ := h
  exact ⟨S0, S1, a, b, fun k hk => hs k (c0 k hk), fun k hk => hs k (c1 k hk), d⟩
theorem Topo.own_rd0 {S : Nat → Prop} {w : World} {h0 h1 : Value} {x : Topo} (h : Topo.own S w h0 h1 x) : RdS ASd.rep w h0 x.ases := by
  obtain ⟨S0, S1, a, _⟩ := h; exact asOwn.rd a
theorem Topo.own_rd1 {S : Nat → Prop} {w : World} {h0 h1 : Value} {x : Topo} (h : Topo.own S w h0 h1 x) : RdS Lnk.rep w h1 x.links := by
  obtain ⟨S0, S1, _, b, _⟩ := h; exact lnkOwn.rd b
end
end Go.Proofs.YtikbeiafobnblaaGreat
