/- What these laws need: FnNotes: Contracts of copying hops, parts and paths, program and reference. Slices of paths: how they read, what they own, and the contracts of the laws' helper functions over them. Appending to rows whose elements hold slices, where the row owns any set of blocks: one element, and a whole row. Plain facts on the encoding of numbers: no program. Contracts of the functions that encode numbers, program and reference. Contracts of the encoding of revocations, program and reference. Reading numbers out of bytes, as plain functions. Appending to an empty literal row makes new memory or nothing. -/
import Derived.Laws.BitsAllLaws
import Derived.Laws.BitsLemmas
import Derived.ArgAppend
import Derived.Test.YtcpfmhgfaliemaaGreatKM4
namespace Go.Proofs.YtcpfmhgfaliemaaGreat
section
open Go.ChangeShapes Go.WideShapes Go.ChangeAt Go.RowKit Go.Deep
theorem elemPartC : Nonempty (Elem Tryz.prog 33 74 4 48) := Elem.mk' Tryz.underlying33 Tryz.infoPart rfl (by decide)
theorem part_oneC (x : Part) (o : Option Addr) (n c : Nat) : ∀ u ∈ Part.c x (.slice o n c), u.oneCell' = true := by
 intro u hu; simp only [Part.c, List.mem_cons, List.not_mem_nil, or_false] at hu
 rcases hu with rfl | rfl | rfl | rfl <;> rfl
theorem take_snocE {α : Type} {l : List α} {k : Nat} (hk : k < l.length) : l.take k ++ [l[k]] = l.take (k + 1) := (List.take_succ_eq_append_getElem hk).symm
set_option maxHeartbeats 400000 in
theorem i_copyHops (l : List Hop) (v : Value) (w : World) (hv : RdS Hop.rep w v l) (hl : l.length ≤ 1048576) :
  Calls Tryz.prog 165 #[v] w fun e w' => ∃ v', e = .returned v' ∧ OwnF Hop.f 5 w.heap.size 71 w' v' l ∧ Ext w w' := by
 obtain ⟨E⟩ := elemHop
 go_enter Tryz.func165, Tryz.ntmps165
 go_wp2_with (at_builtin; refine appS E Hop.flen Hop.one rfl _ _ rfl l rfl (OwnF.empty Hop.f 5 w.heap.size _ w (Nat.le_refl _)) rfl (hv.ext ((Ext.refl _).alloc _)) (by first | omega | (simp; omega)) (by first | (unfold maxLen; omega) | (simp [maxLen]; omega)) (by simp) ?_)
 intro v' w' ho' hg'; have hx' : Ext w w' := ((Ext.refl w).alloc _).app hg' (OwnF.empty Hop.f 5 w.heap.size 71 w (Nat.le_refl _)) (Nat.le_refl _)
 try rw [List.nil_append] at ho'
 clear hg'
 go_wp2
 go_ret
 exact ⟨_, rfl, ho', hx'⟩
set_option maxRecDepth 100000 in
set_option maxHeartbeats 2000000 in
theorem s_l21Copy (x : Part) (v : Value) (w : World) (r : RdS Hop.rep w v x.hops) (hl : x.hops.length ≤ 1048576) :
  Calls Tryz.prog 173 #[.agg #[.int .i64 x.kind, .int .i64 x.ts, .int .i64 x.beta, v]] w fun e w' => ∃ u, e = .returned (.agg #[.int .i64 x.kind, .int .i64 x.ts, .int .i64 x.beta, u]) ∧ OwnF Hop.f 5 (w.heap.size + 3) 71 w' u x.hops ∧ Ext w w' := by
 obtain ⟨E⟩ := elemHop; obtain ⟨o, cap, rfl, hsm⟩ := r.shape
 have hx0 := (ext3 w (.cells #[.int .i64 x.kind, .int .i64 x.ts, .int .i64 x.beta, .slice o x.hops.length cap] 74) (.cells #[.int .i64 0, .int .i64 0, .int .i64 0, .slice none 0 0] 74) (.cells #[.int .i64 x.kind, .int .i64 x.ts, .int .i64 x.beta, .slice o x.hops.length cap] 74))
 have hB := al3 w (.cells #[.int .i64 x.kind, .int .i64 x.ts, .int .i64 x.beta, .slice o x.hops.length cap] 74) (.cells #[.int .i64 0, .int .i64 0, .int .i64 0, .slice none 0 0] 74) (.cells #[.int .i64 x.kind, .int .i64 x.ts, .int .i64 x.beta, .slice o x.hops.length cap] 74); have HB := Lib.hid hB; clear hB; have hrx := r.ext (hx0.alloc (.cells #[] 71))
 go_enter Tryz.func173, Tryz.ntmps173
 go_wp2_with (at_builtin; refine appS (v := .slice (some ⟨w.heap.size + 1 + 1 + 1, 0, none⟩) 0 0) (l := []) E Hop.flen Hop.one rfl _ _ rfl x.hops rfl (OwnF.emptyAt (f := Hop.f) (n := 5) (base := w.heap.size + 3) (by simp) (by omega)) rfl hrx (by first | omega | (simp; omega)) (by first | (unfold maxLen; omega) | (simp [maxLen]; omega)) (by simp) ?_)
 intro v' w' ho' hg'
 have hblk (q : Nat) (ob : Obj) (hq : q < w.heap.size + 3) (h : (((w.alloc (.cells #[.int .i64 x.kind, .int .i64 x.ts, .int .i64 x.beta, .slice o x.hops.length cap] 74)).alloc (.cells #[.int .i64 0, .int .i64 0, .int .i64 0, .slice none 0 0] 74)).alloc (.cells #[.int .i64 x.kind, .int .i64 x.ts, .int .i64 x.beta, .slice o x.hops.length cap] 74)).heap[q]? = some ob) : w'.heap[q]? = some ob :=
  (hg'.block q (by simp; omega) (by simp [Value.ownBlock]; omega)).trans (Ext.block ((Ext.refl _).alloc _) h)
 have hb1 := hblk _ _ (by omega) HB.out.2.1; have hb2 := hblk _ _ (by omega) HB.out.2.2; have hx' : Ext w w' := (hx0.alloc _).grown hg' (fun k hk => by simp [Value.ownBlock] at hk; omega); have hsz : w.heap.size + 3 ≤ w'.heap.size := Nat.le_trans (by simp) hg'.size
 try rw [List.nil_append] at ho'
 clear hg' hblk; obtain ⟨oo, co, rfl, _⟩ := (OwnF.rd (hf := Hop.flen) ho').shape; have c1 := blk4 hb1; have c2 := blk4 hb2; have g0 := fr_of hb1 0; have g1 := fr_of hb1 1; have g2 := fr_of hb1 2; have g3 := fr_of hb1 3; have gg := fr_of hb2 3; clear hb1 hb2
 go_wp2_with fail
 refine bodyPost_ret (v := .agg #[.int .i64 x.kind, .int .i64 x.ts, .int .i64 x.beta, .slice oo x.hops.length co]) (by simp [results, Tryz.results173, go_sem, c1]) rfl ⟨_, rfl, ?_, ?_⟩
 ·
  exact ((((ho'.set (by simp) _).set (by simp) _).set (by simp) _).set (by simp) _).set (by simp) _
 ·
  exact ((((hx'.setCell (by simp; omega) _).setCell (by simp) _).setCell (by simp) _).setCell (by simp) _).setCell (by simp) _
set_option maxRecDepth 100000 in
set_option maxHeartbeats 4000000 in
theorem i_copyPath (x : Pth) (v : Value) (w : World) (r : RdS Part.rep w v x.parts) (hl : x.size ≤ 1048576) :
  Calls Tryz.prog 81 #[.agg #[v]] w fun e w' => ∃ u, e = .returned (.agg #[u]) ∧ Part.own.own (rng w.heap.size w'.heap.size) w' u x.parts ∧ Ext w w' := by
 obtain ⟨ps⟩ := x; unfold Pth.size at hl; dsimp only at r hl ⊢
 obtain ⟨o, cap, rfl, hsm⟩ := r.shape; obtain ⟨E⟩ := elemPartC; have hx0 := ext2 w (.cells #[.slice o ps.length cap] 35) (.cells #[.slice none 0 0] 35); have hB := al3 w (.cells #[.slice o ps.length cap] 35) (.cells #[.slice none 0 0] 35) (.cells #[.slice none 0 0] 35); have HB := Lib.hid hB; clear hB; have HB2 := Lib.hid (al2 w (.cells #[.slice o ps.length cap] 35) (.cells #[.slice none 0 0] 35))
 go_enter Tryz.func81, Tryz.ntmps81
 go_wp2
 go_loopg [9] ps.length (fun gk i wr => ∃ k : Nat, gk + k = ps.length ∧ i = .int .i64 k ∧ (∃ ok ck, Hid (wr.heap[w.heap.size + 1 + 1]? = some (.cells #[.slice ok k ck] 35)) ∧ Part.own.own (rng (w.heap.size + 1 + 1 + 1) wr.heap.size) wr (.slice ok k ck) (ps.take k)) ∧ w.heap.size + 1 + 1 + 1 ≤ wr.heap.size ∧ Ext ((w.alloc (.cells #[.slice o ps.length cap] 35)).alloc (.cells #[.slice none 0 0] 35)) wr)
 case atStart =>
  refine ⟨0, rfl, rfl, ⟨none, 0, Lib.hid HB.out.2.2, ?_⟩, by simp, (Ext.refl _).alloc _⟩; exact Part.own.mono (Part.own.nil _) (fun b hb => hb.elim)
 case round =>
  obtain ⟨k, hgk, rfl, ⟨ok, ck, HBk, hown⟩, hsw, hx⟩ := hrel; have hcb := blk1 (hx.block HB2.out.1); have hc3 := blk1 HBk.out
  by_cases hlt : k < ps.length
  ·
   obtain ⟨b, off, oh, ch, rfl, hc, hr⟩ := Part.at r k hlt; have hcx := Part.at_ext (hx0.t hx) hc; have hrj := hr.ext (hx0.t hx); clear hc; have hle := hopsN_le hlt; have hg' : gk - 1 + (k + 1) = ps.length ∧ gk - 1 < gk := by omega
   have HG := Lib.hid hg'; clear hg' hgk; have htl : (ps.take k).length = k := by simp; omega
   have hln : (ps.take k).length + 1 ≤ 1048577 := by omega
   have HE := Lib.hid (take_snocE hlt); generalize ps.take k = out at *; have hxa : Ext wr (wr.alloc (.cells #[.int .i64 ps[k].kind, .int .i64 ps[k].ts, .int .i64 ps[k].beta, .slice oh ps[k].hops.length ch] 74)) := (Ext.refl _).alloc _; have HX := Lib.hid (blk_new wr (.cells #[.int .i64 ps[k].kind, .int .i64 ps[k].ts, .int .i64 ps[k].beta, .slice oh ps[k].hops.length ch] 74))
   go_wp2_with fail
   refine (i_copyHops ps[k].hops _ _ (hrj.ext hxa) (by omega)).mono ?_; rintro e w1 ⟨u, rfl, ou, h1⟩; obtain ⟨oo, co, rfl, _⟩ := (OwnF.rd (hf := Hop.flen) ou).shape; have hbx := h1.block HX.out; have hck := blk1 (Ext.block (hxa.trans h1) HBk.out); have hcX := blk4 hbx; have fX := fr_of hbx 3; have hs1 : wr.heap.size < w1.heap.size := blk_lt hbx; have ous := ou.set (p := ⟨wr.heap.size, 3, none⟩) (by simp) (.slice oo ps[k].hops.length co); have hxs : Ext wr (w1.setCell ⟨wr.heap.size, 3, none⟩ (.slice oo ps[k].hops.length co)) := (hxa.trans h1).setCell (by simp) _; have hbk := Ext.block (hxs.alloc (.cells #[.int .i64 ps[k].kind, .int .i64 ps[k].ts, .int .i64 ps[k].beta, .slice oo ps[k].hops.length co] 74)) HBk.out; have HBK := Lib.hid hbk; clear hbk hbx ou; have hnew := blk_new (w1.setCell ⟨wr.heap.size, 3, none⟩ (.slice oo ps[k].hops.length co)) (.cells #[.int .i64 ps[k].kind, .int .i64 ps[k].ts, .int .i64 ps[k].beta, .slice oo ps[k].hops.length co] 74); rw [show (w1.setCell ⟨wr.heap.size, 3, none⟩ (.slice oo ps[k].hops.length co)).heap.size = w1.heap.size from by simp] at hnew; have HNEW := Lib.hid hnew; clear hnew
   go_wp2_with (at_builtin; refine appN (lo := w.heap.size + 1 + 1 + 1) (w0 := wr) (c := Part.c) (hc := Part.clen) (sub := (·.hops)) (I := Own.flat Hop.f 5 Hop.flen 71) E rfl _ _ rfl ps[k] (.slice oo ps[k].hops.length co) (rng (wr.heap.size + 1) w1.heap.size) (part_oneC _ _ _ _) rfl hown (hxs.alloc _) (Own.ext (O := Own.flat Hop.f 5 Hop.flen 71) (Own.mono _ (Own.ofF (hf := Hop.flen) ous) (fun q hq => ⟨by have := hq.1; simpa using this, by have := hq.2; simpa using this⟩)) ((Ext.refl _).alloc _)) (fun q hq => ⟨by have := hq.1; omega, by have := hq.2; simp; omega⟩) hsw rfl (by exact blk_list (Part.c ps[k] (.slice oo ps[k].hops.length co)) HNEW.out) (by omega) (by unfold maxLen; omega) ?_)
   intro v' w' ho' hg' hvlo; have hx' := ((hx.t hxs).alloc _).grown hg' (fun q hq => Nat.le_trans (by simp) (hvlo q hq)); have hb3' := (hg'.block (w.heap.size + 1 + 1) (blk_lt HBK.out) (fun e => by have := hvlo _ e.symm; omega)).trans HBK.out; rw [HE.out] at ho'; obtain ⟨on, cn, hve, _⟩ := (Part.ord ho').shape; rw [show (ps.take (k + 1)).length = k + 1 from by simp; omega] at hve; subst hve; have c3' := blk1 hb3'; have f3' := fr_of hb3' 0; have hb4 := blk_set hb3' 0 (.slice on (k + 1) cn); simp only [List.setIfInBounds_toArray, List.set_cons_zero] at hb4; have HB4 := Lib.hid hb4; clear hb4 hb3'; have hx4 := hx'.setCell (p := ⟨w.heap.size + 1 + 1, 0, none⟩) (by simp) (.slice on (k + 1) cn); have HO4 := Lib.hid (Own.kept Part.own ho' (⟨rfl, rfl, rfl, by simp [World.setCell], fun q hq hn => Below.heap_setCell _ _ _ _ hn⟩ : Chg (fun q => q = w.heap.size + 1 + 1) w' (w'.setCell ⟨w.heap.size + 1 + 1, 0, none⟩ (.slice on (k + 1) cn))) (fun q hq e => by have := hq.1; omega)); have hsw' : w.heap.size + 1 + 1 + 1 ≤ w'.heap.size := Nat.le_trans hsw (Nat.le_trans (hxs.alloc _ : Ext wr _).size hg'.size); clear hg' ho' hvlo
   go_wp2_with fail
   go_roundg (gk - 1)
   case measure => exact HG.out.2
   case rel => exact ⟨k + 1, HG.out.1, by go_num, ⟨on, cn, HB4, by simpa using HO4.out⟩, by simpa using hsw', hx4⟩
  ·
   rw [List.take_of_length_le (by omega)] at hown; have hcr := blk1 (hx.block HB2.out.2); have g0 := fr_of (hx.block HB2.out.2) 0
   go_wp2
   refine bodyPost_ret (v := .agg #[.slice ok k ck]) (by simp [results, Tryz.results81, go_sem, hcr]) rfl ⟨_, rfl, ?_, ?_⟩
   ·
    refine Part.own.mono (Own.kept Part.own hown (⟨rfl, rfl, rfl, by simp [World.setCell], fun q hq hn => Below.heap_setCell _ _ _ _ hn⟩ : Chg (fun q => q = w.heap.size + 1) wr (wr.setCell ⟨w.heap.size + 1, 0, none⟩ (.slice ok k ck))) (fun q hq e => by have := hq.1; omega)) (fun q hq => ⟨by have := hq.1; omega, by simpa using hq.2⟩)
   ·
    exact (hx0.t hx).setCell (by simp) _
set_option maxRecDepth 100000 in
set_option maxHeartbeats 4000000 in
theorem s_l22Copy (x : Pth) (v : Value) (w : World) (r : RdS Part.rep w v x.parts) (hl : x.size ≤ 1048576) :
  Calls Tryz.prog 93 #[.agg #[v]] w fun e w' => ∃ u, e = .returned (.agg #[u]) ∧ Part.own.own (rng w.heap.size w'.heap.size) w' u x.parts ∧ Ext w w' := by
 obtain ⟨ps⟩ := x; unfold Pth.size at hl; dsimp only at r hl ⊢
 obtain ⟨o, cap, rfl, hsm⟩ := r.shape; obtain ⟨E⟩ := elemPartC; have hx0 := ext2 w (.cells #[.slice o ps.length cap] 35) (.cells #[.slice none 0 0] 35); have hB := al3 w (.cells #[.slice o ps.length cap] 35) (.cells #[.slice none 0 0] 35) (.cells #[.slice none 0 0] 35); have HB := Lib.hid hB; clear hB; have HB2 := Lib.hid (al2 w (.cells #[.slice o ps.length cap] 35) (.cells #[.slice none 0 0] 35))
 go_enter Tryz.func93, Tryz.ntmps93
 go_wp2
 go_loopg [4] ps.length (fun gk i wr => ∃ k : Nat, gk + k = ps.length ∧ i = .int .i64 k ∧ (∃ ok ck, Hid (wr.heap[w.heap.size + 1 + 1]? = some (.cells #[.slice ok k ck] 35)) ∧ Part.own.own (rng (w.heap.size + 1 + 1 + 1) wr.heap.size) wr (.slice ok k ck) (ps.take k)) ∧ w.heap.size + 1 + 1 + 1 ≤ wr.heap.size ∧ Ext ((w.alloc (.cells #[.slice o ps.length cap] 35)).alloc (.cells #[.slice none 0 0] 35)) wr)
 case atStart =>
  refine ⟨0, rfl, rfl, ⟨none, 0, Lib.hid HB.out.2.2, ?_⟩, by simp, (Ext.refl _).alloc _⟩; exact Part.own.mono (Part.own.nil _) (fun b hb => hb.elim)
 case round =>
  obtain ⟨k, hgk, rfl, ⟨ok, ck, HBk, hown⟩, hsw, hx⟩ := hrel; have hcb := blk1 (hx.block HB2.out.1); have hc3 := blk1 HBk.out
  by_cases hlt : k < ps.length
  ·
   obtain ⟨b, off, oh, ch, rfl, hc, hr⟩ := Part.at r k hlt; have hcx := Part.at_ext (hx0.t hx) hc; have hrj := hr.ext (hx0.t hx); clear hc; have hle := hopsN_le hlt; have hg' : gk - 1 + (k + 1) = ps.length ∧ gk - 1 < gk := by omega
   have HG := Lib.hid hg'; clear hg' hgk; have htl : (ps.take k).length = k := by simp; omega
   have hln : (ps.take k).length + 1 ≤ 1048577 := by omega
   have HE := Lib.hid (take_snocE hlt); generalize ps.take k = out at *
   go_wp2_with fail
   refine (s_l21Copy ps[k] _ _ hrj (by omega)).mono ?_; rintro e w1 ⟨u, rfl, ou, h1⟩; obtain ⟨oo, co, rfl, _⟩ := (OwnF.rd (hf := Hop.flen) ou).shape; have hbb := al2 w1 (.cells #[.int .i64 ps[k].kind, .int .i64 ps[k].ts, .int .i64 ps[k].beta, .slice oo ps[k].hops.length co] 74) (.cells #[.int .i64 ps[k].kind, .int .i64 ps[k].ts, .int .i64 ps[k].beta, .slice oo ps[k].hops.length co] 74); have HBB := Lib.hid hbb; clear hbb; have hck := blk1 (Ext.block h1 HBk.out); have hck2 := blk1 (Ext.block (h1.alloc (.cells #[.int .i64 ps[k].kind, .int .i64 ps[k].ts, .int .i64 ps[k].beta, .slice oo ps[k].hops.length co] 74)) HBk.out); have hxs : Ext wr (w1.alloc (.cells #[.int .i64 ps[k].kind, .int .i64 ps[k].ts, .int .i64 ps[k].beta, .slice oo ps[k].hops.length co] 74)) := h1.alloc _; have hbk := Ext.block (hxs.alloc (.cells #[.int .i64 ps[k].kind, .int .i64 ps[k].ts, .int .i64 ps[k].beta, .slice oo ps[k].hops.length co] 74)) HBk.out; have HBK := Lib.hid hbk; clear hbk; have ous := Own.mono _ (Own.ofF (hf := Hop.flen) ou) (T := rng wr.heap.size w1.heap.size) (fun q hq => ⟨by have := hq.1; omega, hq.2⟩)
   go_wp2_with (at_builtin; refine appN (lo := w.heap.size + 1 + 1 + 1) (w0 := wr) (c := Part.c) (hc := Part.clen) (sub := (·.hops)) (I := Own.flat Hop.f 5 Hop.flen 71) E rfl _ _ rfl ps[k] (.slice oo ps[k].hops.length co) (rng wr.heap.size w1.heap.size) (part_oneC _ _ _ _) rfl hown (hxs.alloc _) (Own.ext (O := Own.flat Hop.f 5 Hop.flen 71) ous (((Ext.refl _).alloc _).alloc _)) (fun q hq => ⟨hq.1, by have := hq.2; simp; omega⟩) hsw rfl (by exact blk_list (Part.c ps[k] (.slice oo ps[k].hops.length co)) (blk_new2 w1 _ _)) (by omega) (by unfold maxLen; omega) ?_)
   intro v' w' ho' hg' hvlo; have hx' := ((hx.t hxs).alloc _).grown hg' (fun q hq => Nat.le_trans (by simp) (hvlo q hq)); have hb3' := (hg'.block (w.heap.size + 1 + 1) (blk_lt HBK.out) (fun e => by have := hvlo _ e.symm; omega)).trans HBK.out; rw [HE.out] at ho'; obtain ⟨on, cn, hve, _⟩ := (Part.ord ho').shape; rw [show (ps.take (k + 1)).length = k + 1 from by simp; omega] at hve; subst hve; have c3' := blk1 hb3'; have f3' := fr_of hb3' 0; have hb4 := blk_set hb3' 0 (.slice on (k + 1) cn); simp only [List.setIfInBounds_toArray, List.set_cons_zero] at hb4; have HB4 := Lib.hid hb4; clear hb4 hb3'; have hx4 := hx'.setCell (p := ⟨w.heap.size + 1 + 1, 0, none⟩) (by simp) (.slice on (k + 1) cn); have HO4 := Lib.hid (Own.kept Part.own ho' (⟨rfl, rfl, rfl, by simp [World.setCell], fun q hq hn => Below.heap_setCell _ _ _ _ hn⟩ : Chg (fun q => q = w.heap.size + 1 + 1) w' (w'.setCell ⟨w.heap.size + 1 + 1, 0, none⟩ (.slice on (k + 1) cn))) (fun q hq e => by have := hq.1; omega)); have hsw' : w.heap.size + 1 + 1 + 1 ≤ w'.heap.size := Nat.le_trans hsw (Nat.le_trans (hxs.alloc _ : Ext wr _).size hg'.size); clear hg' ho' hvlo
   go_wp2_with fail
   go_roundg (gk - 1)
   case measure => exact HG.out.2
   case rel => exact ⟨k + 1, HG.out.1, by go_num, ⟨on, cn, HB4, by simpa using HO4.out⟩, by simpa using hsw', hx4⟩
  ·
   rw [List.take_of_length_le (by omega)] at hown; have hcr := blk1 (hx.block HB2.out.2); have g0 := fr_of (hx.block HB2.out.2) 0
   go_wp2
   refine bodyPost_ret (v := .agg #[.slice ok k ck]) (by simp [results, Tryz.results93, go_sem, hcr]) rfl ⟨_, rfl, ?_, ?_⟩
   ·
    refine Part.own.mono (Own.kept Part.own hown (⟨rfl, rfl, rfl, by simp [World.setCell], fun q hq hn => Below.heap_setCell _ _ _ _ hn⟩ : Chg (fun q => q = w.heap.size + 1) wr (wr.setCell ⟨w.heap.size + 1, 0, none⟩ (.slice ok k ck))) (fun q hq e => by have := hq.1; omega)) (fun q hq => ⟨by have := hq.1; omega, by simpa using hq.2⟩)
   ·
    exact (hx0.t hx).setCell (by simp) _
end
section
open Go.ChangeShapes Go.WideShapes Go.ChangeAt Go.RowKit Go.Deep
theorem Pth.clen (x : Pth) (v : Value) : (x.c v).length = 1 := rfl
theorem Pth.at {w : World} {o : Option Addr} {m cap : Nat} {l : List Pth} (h : RdS Pth.rep w (.slice o m cap) l) (k : Nat) (hk : k < l.length) :
  ∃ b off oh ch, o = some ⟨b, off, none⟩ ∧ w.cell? ⟨b, off + k, none⟩ = some (.slice oh l[k].parts.length ch) ∧ RdS Part.rep w (.slice oh l[k].parts.length ch) l[k].parts := by
 obtain ⟨o', cap', hv, h1, h2, hn, h3⟩ := h; obtain ⟨b, off, cs, ho, hc, v, rfl, hr⟩ := h3 k hk
 cases hv
 obtain ⟨oh, ch, rfl, _⟩ := hr.shape; have := hc 0 _ rfl; refine ⟨b, off, oh, ch, ho, ?_, hr⟩; have e : Pth.rep.cells = 1 := rfl
 simpa [e] using this
def pszN (l : List Pth) : Nat := (l.map Pth.size).sum
def pthsN (l : List Pth) : Nat := l.length + pszN l
theorem pszN_snoc {l : List Pth} {k : Nat} (hk : k < l.length) : pszN (l.take (k + 1)) = pszN (l.take k) + l[k].size := by
 unfold pszN; rw [List.take_succ_eq_append_getElem hk, List.map_append, List.sum_append]; simp only [List.map_cons, List.map_nil, List.sum_cons, List.sum_nil]; omega
theorem pszN_take_le (l : List Pth) (k : Nat) : pszN (l.take k) ≤ pszN l := by
 unfold pszN; have h := List.take_append_drop k l; have h2 : (l.map Pth.size).sum = ((l.take k ++ l.drop k).map Pth.size).sum := by rw [h]
 rw [List.map_append, List.sum_append] at h2; omega
theorem pszN_le {l : List Pth} {k : Nat} (hk : k < l.length) : l[k].size ≤ pszN l := by
 have h1 := pszN_snoc hk; have h2 := pszN_take_le l (k + 1); omega
theorem Tryz.infoPth : (Tryz.prog.info? 35).map (fun i => (i.zero, i.size, i.bytes)) = some (some (.agg #[.slice none 0 0]), 1, 24) := by kernel_rfl
theorem elemPth : Nonempty (Elem Tryz.prog 25 35 1 24) := Elem.mk' Tryz.underlying25 Tryz.infoPth rfl (by decide)
def Pth.ownS : Own Pth := Own.nest 1 Pth.c Pth.clen (·.parts) 35 Part.own
theorem Pth.ord {S : Nat → Prop} {w : World} {v : Value} {l : List Pth} (h : Pth.ownS.own S w v l) : RdS Pth.rep w v l := Pth.ownS.rd h
def markPths (k : Int) : List Pth → List Pth
  | [] => []
  | x :: l => ⟨markParts k x.parts⟩ :: markPths (k + markN x.parts) l
def markPN : List Pth → Int
  | [] => 0
  | x :: l => markN x.parts + markPN l
theorem markN_nn (l : List Part) : 0 ≤ markN l := by unfold markN; omega
theorem markPN_nn (l : List Pth) : 0 ≤ markPN l := by
 induction l with
 | nil => exact Int.le_refl _
 | cons x l ih => have := markN_nn x.parts; unfold markPN; omega
theorem markPN_app (a b : List Pth) : markPN (a ++ b) = markPN a + markPN b := by
 induction a with
 | nil => simp [markPN]
 | cons x a ih => simp only [List.cons_append, markPN, ih]; omega
theorem markPN_snoc {l : List Pth} {k : Nat} (hk : k < l.length) : markPN (l.take (k + 1)) = markPN (l.take k) + markN l[k].parts := by
 rw [List.take_succ_eq_append_getElem hk, markPN_app]
 simp [markPN]
theorem markPN_take_le (l : List Pth) (k : Nat) : markPN (l.take k) ≤ markPN l := by
 have h : markPN l = markPN (l.take k ++ l.drop k) := by rw [List.take_append_drop]
 rw [markPN_app] at h; have := markPN_nn (l.drop k); omega
theorem markPN_le (l : List Pth) : markPN l ≤ 5 * pthsN l := by
 induction l with
 | nil => decide
 | cons x l ih =>
  have e : pthsN (x :: l) = 1 + x.size + pthsN l := by unfold pthsN pszN; simp; omega
  rw [e]; unfold markPN markN Pth.size; omega
theorem markPths_len (k : Int) (l : List Pth) : (markPths k l).length = l.length := by
 induction l generalizing k with
 | nil => rfl
 | cons x l ih => simp [markPths, ih]
theorem markPths_at (k : Int) (l : List Pth) (j : Nat) (hj : j < l.length) : (markPths k l)[j]'(by rw [markPths_len]; exact hj) = ⟨markParts (k + markPN (l.take j)) l[j].parts⟩ := by
 induction l generalizing k j with
 | nil => simp at hj
 | cons x l ih =>
  cases j with
  | zero => simp [markPths, markPN]
  | succ j =>
   have h := ih (k + markN x.parts) j (by simpa using hj)
   have e1 : k + markN x.parts + markPN (l.take j) = k + markPN ((x :: l).take (j + 1)) := by
    rw [List.take_succ_cons, markPN]; omega
   rw [e1] at h
   simpa [markPths] using h
end
section
open Go.ChangeShapes Go.WideShapes Go.ChangeAt Go.RowKit Go.Deep
section
variable {P : Program} {w : World} {ops : Array Oper} {rest : List Oper} {o : Oper} {a : Act} {Q : Exit → Act → World → Prop}
theorem appSp {t e : TypeId} {n bytes : Nat} (E : Elem P t e n bytes) {α : Type} {f : α → List Value} (hf : ∀ a, (f a).length = n) (hgd : o.guard = none) (s x : Operand)
  (ho : o.op = .call { callee := .builtin .append, args := #[s, x], argTypes := #[t, t] }) {base : Nat} {v vs : Value} {l : List α} (src : List α) (h1 : ∀ b ∈ src, ∀ u ∈ f b, u.oneCell' = true) (hs : a.eval s = v) (hown : OwnF f n base e w v l)
  (hx : a.eval x = vs) (hsrc : RdS (Rep.flat n f hf) w vs src)
  (hl : (l.length + src.length) * bytes ≤ 140737488355328) (hm : l.length + src.length ≤ maxLen) (hbase : base ≤ w.heap.size)
  (h : ∀ v' w', OwnF f n base e w' v' (l ++ src) → w.grownBy w' v.ownBlock → (v'.ownBlock = v.ownBlock ∨ v'.ownBlock = some w.heap.size) → wpList P ops Q rest (a.put o.dst v') w') : wpList P ops Q (o :: rest) a w := by
 obtain ⟨oa, cap, rfl, hc1, hc2, hn0, hel⟩ := hsrc
 cases oa with
 | none =>
  have hnil : src = [] := by
   cases src with
   | nil => rfl
   | cons b src => obtain ⟨_, _, _, he, _⟩ := hel 0 (by simp); cases he
  subst hnil; obtain rfl := hn0 rfl; refine wpList_append_own_none hgd s x t ho base e E.i n E.ht E.hi v l.length (l.flatMap f) hs hown hx ?_; refine h v w ?_ (World.grownBy.refl _ _) (.inl rfl); rw [List.append_nil]; exact hown
 | some ad =>
  refine wpList_append_own_at w hgd s x t ho base e E.i E.z n bytes E.ht E.hi E.hz E.hsize E.hby E.hzs E.hpos v l.length (l.flatMap f) hs hown ad src.length cap (src.flatMap f) hx (flatMap_len hf src) ?_ ?_ hm hl hbase ?_
  ·
   intro j u hu; have hjl : j < src.length * n := by rw [← flatMap_len hf src]; exact (List.getElem?_eq_some_iff.1 hu).1
   have hk : j / n < src.length := by rw [Nat.div_lt_iff_lt_mul E.hpos]; exact hjl
   have hr := Nat.mod_lt j E.hpos; obtain ⟨b, off, cs, hb, hcell, rfl⟩ := hel (j / n) hk
   cases hb
   have hfm := flatMap_at hf src (j / n) hk (j % n) hr; have hdm : j / n * n + j % n = j := by rw [Nat.mul_comm]; exact Nat.div_add_mod j n
   rw [hdm, hu] at hfm; have := hcell (j % n) u hfm.symm; have hadd : (⟨b, off, none⟩ : Addr).add j = ⟨b, off + j, none⟩ := by unfold Addr.add; split <;> simp_all
   rw [hadd]; rw [← this]
   show _ = w.cell? ⟨b, off + j / n * n + j % n, none⟩
   rw [Nat.add_assoc, hdm]
  ·
   intro u hu; obtain ⟨b, hm', hb⟩ := List.mem_flatMap.1 hu; exact h1 b hm' u hb
  ·
   intro v' w' ho' hg _ hat; refine h v' w' ?_ hg hat; unfold OwnF; rw [List.length_append, List.flatMap_append]; exact ho'
variable {α β : Type} {n : Nat} {c : α → Value → List Value} {hc : ∀ a v, (c a v).length = n} {sub : α → List β} {e : TypeId} {I : Own β}
theorem appG {t : TypeId} {bytes : Nat} {S : Nat → Prop} (E : Elem P t e n bytes) (hgd : o.guard = none) (s x : Operand)
  (ho : o.op = .call { callee := .builtin .append, args := #[s, x], argTypes := #[t, t] }) {w0 : World} {v : Value} {l : List α} (b : α) (hv : Value) (T : Nat → Prop)
  (h1 : ∀ u ∈ c b hv, u.oneCell' = true) (hs : a.eval s = v) (hown : (Own.nest n c hc sub e I).own S w0 v l) (hx0 : Ext w0 w) (hi : I.own T w hv (sub b)) (hT : ∀ q, T q → w0.heap.size ≤ q ∧ q < w.heap.size)
  {g cp : Nat} (hx : a.eval x = .slice (some ⟨g, 0, none⟩) 1 cp) (hnews : ∀ j u, (c b hv)[j]? = some u → w.cell? ⟨g, j, none⟩ = some u)
  (hl : (l.length + 1) * bytes ≤ 140737488355328) (hm : l.length + 1 ≤ maxLen)
  (h : ∀ v' w', (Own.nest n c hc sub e I).own (fun q => S q ∨ (w0.heap.size ≤ q ∧ q < w'.heap.size)) w' v' (l ++ [b]) → w.grownBy w' v.ownBlock → (∀ q, v.ownBlock = some q → S q) → wpList P ops Q rest (a.put o.dst v') w') : wpList P ops Q (o :: rest) a w := by
 obtain ⟨qs, hq, hoq, hS, hqq, hd⟩ := hown; have hlq : qs.length = l.length := by rw [← hq, List.length_map]
 refine app1p E (f := capF c) (fun q : Cap α => hc q.dat q.val) hgd s x ho (⟨b, hv, T⟩ : Cap α) h1 hs (hoq.ext hx0) hx hnews (by rw [hlq]; exact hl) (by rw [hlq]; exact hm) (Nat.zero_le _) ?_; intro v' w' ho' hg hat; refine h v' w' ?_ hg hS; refine nest_push (S := S) (T := T) qs b hv hq hS hqq hd (fun k hk => (hoq.block k hk).2) hx0 hi (fun q hTq => ⟨.inr ⟨(hT q hTq).1, Nat.lt_of_lt_of_le (hT q hTq).2 hg.size⟩, (hT q hTq).1, (hT q hTq).2⟩) (fun q hq => .inl hq) hg ?_ ho'
 rcases hat with h2 | h2
 ·
  exact .inl h2
 ·
  exact .inr ⟨_, h2, Nat.le_refl _, .inr ⟨hx0.size, (ho'.block _ h2).2⟩⟩
theorem appGS {t : TypeId} {bytes : Nat} {S S2 : Nat → Prop} (E : Elem P t e n bytes) (hgd : o.guard = none) (s x : Operand)
  (ho : o.op = .call { callee := .builtin .append, args := #[s, x], argTypes := #[t, t] }) {v vs : Value} {l src : List α}
  (h1 : ∀ (b : α) (oo : Option Addr) (m k : Nat), ∀ u ∈ c b (.slice oo m k), u.oneCell' = true) (hs : a.eval s = v) (hown : (Own.nest n c hc sub e I).own S w v l) (hx : a.eval x = vs) (hsrc : (Own.nest n c hc sub e I).own S2 w vs src) (hdis : ∀ b, S b → ¬ S2 b)
  (hl : (l.length + src.length) * bytes ≤ 140737488355328) (hm : l.length + src.length ≤ maxLen)
  (h : ∀ v' w', (Own.nest n c hc sub e I).own (fun q => (S q ∨ S2 q) ∨ (w.heap.size ≤ q ∧ q < w'.heap.size)) w' v' (l ++ src) → w.grownBy w' v.ownBlock → (∀ q, v.ownBlock = some q → S q) → wpList P ops Q rest (a.put o.dst v') w') : wpList P ops Q (o :: rest) a w := by
 obtain ⟨qs, hq, hoq, hS, hqq, hd⟩ := hown; obtain ⟨qs2, hq2, hoq2, hS2, hqq2, hd2⟩ := hsrc; have hlq : qs.length = l.length := by rw [← hq, List.length_map]
 have hlq2 : qs2.length = src.length := by rw [← hq2, List.length_map]
 have hf : ∀ q : Cap α, (capF c q).length = n := fun q : Cap α => hc q.dat q.val
 refine appSp E (f := capF c) hf hgd s x ho qs2 (fun q hqm u hu => ?_) hs hoq hx (OwnF.rd (hf := hf) hoq2) (by rw [hlq, hlq2]; exact hl) (by rw [hlq, hlq2]; exact hm) (Nat.zero_le _) ?_
 ·
  obtain ⟨oo, k, hv, _⟩ := (I.rd (hqq2 q hqm).1).shape; unfold capF at hu; rw [hv] at hu; exact h1 _ _ _ _ u hu
 intro v' w' ho' hg hat; refine h v' w' ?_ hg hS; have hch : Chg (fun b => v.ownBlock = some b) w w' := Chg.ofGrown hg (fun k hk => hk)
 have hne : ∀ b, b < w.heap.size → v.ownBlock ≠ some b → v'.ownBlock ≠ some b := by
  intro b hb hn
  rcases hat with h1 | h1
  ·
   rw [h1]; exact hn
  ·
   rw [h1]; intro e; cases e; omega
 have hn2 : ∀ b, S2 b → v.ownBlock ≠ some b := fun b hb e => hdis b (hS b e) hb
 refine ⟨qs ++ qs2, by rw [List.map_append, hq, hq2], ho', fun k hk => ?_, fun q hqm => ?_, fun i j hi' hj' hne' b hbi => ?_⟩
 ·
  rcases hat with h1 | h1
  ·
   rw [h1] at hk; exact .inl (.inl (hS k hk))
  ·
   rw [h1] at hk; cases hk; exact .inr ⟨Nat.le_refl _, (ho'.block _ h1).2⟩
 ·
  rcases List.mem_append.1 hqm with h1 | h1
  ·
   obtain ⟨a1, a2⟩ := hqq q h1; refine ⟨I.kept a1 hch (fun b hb => (a2 b hb).2.1), fun b hb => ?_⟩; obtain ⟨x1, x2, x3⟩ := a2 b hb; exact ⟨.inl (.inl x1), hne b x3 x2, Nat.lt_of_lt_of_le x3 hch.size⟩
  ·
   obtain ⟨a1, a2⟩ := hqq2 q h1; refine ⟨I.kept a1 hch (fun b hb => hn2 b (a2 b hb).1), fun b hb => ?_⟩; obtain ⟨x1, x2, x3⟩ := a2 b hb; exact ⟨.inl (.inr x1), hne b x3 (hn2 b x1), Nat.lt_of_lt_of_le x3 hch.size⟩
 ·
  simp only [List.length_append] at hi' hj'
  rcases Nat.lt_or_ge i qs.length with e1 | e1
  ·
   rw [List.getElem_append_left e1] at hbi
   rcases Nat.lt_or_ge j qs.length with e2 | e2
   ·
    rw [List.getElem_append_left e2]; exact hd i j e1 e2 hne' b hbi
   ·
    rw [List.getElem_append_right e2]; intro h3; exact hdis b ((hqq qs[i] (List.getElem_mem _)).2 b hbi).1 ((hqq2 _ (List.getElem_mem _)).2 b h3).1
  ·
   rw [List.getElem_append_right e1] at hbi
   rcases Nat.lt_or_ge j qs.length with e2 | e2
   ·
    rw [List.getElem_append_left e2]; intro h3; exact hdis b ((hqq qs[j] (List.getElem_mem _)).2 b h3).1 ((hqq2 _ (List.getElem_mem _)).2 b hbi).1
   ·
    rw [List.getElem_append_right e2]; exact hd2 _ _ (by omega) (by omega) (by omega) b hbi
end
end
section
def varF : Nat → Int → List Int
  | 0, n => [n]
  | k + 1, n => if 128 ≤ n then (n % 128 + 128) :: varF k (n / 128) else [n]
def varint (n : Int) : List Int := varF n.toNat n
theorem varF_stable : ∀ (k k' : Nat) (n : Int), n.toNat ≤ k → n.toNat ≤ k' → varF k n = varF k' n
 | 0, 0, _, _, _ => rfl
 | 0, k' + 1, n, h, _ => by
  have : ¬ 128 ≤ n := by omega
  simp [varF, this]
 | k + 1, 0, n, _, h => by
  have : ¬ 128 ≤ n := by omega
  simp [varF, this]
 | k + 1, k' + 1, n, h, h' => by
  by_cases hn : 128 ≤ n
  ·
   simp only [varF, hn, if_true]; rw [varF_stable k k' (n / 128) (by omega) (by omega)]
  ·
   simp [varF, hn]
theorem varint_big {n : Int} (h : 128 ≤ n) : varint n = (n % 128 + 128) :: varint (n / 128) := by
 obtain ⟨k, hk⟩ : ∃ k, n.toNat = k + 1 := ⟨n.toNat - 1, by omega⟩
 unfold varint; rw [hk]; simp only [varF, h, if_true]; rw [varF_stable k (n / 128).toNat (n / 128) (by omega) (Nat.le_refl _)]
theorem varint_small {n : Int} (h : n < 128) : varint n = [n] := by
 unfold varint
 cases n.toNat with
 | zero => rfl
 | succ k => simp only [varF]; rw [if_neg (by omega)]
def varOf (n : Int) : List Int := if 0 ≤ n ∧ n ≤ 1000000000000 then varint n else []
def encInts (l : List Int) : List Int := l.flatMap varOf
theorem varint_len : ∀ (k : Nat) (n : Int), 0 ≤ n → n < 128 ^ (k + 1) → (varint n).length ≤ k + 1
 | 0, n, _, h => by rw [varint_small (by simpa using h)]; simp
 | k + 1, n, h0, h => by
  by_cases hn : 128 ≤ n
  ·
   rw [varint_big hn, List.length_cons]
   have := varint_len k (n / 128) (by omega) (by
    rw [Int.pow_succ] at h
    omega)
   omega
  ·
   rw [varint_small (by omega)]; simp
theorem varOf_len (n : Int) : (varOf n).length ≤ 6 := by
 unfold varOf
 split
 ·
  rename_i h
  exact varint_len 5 n h.1 (by omega)
 ·
  simp
theorem encInts_len (l : List Int) : (encInts l).length ≤ 6 * l.length := by
 induction l with
 | nil => simp [encInts]
 | cons a l ih =>
  have := varOf_len a; simp only [encInts, List.flatMap_cons, List.length_append, List.length_cons] at ih ⊢
  omega
theorem ofInt_nat (a : Nat) (ha : a < 9223372036854775808) : (BitVec.ofInt 64 (a : Int)).toNat = a := by
 rw [BitVec.ofInt_natCast, BitVec.toNat_ofNat]; exact Nat.mod_eq_of_lt (by omega)
theorem and_nat (a b : Nat) (ha : a < 9223372036854775808) (hb : b < 9223372036854775808) : bits .and .i64 (a : Int) (b : Int) = ((a &&& b : Nat) : Int) := by
 have hx : a &&& b < 2 ^ 63 := Nat.and_lt_two_pow _ (by omega)
 show IntKind.i64.wrap ((BitVec.ofInt 64 (a : Int) &&& BitVec.ofInt 64 (b : Int)).toNat : Int) = _
 rw [BitVec.toNat_and, ofInt_nat a ha, ofInt_nat b hb, IntKind.wrap_i64]; omega
theorem or_nat (a b : Nat) (ha : a < 9223372036854775808) (hb : b < 9223372036854775808) : bits .or .i64 (a : Int) (b : Int) = ((a ||| b : Nat) : Int) := by
 have hx : a ||| b < 2 ^ 63 := Nat.or_lt_two_pow (by omega) (by omega)
 show IntKind.i64.wrap ((BitVec.ofInt 64 (a : Int) ||| BitVec.ofInt 64 (b : Int)).toNat : Int) = _
 rw [BitVec.toNat_or, ofInt_nat a ha, ofInt_nat b hb, IntKind.wrap_i64]; omega
theorem and127 (m : Int) (h0 : 0 ≤ m) (h1 : m < 9223372036854775808) : bits .and .i64 m 127 = m % 128 := by
 obtain ⟨k, rfl⟩ := Int.eq_ofNat_of_zero_le h0; have := and_nat k 127 (by omega) (by omega); have h2 : k &&& 127 = k % 128 := Nat.and_two_pow_sub_one_eq_mod k 7; rw [h2] at this; have e : ((127 : Nat) : Int) = 127 := rfl; rw [e] at this; rw [this]; omega
theorem or128 (m : Int) : bits .or .i64 (m % 128) 128 = m % 128 + 128 := by
 obtain ⟨k, hk⟩ := Int.eq_ofNat_of_zero_le (show 0 ≤ m % 128 by omega); have hk2 : k < 128 := by omega
 rw [hk]; have := or_nat k 128 (by omega) (by omega)
 have h2 : k ||| 128 = k + 128 := by
  have := Nat.two_pow_add_eq_or_of_lt (b := k) (i := 7) (by omega) 1; simp only [Nat.mul_one] at this; rw [Nat.or_comm, Nat.add_comm]; exact this.symm
 rw [h2] at this; have e : ((128 : Nat) : Int) = 128 := rfl; rw [e] at this; rw [this]; omega
end
section
open Go.ChangeShapes Go.WideShapes Go.ChangeAt Go.RowKit Go.Deep
set_option maxHeartbeats 400000 in
theorem i_copyBytes (l : List Int) (v : Value) (w : World) (hv : RdS Rep.byte w v l) (hl : l.length ≤ 1099511627776) :
  Calls Tryz.prog 151 #[v] w fun e w' => ∃ v', e = .returned v' ∧ OwnF byteF 1 w.heap.size 5 w' v' l ∧ Ext w w' := by
 obtain ⟨E⟩ := elemByte
 go_enter Tryz.func151, Tryz.ntmps151
 go_wp2_with (at_builtin; refine appS E byteFlen byteOne rfl _ _ rfl l rfl (OwnF.empty byteF 1 w.heap.size _ w (Nat.le_refl _)) rfl (hv.ext ((Ext.refl _).alloc _)) (by simp; omega) (by simp [maxLen]; omega) (by simp) ?_)
 intro v' w' ho' hg'; have hx' : Ext w w' := ((Ext.refl w).alloc _).app hg' (OwnF.empty byteF 1 w.heap.size 5 w (Nat.le_refl _)) (Nat.le_refl _)
 try rw [List.nil_append] at ho'
 clear hg'
 go_wp2
 go_ret
 exact ⟨_, rfl, ho', hx'⟩
set_option maxHeartbeats 4000000 in
theorem i_AppendVarint (l : List Int) (v : Value) (n : Int) (w : World) (hv : RdS Rep.byte w v l) (hl : l.length ≤ 1099511627000) :
  Calls Tryz.prog 221 #[v, .int .i64 n] w fun e w' => ∃ v', e = .returned v' ∧ OwnF byteF 1 w.heap.size 5 w' v' (l ++ varOf n) ∧ Ext w w' := by
 obtain ⟨E⟩ := elemByte
 go_enter Tryz.func221, Tryz.ntmps221
 go_wp2_with fail
 refine (i_copyBytes l v _ hv (by omega)).mono ?_; rintro e w1 ⟨v1, rfl, ho, hx⟩
 go_wp2_with fail
 refine (i_InRange _ _ _ _).mono ?_; rintro e w2 ⟨rfl, rfl⟩
 by_cases hr : 0 ≤ n ∧ n ≤ 1000000000000
 ·
  have tr : inR n 0 1000000000000 = true := inR_true.2 hr; have hvo : varOf n = varint n := if_pos hr; have hlen := varOf_len n; rw [hvo] at hlen; have HV := Lib.hid hvo; clear hvo; obtain ⟨hr0, hr1⟩ := hr
  go_wp2_with fail
  go_loopw [1, 5] (fun nn out wr => ∃ (m : Int) (pre : List Int), nn = .int .i64 m ∧ 0 ≤ m ∧ m ≤ 1000000000000 ∧ pre ++ varint m = varint n ∧ OwnF byteF 1 w.heap.size 5 wr out (l ++ pre) ∧ Ext w wr) (fun nn _ _ => (intOf nn).toNat)
  case atStart => exact ⟨n, [], rfl, hr0, hr1, rfl, by rw [List.append_nil]; exact ho, hx⟩
  case round =>
   clear ho hx; obtain ⟨m, pre, rfl, hm0, hm1, hpre, hown, hx⟩ := hrel
   have hpl : pre.length ≤ 6 := by
    have := congrArg List.length hpre; simp only [List.length_append] at this; omega
   have HP := Lib.hid hpre; clear hpre; have hbd : (l ++ pre).length ≤ 1099511627100 := by simp; omega
   by_cases hbig : 128 ≤ m
   ·
    have hstep : (pre ++ [m % 128 + 128]) ++ varint (m / 128) = varint n := by
     rw [← HP.out, varint_big hbig]; simp
    have HS := Lib.hid hstep; clear hstep; have e1 : m % 128 + 128 < 256 := by omega
    go_wp2_with (at_builtin; refine app1 E byteFlen byteOne rfl _ _ rfl (m % 128 + 128) rfl (OwnF.ext hown ((Ext.refl _).alloc _)) rfl (by first | exact blk_list (byteF _) (blk_new wr _) | exact fun j u hu => hu) (by omega) (by unfold maxLen; omega) (hx.alloc _).size ?_)
    intro v' w' ho' hg'; have hx' : Ext w w' := (hx.alloc _).app hg' hown (Nat.le_refl _); clear hg'
    go_wp2
    go_roundw
    case rel => exact ⟨m / 128, pre ++ [m % 128 + 128], by go_num, by omega, by omega, HS.out, by simpa using ho', hx'⟩
    case measure => simp [intOf]; omega
   ·
    have hend : pre ++ [m] = varint n := by
     rw [← HP.out, varint_small (by omega)]
    have HE := Lib.hid hend; clear hend
    go_wp2_with (at_builtin; refine app1 E byteFlen byteOne rfl _ _ rfl m rfl (OwnF.ext hown ((Ext.refl _).alloc _)) rfl (by first | exact blk_list (byteF _) (blk_new wr _) | exact fun j u hu => hu) (by omega) (by unfold maxLen; omega) (hx.alloc _).size ?_)
    intro v' w' ho' hg'; have hx' : Ext w w' := (hx.alloc _).app hg' hown (Nat.le_refl _); clear hg'
    go_wp2
    go_ret
    rw [HV.out, ← HE.out]; exact ⟨_, rfl, by simpa using ho', hx'⟩
 ·
  have tr : inR n 0 1000000000000 = false := inR_false.2 hr; have hvo : varOf n = [] := if_neg hr; have HV := Lib.hid hvo; clear hvo
  go_wp2_with fail
  go_ret
  rw [HV.out, List.append_nil]; exact ⟨_, rfl, ho, hx⟩
set_option maxHeartbeats 4000000 in
theorem s_AppendVarint (l : List Int) (v : Value) (n : Int) (w : World) (hv : RdS Rep.byte w v l) (hl : l.length ≤ 1099511627000) :
  Calls Tryz.prog 175 #[v, .int .i64 n] w fun e w' => ∃ v', e = .returned v' ∧ OwnF byteF 1 w.heap.size 5 w' v' (l ++ varOf n) ∧ Ext w w' := by
 obtain ⟨E⟩ := elemByte
 go_enter Tryz.func175, Tryz.ntmps175
 go_wp2_with (at_builtin; refine appS E byteFlen byteOne rfl _ _ rfl l rfl (OwnF.empty byteF 1 w.heap.size _ w (Nat.le_refl _)) rfl (hv.ext ((Ext.refl _).alloc _)) (by simp; omega) (by simp [maxLen]; omega) (by simp) ?_)
 intro v1 w1 ho hg'; have hx : Ext w w1 := ((Ext.refl w).alloc _).app hg' (OwnF.empty byteF 1 w.heap.size 5 w (Nat.le_refl _)) (Nat.le_refl _)
 try rw [List.nil_append] at ho
 clear hg'
 go_wp2_with fail
 refine (s_l1In _ _ _ _).mono ?_; rintro e w2 ⟨rfl, rfl⟩
 by_cases hr : 0 ≤ n ∧ n ≤ 1000000000000
 ·
  have tr : inR n 0 1000000000000 = true := inR_true.2 hr; have hvo : varOf n = varint n := if_pos hr; have hlen := varOf_len n; rw [hvo] at hlen; have HV := Lib.hid hvo; clear hvo; obtain ⟨hr0, hr1⟩ := hr
  go_wp2_with fail
  go_loopw [1, 5] (fun nn out wr => ∃ (m : Int) (pre : List Int), nn = .int .i64 m ∧ 0 ≤ m ∧ m ≤ 1000000000000 ∧ pre ++ varint m = varint n ∧ OwnF byteF 1 w.heap.size 5 wr out (l ++ pre) ∧ Ext w wr) (fun nn _ _ => (intOf nn).toNat)
  case atStart => exact ⟨n, [], rfl, hr0, hr1, rfl, by rw [List.append_nil]; exact ho, hx⟩
  case round =>
   clear ho hx; obtain ⟨m, pre, rfl, hm0, hm1, hpre, hown, hx⟩ := hrel
   have hpl : pre.length ≤ 6 := by
    have := congrArg List.length hpre; simp only [List.length_append] at this; omega
   have HP := Lib.hid hpre; clear hpre; have hbd : (l ++ pre).length ≤ 1099511627100 := by simp; omega
   by_cases hbig : 128 ≤ m
   ·
    have hstep : (pre ++ [m % 128 + 128]) ++ varint (m / 128) = varint n := by
     rw [← HP.out, varint_big hbig]; simp
    have HS := Lib.hid hstep; clear hstep; have e2 : 127 < m := by omega
    have ea : bits .and .i64 m 127 = m % 128 := and127 m hm0 (by omega); have eo : bits .or .i64 (m % 128) 128 = m % 128 + 128 := or128 m
    go_wp2_with (at_builtin; refine app1 E byteFlen byteOne rfl _ _ rfl (m % 128 + 128) rfl (OwnF.ext hown ((Ext.refl _).alloc _)) rfl (by first | exact blk_list (byteF _) (blk_new wr _) | exact fun j u hu => hu) (by omega) (by unfold maxLen; omega) (hx.alloc _).size ?_)
    intro v' w' ho' hg'; have hx' : Ext w w' := (hx.alloc _).app hg' hown (Nat.le_refl _); clear hg'
    go_wp2
    go_roundw
    case rel => exact ⟨m / 128, pre ++ [m % 128 + 128], by go_num, by omega, by omega, HS.out, by simpa using ho', hx'⟩
    case measure => simp [intOf]; omega
   ·
    have hend : pre ++ [m] = varint n := by
     rw [← HP.out, varint_small (by omega)]
    have HE := Lib.hid hend; clear hend
    go_wp2_with (at_builtin; refine app1 E byteFlen byteOne rfl _ _ rfl m rfl (OwnF.ext hown ((Ext.refl _).alloc _)) rfl (by first | exact blk_list (byteF _) (blk_new wr _) | exact fun j u hu => hu) (by omega) (by unfold maxLen; omega) (hx.alloc _).size ?_)
    intro v' w' ho' hg'; have hx' : Ext w w' := (hx.alloc _).app hg' hown (Nat.le_refl _); clear hg'
    go_wp2
    go_ret
    rw [HV.out, ← HE.out]; exact ⟨_, rfl, by simpa using ho', hx'⟩
 ·
  have tr : inR n 0 1000000000000 = false := inR_false.2 hr; have hvo : varOf n = [] := if_neg hr; have HV := Lib.hid hvo; clear hvo
  go_wp2_with fail
  go_ret
  rw [HV.out, List.append_nil]; exact ⟨_, rfl, ho, hx⟩
set_option maxHeartbeats 1000000 in
theorem i_appendInts (l : List Int) (v : Value) (ns : List Int) (vn : Value) (w : World) (hv : RdS Rep.byte w v l) (hn : RdS Rep.int w vn ns) (hl : l.length + 6 * ns.length ≤ 1099511620000) :
  Calls Tryz.prog 174 #[v, vn] w fun e w' => ∃ v', e = .returned v' ∧ RdS Rep.byte w' v' (l ++ encInts ns) ∧ (ns ≠ [] → OwnF byteF 1 w.heap.size 5 w' v' (l ++ encInts ns)) ∧ (ns = [] → v' = v) ∧ Ext w w' := by
 obtain ⟨on, cn, rfl, hsn⟩ := hn.shape
 go_enter Tryz.func174, Tryz.ntmps174
 go_wp2
 go_loopw [0, 9] (fun b i wr => ∃ (k : Nat), k ≤ ns.length ∧ i = .int .i64 k ∧ RdS Rep.byte wr b (l ++ encInts (ns.take k)) ∧ (0 < k → OwnF byteF 1 w.heap.size 5 wr b (l ++ encInts (ns.take k))) ∧ (k = 0 → b = v) ∧ Ext w wr) (fun _ i _ => ns.length - (intOf i).toNat)
 case atStart => exact ⟨0, Nat.zero_le _, rfl, by simpa [encInts] using hv, (fun h => absurd h (by omega)), (fun _ => rfl), Ext.refl _⟩
 case round =>
  obtain ⟨k, hk, rfl, hrd, hown, hnil, hx⟩ := hrel; have HO := Lib.hid hown; clear hown; have HNl := Lib.hid hnil; clear hnil
  by_cases hlt : k < ns.length
  ·
   obtain ⟨b, off, rfl, hc⟩ := ints_at (hn.ext hx) k hlt
   have hen : encInts (ns.take (k + 1)) = encInts (ns.take k) ++ varOf ns[k] := by
    rw [List.take_succ_eq_append_getElem hlt]; simp only [encInts, List.flatMap_append, List.flatMap_cons, List.flatMap_nil, List.append_nil]
   have HE := Lib.hid hen; clear hen; have hle := encInts_len (ns.take k); have hlt2 : (ns.take k).length ≤ k := List.length_take_le _ _; have hbd : (l ++ encInts (ns.take k)).length ≤ 1099511627000 := by simp only [List.length_append]; omega
   obtain ⟨x, hxk⟩ : ∃ x, ns[k] = x := ⟨_, rfl⟩
   rw [hxk] at hc; have Hxk := Lib.hid hxk; clear hxk
   go_wp2_with fail
   refine (i_AppendVarint (l ++ encInts (ns.take k)) _ x _ hrd hbd).mono ?_; rintro e w1 ⟨v1, rfl, o1, h1⟩; have hx1 := hx.trans h1; have o2 := o1.mono hx.size; have he2 : l ++ encInts (ns.take k) ++ varOf x = l ++ encInts (ns.take (k + 1)) := by rw [HE.out, Hxk.out, List.append_assoc]
   rw [he2] at o2; clear he2 o1
   go_wp2_with fail
   go_roundw
   case rel => exact ⟨k + 1, by omega, by go_num, bytes_rep o2, (fun _ => o2), (fun h => absurd h (by omega)), hx1⟩
   case measure => simp [intOf]; omega
  ·
   obtain rfl : k = ns.length := by omega
   go_wp2
   go_ret
   have HO := HO.out; have HNl := HNl.out; rw [List.take_length] at hrd HO; exact ⟨_, rfl, hrd, (fun h => HO (List.length_pos_iff.2 h)), (fun h => HNl (by rw [h]; rfl)), hx⟩
set_option maxHeartbeats 400000 in
theorem i_EncodeInts (ns : List Int) (vn : Value) (w : World) (hn : RdS Rep.int w vn ns) (hl : ns.length ≤ 1048576) :
  Calls Tryz.prog 100 #[vn] w fun e w' => ∃ v', e = .returned v' ∧ OwnF byteF 1 w.heap.size 5 w' v' (encInts ns) ∧ Ext w w' := by
 go_enter Tryz.func100, Tryz.ntmps100
 go_wp2_with fail
 refine (i_appendInts [] _ ns vn _ (RdS.nil _ _) hn (by simp; omega)).mono ?_; rintro e w1 ⟨v1, rfl, r1, o1, n1, h1⟩; have HN := Lib.hid n1; clear n1; have HO := Lib.hid o1; clear o1
 go_wp2_with fail
 go_ret
 refine ⟨_, rfl, ?_, h1⟩
 by_cases hn0 : ns = []
 ·
  subst hn0; rw [HN.out rfl]; exact OwnF.nil _ _ _ _ _
 ·
  have := HO.out hn0; rw [List.nil_append] at this; exact this
set_option maxHeartbeats 1000000 in
theorem s_EncodeInts (ns : List Int) (vn : Value) (w : World) (hn : RdS Rep.int w vn ns) (hl : ns.length ≤ 1048576) :
  Calls Tryz.prog 101 #[vn] w fun e w' => ∃ v', e = .returned v' ∧ OwnF byteF 1 w.heap.size 5 w' v' (encInts ns) ∧ Ext w w' := by
 obtain ⟨on, cn, rfl, hsn⟩ := hn.shape
 go_enter Tryz.func101, Tryz.ntmps101
 go_wp2
 go_loopw [3, 4] (fun b i wr => ∃ (k : Nat), k ≤ ns.length ∧ i = .int .i64 k ∧ OwnF byteF 1 w.heap.size 5 wr b (encInts (ns.take k)) ∧ Ext w wr) (fun _ i _ => ns.length - (intOf i).toNat)
 case atStart => exact ⟨0, Nat.zero_le _, rfl, OwnF.empty _ _ _ _ _ (Nat.le_refl _), (Ext.refl _).alloc _⟩
 case round =>
  obtain ⟨k, hk, rfl, hown, hx⟩ := hrel
  by_cases hlt : k < ns.length
  ·
   obtain ⟨b, off, rfl, hc⟩ := ints_at (hn.ext hx) k hlt
   have hen : encInts (ns.take k) ++ varOf ns[k] = encInts (ns.take (k + 1)) := by
    rw [List.take_succ_eq_append_getElem hlt]; simp only [encInts, List.flatMap_append, List.flatMap_cons, List.flatMap_nil, List.append_nil]
   have HE := Lib.hid hen; clear hen; have hle := encInts_len (ns.take k); have hlt2 : (ns.take k).length ≤ k := List.length_take_le _ _
   obtain ⟨x, hxk⟩ : ∃ x, ns[k] = x := ⟨_, rfl⟩
   rw [hxk] at hc; have Hxk := Lib.hid hxk; clear hxk
   go_wp2_with fail
   refine (s_AppendVarint (encInts (ns.take k)) _ x _ (bytes_rep hown) (by omega)).mono ?_; rintro e w1 ⟨v1, rfl, o1, h1⟩; have hx1 := hx.trans h1; have o2 := o1.mono hx.size; rw [← Hxk.out, HE.out] at o2; clear o1
   go_wp2_with fail
   go_roundw
   case rel => exact ⟨k + 1, by omega, by go_num, o2, hx1⟩
   case measure => simp [intOf]; omega
  ·
   go_wp2
   go_ret
   rw [List.take_of_length_le (by omega)] at hown; exact ⟨_, rfl, hown, hx⟩
end
section
open Go.ChangeShapes Go.WideShapes Go.ChangeAt Go.RowKit Go.Deep
def encRev (x : Revc) : List Int := if validRev x then encInts [x.asn, x.iface, x.till] else []
theorem encRev_len (x : Revc) : (encRev x).length ≤ 4294967296 := by
 unfold encRev
 split
 ·
  have := encInts_len [x.asn, x.iface, x.till]
  simp at this; omega
 ·
  simp
set_option maxHeartbeats 1000000 in
theorem i_EncodeRevocation (x : Revc) (w : World) :
  Calls Tryz.prog 27 #[.agg #[.int .i64 x.asn, .int .i64 x.iface, .int .i64 x.till]] w fun e w' => ∃ v', e = .returned v' ∧ OwnF byteF 1 w.heap.size 5 w' v' (encRev x) ∧ Ext w w' := by
 go_enter Tryz.func27, Tryz.ntmps27
 go_wp2_with fail
 have hB := blk_new w (.cells #[.int .i64 x.asn, .int .i64 x.iface, .int .i64 x.till] 30); have hx0 := (Ext.refl w).alloc (.cells #[.int .i64 x.asn, .int .i64 x.iface, .int .i64 x.till] 30); generalize w.alloc (.cells #[.int .i64 x.asn, .int .i64 x.iface, .int .i64 x.till] 30) = W0 at hB hx0 ⊢
 refine (i_ValidRevocation x _).mono ?_; rintro e w1 ⟨rfl, h1⟩; have hcb := blk3 (h1.block hB); have hx1 := hx0.trans h1; clear hB
 cases hvx : validRev x
 ·
  have he : encRev x = [] := by simp [encRev, hvx]
  have HE := Lib.hid he; clear he
  go_wp2_with fail
  go_ret
  rw [HE.out]; exact ⟨_, rfl, OwnF.nil _ _ _ _ _, hx1⟩
 ·
  have he : encRev x = encInts [x.asn, x.iface, x.till] := by simp [encRev, hvx]
  have HE := Lib.hid he; clear he; have hlit := OwnF.lit intFlen w1.heap.size 3 w1 [x.asn, x.iface, x.till] (Nat.le_refl _) (by simp [maxLen])
  go_wp2_with fail
  refine (i_EncodeInts [x.asn, x.iface, x.till] _ _ (ints_rep hlit) (by simp)).mono ?_; rintro e w2 ⟨v2, rfl, o2, h2⟩; have hx2 := (hx1.alloc _).trans h2; clear hlit
  go_wp2_with fail
  go_ret
  rw [HE.out]; exact ⟨_, rfl, o2.mono (hx1.alloc _).size, hx2⟩
set_option maxHeartbeats 1000000 in
theorem s_EncodeRevocation (x : Revc) (w : World) :
  Calls Tryz.prog 28 #[.agg #[.int .i64 x.asn, .int .i64 x.iface, .int .i64 x.till]] w fun e w' => ∃ v', e = .returned v' ∧ OwnF byteF 1 w.heap.size 5 w' v' (encRev x) ∧ Ext w w' := by
 go_enter Tryz.func28, Tryz.ntmps28
 go_wp2_with fail
 have hB := blk_new w (.cells #[.int .i64 x.asn, .int .i64 x.iface, .int .i64 x.till] 30); have hx0 := (Ext.refl w).alloc (.cells #[.int .i64 x.asn, .int .i64 x.iface, .int .i64 x.till] 30); generalize w.alloc (.cells #[.int .i64 x.asn, .int .i64 x.iface, .int .i64 x.till] 30) = W0 at hB hx0 ⊢
 refine (s_ValidRevocation x _).mono ?_; rintro e w1 ⟨rfl, h1⟩; have hcb := blk3 (h1.block hB); have hx1 := hx0.trans h1; clear hB
 cases hvx : validRev x
 ·
  have he : encRev x = [] := by simp [encRev, hvx]
  have HE := Lib.hid he; clear he
  go_wp2_with fail
  go_ret
  rw [HE.out]; exact ⟨_, rfl, (OwnF.empty byteF 1 w1.heap.size 5 w1 (Nat.le_refl _)).mono hx1.size, hx1.alloc _⟩
 ·
  have he : encRev x = encInts [x.asn, x.iface, x.till] := by simp [encRev, hvx]
  have HE := Lib.hid he; clear he; have hlit := OwnF.lit intFlen w1.heap.size 3 w1 [x.asn, x.iface, x.till] (Nat.le_refl _) (by simp [maxLen])
  go_wp2_with fail
  refine (s_EncodeInts [x.asn, x.iface, x.till] _ _ (ints_rep hlit) (by simp)).mono ?_; rintro e w2 ⟨v2, rfl, o2, h2⟩; have hx2 := (hx1.alloc _).trans h2; clear hlit
  go_wp2_with fail
  go_ret
  rw [HE.out]; exact ⟨_, rfl, o2.mono (hx1.alloc _).size, hx2⟩
end
section
def rvGo (b : List Int) : Nat → Nat → Nat → Int → Int × Int × Bool
  | 0, _, _, _ => (0, 0, false)
  | f + 1, k, a, n =>
    if h : a < b.length then
      if b[a] < 128 then (if (b[a] == 0 && decide (0 < k)) || decide (1000000000000 < n + b[a] % 128 * 2 ^ (7 * k)) then (0, 0, false) else (n + b[a] % 128 * 2 ^ (7 * k), (a : Int) + 1, true))
      else rvGo b f (k + 1) (a + 1) (n + b[a] % 128 * 2 ^ (7 * k))
    else (0, 0, false)
def readVar (b : List Int) (a : Int) : Int × Int × Bool := if a < 0 then (0, 0, false) else rvGo b 6 0 a.toNat 0
theorem rvGo_end {b : List Int} {f k a : Nat} {n : Int} (h : ¬ a < b.length) : rvGo b f k a n = (0, 0, false) := by
 cases f with
 | zero => rfl
 | succ f => unfold rvGo; rw [dif_neg h]
theorem rvGo_more {b : List Int} {f k a : Nat} {n : Int} (h : a < b.length) (hx : ¬ b[a] < 128) : rvGo b (f + 1) k a n = rvGo b f (k + 1) (a + 1) (n + b[a] % 128 * 2 ^ (7 * k)) := by
 rw [rvGo, dif_pos h, if_neg hx]
theorem rvGo_bad {b : List Int} {f k a : Nat} {n : Int} (h : a < b.length) (hx : b[a] < 128) (hb : ((b[a] == 0 && decide (0 < k)) || decide (1000000000000 < n + b[a] % 128 * 2 ^ (7 * k))) = true) : rvGo b (f + 1) k a n = (0, 0, false) := by
 rw [rvGo, dif_pos h, if_pos hx, if_pos hb]
theorem rvGo_ok {b : List Int} {f k a : Nat} {n : Int} (h : a < b.length) (hx : b[a] < 128) (hb : ((b[a] == 0 && decide (0 < k)) || decide (1000000000000 < n + b[a] % 128 * 2 ^ (7 * k))) = false) : rvGo b (f + 1) k a n = (n + b[a] % 128 * 2 ^ (7 * k), (a : Int) + 1, true) := by
 rw [rvGo, dif_pos h, if_pos hx, if_neg (by rw [hb]; decide)]
theorem rvGo_at (b : List Int) : ∀ (f k a : Nat) (n : Int), (rvGo b f k a n).2.2 = true → 0 ≤ (rvGo b f k a n).2.1 ∧ (rvGo b f k a n).2.1 ≤ b.length
 | 0, _, _, _, h => by simp [rvGo] at h
 | f + 1, k, a, n, h => by
  by_cases ha : a < b.length
  ·
   by_cases hx : b[a] < 128
   ·
    cases hb : ((b[a] == 0 && decide (0 < k)) || decide (1000000000000 < n + b[a] % 128 * 2 ^ (7 * k)))
    ·
     rw [rvGo_ok ha hx hb]; constructor <;> (simp only; omega)
    ·
     rw [rvGo_bad ha hx hb] at h; simp at h
   ·
    rw [rvGo_more ha hx] at h ⊢; exact rvGo_at b f _ _ _ h
  ·
   rw [rvGo_end ha] at h; simp at h
theorem readVar_at {b : List Int} {a : Int} (h : (readVar b a).2.2 = true) : 0 ≤ (readVar b a).2.1 ∧ (readVar b a).2.1 ≤ b.length := by
 unfold readVar at h ⊢
 split at h
 ·
  simp at h
 ·
  rename_i ha; rw [if_neg ha]; exact rvGo_at b _ _ _ _ h
def decGo (b : List Int) : Nat → Int → List Int → List Int × Int × Bool
  | 0, a, out => (out, a, true)
  | n + 1, a, out => if (readVar b a).2.2 then decGo b n (readVar b a).2.1 (out ++ [(readVar b a).1]) else ([], 0, false)
def decInts (b : List Int) (a n : Int) : List Int × Int × Bool := if inR n 0 100 && inR a 0 b.length then decGo b n.toNat a [] else ([], 0, false)
theorem decGo_len (b : List Int) : ∀ (n : Nat) (a : Int) (out : List Int), (decGo b n a out).2.2 = true → (decGo b n a out).1.length = out.length + n
 | 0, _, _, _ => rfl
 | n + 1, a, out, h => by
  unfold decGo at h ⊢
  split at h
  ·
   rename_i hr; rw [if_pos hr, decGo_len b n _ _ h, List.length_append]; simp; omega
  ·
   simp at h
theorem decInts_len {b : List Int} {a n : Int} (h : (decInts b a n).2.2 = true) : ((decInts b a n).1.length : Int) = n := by
 unfold decInts at h ⊢
 split at h
 ·
  rename_i hr
  rw [if_pos hr, decGo_len b _ _ _ h]; simp only [Bool.and_eq_true] at hr; have := inR_true.1 hr.1
  simp; omega
 ·
  simp at h
theorem or_add (n y : Int) (k : Nat) (hn : 0 ≤ n) (hk : n < 2 ^ (7 * k)) (hy : 0 ≤ y) (hy2 : y < 128) (hk6 : k < 6) : ((BitVec.ofInt 64 n ||| BitVec.ofInt 64 (y * 2 ^ (7 * k))).toNat : Int) = n + y * 2 ^ (7 * k) := by
 obtain ⟨a, rfl⟩ := Int.eq_ofNat_of_zero_le hn; obtain ⟨c, rfl⟩ := Int.eq_ofNat_of_zero_le hy; have hc : c < 128 := by omega
 have hk' : a < 2 ^ (7 * k) := by exact_mod_cast hk
 have hp : 2 ^ (7 * k) ≤ 2 ^ 35 := Nat.pow_le_pow_right (by decide) (by omega)
 have hm : c * 2 ^ (7 * k) < 128 * 2 ^ 35 := by
  have h1 : c * 2 ^ (7 * k) ≤ c * 2 ^ 35 := Nat.mul_le_mul_left _ hp; omega
 have e1 : (BitVec.ofInt 64 (a : Int)).toNat = a := by
  rw [BitVec.toNat_ofInt]; have : ((a : Int) % ((2 ^ 64 : Nat) : Int)) = a := Int.emod_eq_of_lt (by omega) (by omega); omega
 have e2 : (BitVec.ofInt 64 ((c : Int) * 2 ^ (7 * k))).toNat = c * 2 ^ (7 * k) := by
  rw [BitVec.toNat_ofInt]; have h3 : ((c : Int) * 2 ^ (7 * k)) = ((c * 2 ^ (7 * k) : Nat) : Int) := by push_cast; rfl
  rw [h3]; have : (((c * 2 ^ (7 * k) : Nat) : Int) % ((2 ^ 64 : Nat) : Int)) = ((c * 2 ^ (7 * k) : Nat) : Int) := Int.emod_eq_of_lt (by omega) (by omega); omega
 rw [BitVec.toNat_or, e1, e2]
 have h4 : a ||| c * 2 ^ (7 * k) = a + c * 2 ^ (7 * k) := by
  have := Nat.shiftLeft_add_eq_or_of_lt hk' c; rw [Nat.shiftLeft_eq] at this; rw [Nat.or_comm, ← this, Nat.add_comm]
 rw [h4]
 push_cast
 rfl
end
section
open Go.ChangeShapes Go.WideShapes Go.ChangeAt Go.RowKit Go.Deep
section
variable {P : Program} {w : World} {ops : Array Oper} {rest : List Oper} {o : Oper} {a : Act} {Q : Exit → Act → World → Prop}
theorem appE {t e : TypeId} {n bytes : Nat} (E : Elem P t e n bytes) {α : Type} {f : α → List Value} (hf : ∀ a, (f a).length = n) (h1 : ∀ b, ∀ u ∈ f b, u.oneCell' = true) (hgd : o.guard = none) (s x : Operand)
  (ho : o.op = .call { callee := .builtin .append, args := #[s, x], argTypes := #[t, t] }) {base g : Nat} {vs : Value} (src : List α) (hs : a.eval s = .slice (some ⟨g, 0, none⟩) 0 0) (hown : OwnF f n base e w (.slice (some ⟨g, 0, none⟩) 0 0) [])
  (hx : a.eval x = vs) (hsrc : RdS (Rep.flat n f hf) w vs src) (hl : src.length * bytes ≤ 140737488355328) (hm : src.length ≤ maxLen) (hbase : base ≤ w.heap.size)
  (h : ∀ v' w', OwnF f n base e w' v' src → Ext w w' → wpList P ops Q rest (a.put o.dst v') w') : wpList P ops Q (o :: rest) a w := by
 obtain ⟨oa, cap, rfl, hc1, hc2, hn0, hel⟩ := hsrc
 cases oa with
 | none =>
  have hnil : src = [] := by
   cases src with
   | nil => rfl
   | cons b src => obtain ⟨_, _, _, he, _⟩ := hel 0 (by simp); cases he
  subst hnil; obtain rfl := hn0 rfl; refine wpList_append_own_none hgd s x t ho base e E.i n E.ht E.hi _ 0 [] hs hown hx ?_; exact h _ w hown (Ext.refl _)
 | some ad =>
  refine wpList_append_arg w hgd s x t ho e E.i E.z n bytes E.ht E.hi E.hz E.hsize E.hby E.hzs E.hpos g 0 0 0 [] hs (by simp) (by simp) ad src.length cap (src.flatMap f) hx (flatMap_len hf src) ?_ ?_ ?_ (by simpa using hm) (by simpa using hl) ?_ ?_
  ·
   intro j u hu; have hjl : j < src.length * n := by rw [← flatMap_len hf src]; exact (List.getElem?_eq_some_iff.1 hu).1
   have hk : j / n < src.length := by rw [Nat.div_lt_iff_lt_mul E.hpos]; exact hjl
   have hr := Nat.mod_lt j E.hpos; obtain ⟨b, off, cs, hb, hcell, rfl⟩ := hel (j / n) hk
   cases hb
   have hfm := flatMap_at hf src (j / n) hk (j % n) hr; have hdm : j / n * n + j % n = j := by rw [Nat.mul_comm]; exact Nat.div_add_mod j n
   rw [hdm, hu] at hfm; have := hcell (j % n) u hfm.symm; have hadd : (⟨b, off, none⟩ : Addr).add j = ⟨b, off + j, none⟩ := by unfold Addr.add; split <;> simp_all
   rw [hadd]; rw [← this]
   show _ = w.cell? ⟨b, off + j / n * n + j % n, none⟩
   rw [Nat.add_assoc, hdm]
  ·
   intro u hu; obtain ⟨b, _, hb⟩ := List.mem_flatMap.1 hu; exact h1 b u hb
  ·
   intro hr j hj; rw [flatMap_len hf] at hj; have : src.length = 0 := by omega
   rw [this] at hj; omega
  ·
   intro hr; have h0 : src = [] := List.eq_nil_of_length_eq_zero (by omega); subst h0; exact h _ w hown (Ext.refl _)
  ·
   intro hr v' w' o' g'; refine h v' w' ?_ (Ext.grownNone (Ext.refl _) g')
   have o2 : OwnF f n w.heap.size e w' v' src := by
    unfold OwnF
    simpa using o'
   exact o2.mono hbase
end
end
end Go.Proofs.YtcpfmhgfaliemaaGreat
