/- Part 9 of 28 of what the laws FnNoDoorTwice and FnAuthor need: Contracts of copying hops, parts and paths, program and reference. No condition but the bounds that each theorem names. Contracts of digests, codes and hop fields, program and reference. No condition but the bounds that each theorem names. Contracts of chains of residues, of comparing rows of numbers, and of keys, program and reference. No condition but the bounds that each theorem names. Contracts of the far ends of links, of rows of hop fields and of parts, program and reference. No condition but the bounds that each theorem names. Plain facts on the encoding of numbers: no program. -/
import Derived.Test.YtjmlicmloacmaaaGreatKN7
import Derived.Test.YtjmlicmloacmaaaGreatKN8
import Derived.Test.YtjmlicmloacmaaaGreatKN1
import Derived.Deep.LoopGhost
import Derived.Test.YtjmlicmloacmaaaGreatKN5
import Derived.Laws.BitsAllLaws
import Derived.Laws.BitsLemmas
namespace Go.Proofs.YtjmlicmloacmaaaGreat
section
open Go.ChangeShapes Go.WideShapes Go.ChangeAt Go.RowKit Go.Deep

theorem elemPartC : Nonempty (Elem Tryz.prog 24 47 4 48) := Elem.mk' Tryz.underlying24 Tryz.infoPart rfl (by decide)
theorem part_oneC (x : Part) (o : Option Addr) (n c : Nat) : ∀ u ∈ Part.c x (.slice o n c), u.oneCell' = true := by
  intro u hu
  simp only [Part.c, List.mem_cons, List.not_mem_nil, or_false] at hu
  rcases hu with rfl | rfl | rfl | rfl <;> rfl
theorem take_snocE {α : Type} {l : List α} {k : Nat} (hk : k < l.length) : l.take k ++ [l[k]] = l.take (k + 1) := (List.take_succ_eq_append_getElem hk).symm
set_option maxHeartbeats 400000 in
theorem i_copyHops (l : List Hop) (v : Value) (w : World) (hv : RdS Hop.rep w v l) (hl : l.length ≤ 1048576) :
    Calls Tryz.prog 241 #[v] w fun e w' => ∃ v', e = .returned v' ∧ OwnF Hop.f 5 w.heap.size 44 w' v' l ∧ Ext w w' := by
  obtain ⟨E⟩ := elemHop
  go_enter Tryz.func241, Tryz.ntmps241
  go_wp2_with (at_builtin; refine appS E Hop.flen Hop.one rfl _ _ rfl l rfl (OwnF.empty Hop.f 5 w.heap.size _ w (Nat.le_refl _)) rfl (hv.ext ((Ext.refl _).alloc _)) (by first | omega | (simp; omega)) (by first | (unfold maxLen; omega) | (simp [maxLen]; omega)) (by simp) ?_)
  intro v' w' ho' hg'
  have hx' : Ext w w' := ((Ext.refl w).alloc _).app hg' (OwnF.empty Hop.f 5 w.heap.size 44 w (Nat.le_refl _)) (Nat.le_refl _)
  try rw [List.nil_append] at ho'
  clear hg'
  go_wp2
  go_ret
  exact ⟨_, rfl, ho', hx'⟩

set_option maxRecDepth 100000 in
set_option maxHeartbeats 2000000 in
theorem s_l21Copy (x : Part) (v : Value) (w : World) (r : RdS Hop.rep w v x.hops) (hl : x.hops.length ≤ 1048576) :
    Calls Tryz.prog 243 #[.agg #[.int .i64 x.kind, .int .i64 x.ts, .int .i64 x.beta, v]] w fun e w' => ∃ u, e = .returned (.agg #[.int .i64 x.kind, .int .i64 x.ts, .int .i64 x.beta, u]) ∧ OwnF Hop.f 5 (w.heap.size + 3) 44 w' u x.hops ∧ Ext w w' := by
  obtain ⟨E⟩ := elemHop
  obtain ⟨o, cap, rfl, hsm⟩ := r.shape
  have hx0 := (ext3 w (.cells #[.int .i64 x.kind, .int .i64 x.ts, .int .i64 x.beta, .slice o x.hops.length cap] 47) (.cells #[.int .i64 0, .int .i64 0, .int .i64 0, .slice none 0 0] 47) (.cells #[.int .i64 x.kind, .int .i64 x.ts, .int .i64 x.beta, .slice o x.hops.length cap] 47))
  have hB := al3 w (.cells #[.int .i64 x.kind, .int .i64 x.ts, .int .i64 x.beta, .slice o x.hops.length cap] 47) (.cells #[.int .i64 0, .int .i64 0, .int .i64 0, .slice none 0 0] 47) (.cells #[.int .i64 x.kind, .int .i64 x.ts, .int .i64 x.beta, .slice o x.hops.length cap] 47)
  have HB := Lib.hid hB; clear hB
  have hrx := r.ext (hx0.alloc (.cells #[] 44))
  go_enter Tryz.func243, Tryz.ntmps243
  go_wp2_with (at_builtin; refine appS (v := .slice (some ⟨w.heap.size + 1 + 1 + 1, 0, none⟩) 0 0) (l := []) E Hop.flen Hop.one rfl _ _ rfl x.hops rfl (OwnF.emptyAt (f := Hop.f) (n := 5) (base := w.heap.size + 3) (by simp) (by omega)) rfl hrx (by first | omega | (simp; omega)) (by first | (unfold maxLen; omega) | (simp [maxLen]; omega)) (by simp) ?_)
  intro v' w' ho' hg'
  have hblk (q : Nat) (ob : Obj) (hq : q < w.heap.size + 3) (h : (((w.alloc (.cells #[.int .i64 x.kind, .int .i64 x.ts, .int .i64 x.beta, .slice o x.hops.length cap] 47)).alloc (.cells #[.int .i64 0, .int .i64 0, .int .i64 0, .slice none 0 0] 47)).alloc (.cells #[.int .i64 x.kind, .int .i64 x.ts, .int .i64 x.beta, .slice o x.hops.length cap] 47)).heap[q]? = some ob) : w'.heap[q]? = some ob :=
    (hg'.block q (by simp; omega) (by simp [Value.ownBlock]; omega)).trans (Ext.block ((Ext.refl _).alloc _) h)
  have hb1 := hblk _ _ (by omega) HB.out.2.1
  have hb2 := hblk _ _ (by omega) HB.out.2.2
  have hx' : Ext w w' := (hx0.alloc _).grown hg' (fun k hk => by simp [Value.ownBlock] at hk; omega)
  have hsz : w.heap.size + 3 ≤ w'.heap.size := Nat.le_trans (by simp) hg'.size
  try rw [List.nil_append] at ho'
  clear hg' hblk
  obtain ⟨oo, co, rfl, _⟩ := (OwnF.rd (hf := Hop.flen) ho').shape
  have c1 := blk4 hb1
  have c2 := blk4 hb2
  have g0 := fr_of hb1 0
  have g1 := fr_of hb1 1
  have g2 := fr_of hb1 2
  have g3 := fr_of hb1 3
  have gg := fr_of hb2 3
  clear hb1 hb2
  go_wp2_with fail
  refine bodyPost_ret (v := .agg #[.int .i64 x.kind, .int .i64 x.ts, .int .i64 x.beta, .slice oo x.hops.length co]) (by simp [results, Tryz.results243, go_sem, c1]) rfl ⟨_, rfl, ?_, ?_⟩
  · exact ((((ho'.set (by simp) _).set (by simp) _).set (by simp) _).set (by simp) _).set (by simp) _
  · exact ((((hx'.setCell (by simp; omega) _).setCell (by simp) _).setCell (by simp) _).setCell (by simp) _).setCell (by simp) _

set_option maxRecDepth 100000 in
set_option maxHeartbeats 4000000 in
theorem i_copyPath (x : Pth) (v : Value) (w : World) (r : RdS Part.rep w v x.parts) (hl : x.size ≤ 1048576) :
    Calls Tryz.prog 158 #[.agg #[v]] w fun e w' => ∃ u, e = .returned (.agg #[u]) ∧ Part.own.own (rng w.heap.size w'.heap.size) w' u x.parts ∧ Ext w w' := by
  obtain ⟨ps⟩ := x
  unfold Pth.size at hl
  dsimp only at r hl ⊢
  obtain ⟨o, cap, rfl, hsm⟩ := r.shape
  obtain ⟨E⟩ := elemPartC
  have hx0 := ext2 w (.cells #[.slice o ps.length cap] 26) (.cells #[.slice none 0 0] 26)
  have hB := al3 w (.cells #[.slice o ps.length cap] 26) (.cells #[.slice none 0 0] 26) (.cells #[.slice none 0 0] 26)
  have HB := Lib.hid hB; clear hB
  have HB2 := Lib.hid (al2 w (.cells #[.slice o ps.length cap] 26) (.cells #[.slice none 0 0] 26))
  go_enter Tryz.func158, Tryz.ntmps158
  go_wp2
  go_loopg [9] ps.length (fun gk i wr => ∃ k : Nat, gk + k = ps.length ∧ i = .int .i64 k ∧ (∃ ok ck, Hid (wr.heap[w.heap.size + 1 + 1]? = some (.cells #[.slice ok k ck] 26)) ∧ Part.own.own (rng (w.heap.size + 1 + 1 + 1) wr.heap.size) wr (.slice ok k ck) (ps.take k)) ∧ w.heap.size + 1 + 1 + 1 ≤ wr.heap.size ∧ Ext ((w.alloc (.cells #[.slice o ps.length cap] 26)).alloc (.cells #[.slice none 0 0] 26)) wr)
  case atStart =>
    refine ⟨0, rfl, rfl, ⟨none, 0, Lib.hid HB.out.2.2, ?_⟩, by simp, (Ext.refl _).alloc _⟩
    exact Part.own.mono (Part.own.nil _) (fun b hb => hb.elim)
  case round =>
    obtain ⟨k, hgk, rfl, ⟨ok, ck, HBk, hown⟩, hsw, hx⟩ := hrel
    have hcb := blk1 (hx.block HB2.out.1)
    have hc3 := blk1 HBk.out
    by_cases hlt : k < ps.length
    · obtain ⟨b, off, oh, ch, rfl, hc, hr⟩ := Part.at r k hlt
      have hcx := Part.at_ext (hx0.trans hx) hc
      have hrj := hr.ext (hx0.trans hx)
      clear hc
      have hle := hopsN_le hlt
      have hg' : gk - 1 + (k + 1) = ps.length ∧ gk - 1 < gk := by omega
      have HG := Lib.hid hg'; clear hg' hgk
      have htl : (ps.take k).length = k := by simp; omega
      have hln : (ps.take k).length + 1 ≤ 1048577 := by omega
      have HE := Lib.hid (take_snocE hlt)
      generalize ps.take k = out at *
      have hxa : Ext wr (wr.alloc (.cells #[.int .i64 ps[k].kind, .int .i64 ps[k].ts, .int .i64 ps[k].beta, .slice oh ps[k].hops.length ch] 47)) := (Ext.refl _).alloc _
      have HX := Lib.hid (blk_new wr (.cells #[.int .i64 ps[k].kind, .int .i64 ps[k].ts, .int .i64 ps[k].beta, .slice oh ps[k].hops.length ch] 47))
      go_wp2_with fail
      refine (i_copyHops ps[k].hops _ _ (hrj.ext hxa) (by omega)).mono ?_
      rintro e w1 ⟨u, rfl, ou, h1⟩
      obtain ⟨oo, co, rfl, _⟩ := (OwnF.rd (hf := Hop.flen) ou).shape
      have hbx := h1.block HX.out
      have hck := blk1 (Ext.block (hxa.trans h1) HBk.out)
      have hcX := blk4 hbx
      have fX := fr_of hbx 3
      have hs1 : wr.heap.size < w1.heap.size := blk_lt hbx
      have ous := ou.set (p := ⟨wr.heap.size, 3, none⟩) (by simp) (.slice oo ps[k].hops.length co)
      have hxs : Ext wr (w1.setCell ⟨wr.heap.size, 3, none⟩ (.slice oo ps[k].hops.length co)) := (hxa.trans h1).setCell (by simp) _
      have hbk := Ext.block (hxs.alloc (.cells #[.int .i64 ps[k].kind, .int .i64 ps[k].ts, .int .i64 ps[k].beta, .slice oo ps[k].hops.length co] 47)) HBk.out
      have HBK := Lib.hid hbk; clear hbk hbx ou
      have hnew := blk_new (w1.setCell ⟨wr.heap.size, 3, none⟩ (.slice oo ps[k].hops.length co)) (.cells #[.int .i64 ps[k].kind, .int .i64 ps[k].ts, .int .i64 ps[k].beta, .slice oo ps[k].hops.length co] 47)
      rw [show (w1.setCell ⟨wr.heap.size, 3, none⟩ (.slice oo ps[k].hops.length co)).heap.size = w1.heap.size from by simp] at hnew
      have HNEW := Lib.hid hnew; clear hnew
      go_wp2_with (at_builtin; refine appN (lo := w.heap.size + 1 + 1 + 1) (w0 := wr) (c := Part.c) (hc := Part.clen) (sub := (·.hops)) (I := Own.flat Hop.f 5 Hop.flen 44) E rfl _ _ rfl ps[k] (.slice oo ps[k].hops.length co) (rng (wr.heap.size + 1) w1.heap.size) (part_oneC _ _ _ _) rfl hown (hxs.alloc _) (Own.ext (O := Own.flat Hop.f 5 Hop.flen 44) (Own.mono _ (Own.ofF (hf := Hop.flen) ous) (fun q hq => ⟨by have := hq.1; simpa using this, by have := hq.2; simpa using this⟩)) ((Ext.refl _).alloc _)) (fun q hq => ⟨by have := hq.1; omega, by have := hq.2; simp; omega⟩) hsw rfl (by exact blk_list (Part.c ps[k] (.slice oo ps[k].hops.length co)) HNEW.out) (by omega) (by unfold maxLen; omega) ?_)
      intro v' w' ho' hg' hvlo
      have hx' := ((hx.trans hxs).alloc _).grown hg' (fun q hq => Nat.le_trans (by simp) (hvlo q hq))
      have hb3' := (hg'.block (w.heap.size + 1 + 1) (blk_lt HBK.out) (fun e => by have := hvlo _ e.symm; omega)).trans HBK.out
      rw [HE.out] at ho'
      obtain ⟨on, cn, hve, _⟩ := (Part.ord ho').shape
      rw [show (ps.take (k + 1)).length = k + 1 from by simp; omega] at hve
      subst hve
      have c3' := blk1 hb3'
      have f3' := fr_of hb3' 0
      have hb4 := blk_set hb3' 0 (.slice on (k + 1) cn)
      simp only [List.setIfInBounds_toArray, List.set_cons_zero] at hb4
      have HB4 := Lib.hid hb4; clear hb4 hb3'
      have hx4 := hx'.setCell (p := ⟨w.heap.size + 1 + 1, 0, none⟩) (by simp) (.slice on (k + 1) cn)
      have HO4 := Lib.hid (Own.kept Part.own ho' (⟨rfl, rfl, rfl, by simp [World.setCell], fun q hq hn => Below.heap_setCell _ _ _ _ hn⟩ : Chg (fun q => q = w.heap.size + 1 + 1) w' (w'.setCell ⟨w.heap.size + 1 + 1, 0, none⟩ (.slice on (k + 1) cn))) (fun q hq e => by have := hq.1; omega))
      have hsw' : w.heap.size + 1 + 1 + 1 ≤ w'.heap.size := Nat.le_trans hsw (Nat.le_trans (hxs.alloc _ : Ext wr _).size hg'.size)
      clear hg' ho' hvlo
      go_wp2_with fail
      go_roundg (gk - 1)
      case measure => exact HG.out.2
      case rel => exact ⟨k + 1, HG.out.1, by go_num, ⟨on, cn, HB4, by simpa using HO4.out⟩, by simpa using hsw', hx4⟩
    · rw [List.take_of_length_le (by omega)] at hown
      have hcr := blk1 (hx.block HB2.out.2)
      have g0 := fr_of (hx.block HB2.out.2) 0
      go_wp2
      refine bodyPost_ret (v := .agg #[.slice ok k ck]) (by simp [results, Tryz.results158, go_sem, hcr]) rfl ⟨_, rfl, ?_, ?_⟩
      · refine Part.own.mono (Own.kept Part.own hown (⟨rfl, rfl, rfl, by simp [World.setCell], fun q hq hn => Below.heap_setCell _ _ _ _ hn⟩ : Chg (fun q => q = w.heap.size + 1) wr (wr.setCell ⟨w.heap.size + 1, 0, none⟩ (.slice ok k ck))) (fun q hq e => by have := hq.1; omega)) (fun q hq => ⟨by have := hq.1; omega, by simpa using hq.2⟩)
      · exact (hx0.trans hx).setCell (by simp) _

set_option maxRecDepth 100000 in
set_option maxHeartbeats 4000000 in
theorem s_l22Copy (x : Pth) (v : Value) (w : World) (r : RdS Part.rep w v x.parts) (hl : x.size ≤ 1048576) :
    Calls Tryz.prog 187 #[.agg #[v]] w fun e w' => ∃ u, e = .returned (.agg #[u]) ∧ Part.own.own (rng w.heap.size w'.heap.size) w' u x.parts ∧ Ext w w' := by
  obtain ⟨ps⟩ := x
  unfold Pth.size at hl
  dsimp only at r hl ⊢
  obtain ⟨o, cap, rfl, hsm⟩ := r.shape
  obtain ⟨E⟩ := elemPartC
  have hx0 := ext2 w (.cells #[.slice o ps.length cap] 26) (.cells #[.slice none 0 0] 26)
  have hB := al3 w (.cells #[.slice o ps.length cap] 26) (.cells #[.slice none 0 0] 26) (.cells #[.slice none 0 0] 26)
  have HB := Lib.hid hB; clear hB
  have HB2 := Lib.hid (al2 w (.cells #[.slice o ps.length cap] 26) (.cells #[.slice none 0 0] 26))
  go_enter Tryz.func187, Tryz.ntmps187
  go_wp2
  go_loopg [4] ps.length (fun gk i wr => ∃ k : Nat, gk + k = ps.length ∧ i = .int .i64 k ∧ (∃ ok ck, Hid (wr.heap[w.heap.size + 1 + 1]? = some (.cells #[.slice ok k ck] 26)) ∧ Part.own.own (rng (w.heap.size + 1 + 1 + 1) wr.heap.size) wr (.slice ok k ck) (ps.take k)) ∧ w.heap.size + 1 + 1 + 1 ≤ wr.heap.size ∧ Ext ((w.alloc (.cells #[.slice o ps.length cap] 26)).alloc (.cells #[.slice none 0 0] 26)) wr)
  case atStart =>
    refine ⟨0, rfl, rfl, ⟨none, 0, Lib.hid HB.out.2.2, ?_⟩, by simp, (Ext.refl _).alloc _⟩
    exact Part.own.mono (Part.own.nil _) (fun b hb => hb.elim)
  case round =>
    obtain ⟨k, hgk, rfl, ⟨ok, ck, HBk, hown⟩, hsw, hx⟩ := hrel
    have hcb := blk1 (hx.block HB2.out.1)
    have hc3 := blk1 HBk.out
    by_cases hlt : k < ps.length
    · obtain ⟨b, off, oh, ch, rfl, hc, hr⟩ := Part.at r k hlt
      have hcx := Part.at_ext (hx0.trans hx) hc
      have hrj := hr.ext (hx0.trans hx)
      clear hc
      have hle := hopsN_le hlt
      have hg' : gk - 1 + (k + 1) = ps.length ∧ gk - 1 < gk := by omega
      have HG := Lib.hid hg'; clear hg' hgk
      have htl : (ps.take k).length = k := by simp; omega
      have hln : (ps.take k).length + 1 ≤ 1048577 := by omega
      have HE := Lib.hid (take_snocE hlt)
      generalize ps.take k = out at *
      go_wp2_with fail
      refine (s_l21Copy ps[k] _ _ hrj (by omega)).mono ?_
      rintro e w1 ⟨u, rfl, ou, h1⟩
      obtain ⟨oo, co, rfl, _⟩ := (OwnF.rd (hf := Hop.flen) ou).shape
      have hbb := al2 w1 (.cells #[.int .i64 ps[k].kind, .int .i64 ps[k].ts, .int .i64 ps[k].beta, .slice oo ps[k].hops.length co] 47) (.cells #[.int .i64 ps[k].kind, .int .i64 ps[k].ts, .int .i64 ps[k].beta, .slice oo ps[k].hops.length co] 47)
      have HBB := Lib.hid hbb; clear hbb
      have hck := blk1 (Ext.block h1 HBk.out)
      have hck2 := blk1 (Ext.block (h1.alloc (.cells #[.int .i64 ps[k].kind, .int .i64 ps[k].ts, .int .i64 ps[k].beta, .slice oo ps[k].hops.length co] 47)) HBk.out)
      have hxs : Ext wr (w1.alloc (.cells #[.int .i64 ps[k].kind, .int .i64 ps[k].ts, .int .i64 ps[k].beta, .slice oo ps[k].hops.length co] 47)) := h1.alloc _
      have hbk := Ext.block (hxs.alloc (.cells #[.int .i64 ps[k].kind, .int .i64 ps[k].ts, .int .i64 ps[k].beta, .slice oo ps[k].hops.length co] 47)) HBk.out
      have HBK := Lib.hid hbk; clear hbk
      have ous := Own.mono _ (Own.ofF (hf := Hop.flen) ou) (T := rng wr.heap.size w1.heap.size) (fun q hq => ⟨by have := hq.1; omega, hq.2⟩)
      go_wp2_with (at_builtin; refine appN (lo := w.heap.size + 1 + 1 + 1) (w0 := wr) (c := Part.c) (hc := Part.clen) (sub := (·.hops)) (I := Own.flat Hop.f 5 Hop.flen 44) E rfl _ _ rfl ps[k] (.slice oo ps[k].hops.length co) (rng wr.heap.size w1.heap.size) (part_oneC _ _ _ _) rfl hown (hxs.alloc _) (Own.ext (O := Own.flat Hop.f 5 Hop.flen 44) ous (((Ext.refl _).alloc _).alloc _)) (fun q hq => ⟨hq.1, by have := hq.2; simp; omega⟩) hsw rfl (by exact blk_list (Part.c ps[k] (.slice oo ps[k].hops.length co)) (blk_new2 w1 _ _)) (by omega) (by unfold maxLen; omega) ?_)
      intro v' w' ho' hg' hvlo
      have hx' := ((hx.trans hxs).alloc _).grown hg' (fun q hq => Nat.le_trans (by simp) (hvlo q hq))
      have hb3' := (hg'.block (w.heap.size + 1 + 1) (blk_lt HBK.out) (fun e => by have := hvlo _ e.symm; omega)).trans HBK.out
      rw [HE.out] at ho'
      obtain ⟨on, cn, hve, _⟩ := (Part.ord ho').shape
      rw [show (ps.take (k + 1)).length = k + 1 from by simp; omega] at hve
      subst hve
      have c3' := blk1 hb3'
      have f3' := fr_of hb3' 0
      have hb4 := blk_set hb3' 0 (.slice on (k + 1) cn)
      simp only [List.setIfInBounds_toArray, List.set_cons_zero] at hb4
      have HB4 := Lib.hid hb4; clear hb4 hb3'
      have hx4 := hx'.setCell (p := ⟨w.heap.size + 1 + 1, 0, none⟩) (by simp) (.slice on (k + 1) cn)
      have HO4 := Lib.hid (Own.kept Part.own ho' (⟨rfl, rfl, rfl, by simp [World.setCell], fun q hq hn => Below.heap_setCell _ _ _ _ hn⟩ : Chg (fun q => q = w.heap.size + 1 + 1) w' (w'.setCell ⟨w.heap.size + 1 + 1, 0, none⟩ (.slice on (k + 1) cn))) (fun q hq e => by have := hq.1; omega))
      have hsw' : w.heap.size + 1 + 1 + 1 ≤ w'.heap.size := Nat.le_trans hsw (Nat.le_trans (hxs.alloc _ : Ext wr _).size hg'.size)
      clear hg' ho' hvlo
      go_wp2_with fail
      go_roundg (gk - 1)
      case measure => exact HG.out.2
      case rel => exact ⟨k + 1, HG.out.1, by go_num, ⟨on, cn, HB4, by simpa using HO4.out⟩, by simpa using hsw', hx4⟩
    · rw [List.take_of_length_le (by omega)] at hown
      have hcr := blk1 (hx.block HB2.out.2)
      have g0 := fr_of (hx.block HB2.out.2) 0
      go_wp2
      refine bodyPost_ret (v := .agg #[.slice ok k ck]) (by simp [results, Tryz.results187, go_sem, hcr]) rfl ⟨_, rfl, ?_, ?_⟩
      · refine Part.own.mono (Own.kept Part.own hown (⟨rfl, rfl, rfl, by simp [World.setCell], fun q hq hn => Below.heap_setCell _ _ _ _ hn⟩ : Chg (fun q => q = w.heap.size + 1) wr (wr.setCell ⟨w.heap.size + 1, 0, none⟩ (.slice ok k ck))) (fun q hq e => by have := hq.1; omega)) (fun q hq => ⟨by have := hq.1; omega, by simpa using hq.2⟩)
      · exact (hx0.trans hx).setCell (by simp) _

end
section
open Go.ChangeShapes Go.WideShapes Go.ChangeAt Go.RowKit Go.Deep

theorem ExtW.out {w w1 : World} (h : ∃ x : ExtW w, w1 = x.w') : Ext w w1 := by obtain ⟨y, rfl⟩ := h; exact y.h
theorem tmod_bd (n : Int) : -2147483647 < n.tmod 2147483647 ∧ n.tmod 2147483647 < 2147483647 := by
  rw [Int.tmod_eq_emod]; split <;> omega
theorem mod_pos (n : Int) : (n.tmod 2147483647 + 2147483647) % 2147483647 = n % 2147483647 := by
  rw [Int.add_emod_right, Int.tmod_eq_emod]
  split <;> omega
theorem mod_pos' (n : Int) : (n.tmod 2147483647 + 2147483647).tmod 2147483647 = n % 2147483647 := by
  have := tmod_bd n
  rw [Int.tmod_eq_emod_of_nonneg (by omega)]; exact mod_pos n
theorem digest_snoc {l : List Int} {k : Nat} (hk : k < l.length) : digest (l.take (k + 1)) = digStep (digest (l.take k)) l[k] := by
  unfold digest; rw [List.take_succ_eq_append_getElem hk, List.foldl_append]; rfl
theorem digest_res (l : List Int) : 0 ≤ digest l ∧ digest l ≤ 2147483646 := by
  rcases List.eq_nil_or_concat l with rfl | ⟨l', x, rfl⟩
  · exact ⟨by decide, by decide⟩
  · unfold digest; rw [List.concat_eq_append, List.foldl_append]; exact digStep_res _ x

set_option maxHeartbeats 400000 in
theorem i_Mod (n : Int) (w : World) :
    Calls Tryz.prog 299 #[.int .i64 n, .int .i64 2147483647] w fun e w' => e = .returned (.int .i64 (n % 2147483647)) ∧ w = w' := by
  go_enter Tryz.func299, Tryz.ntmps299

  have hb := tmod_bd n
  obtain ⟨hb1, hb2⟩ := hb
  have HM := Lib.hid (mod_pos n)
  have HM2 := Lib.hid (mod_pos' n)
  go_wp2_with (go_at_call 170; refine (i_InRange _ _ _ _).mono ?_; rintro e w' ⟨rfl, rfl⟩)
  all_goals
    first
    | (go_ret; first | exact ⟨ret_int HM.out, rfl⟩ | exact ⟨ret_int HM2.out, rfl⟩)
    | (exfalso; rename_i h; revert h; decide)

set_option maxHeartbeats 400000 in
theorem s_Mod (n : Int) (w : World) :
    Calls Tryz.prog 309 #[.int .i64 n, .int .i64 2147483647] w fun e w' => e = .returned (.int .i64 (n % 2147483647)) ∧ w = w' := by
  go_enter Tryz.func309, Tryz.ntmps309

  have hb := tmod_bd n
  obtain ⟨hb1, hb2⟩ := hb
  have HM := Lib.hid (mod_pos n)
  have HM2 := Lib.hid (mod_pos' n)
  go_wp2_with (go_at_call 196; refine (s_l1In _ _ _ _).mono ?_; rintro e w' ⟨rfl, rfl⟩)
  all_goals
    first
    | (go_ret; first | exact ⟨ret_int HM.out, rfl⟩ | exact ⟨ret_int HM2.out, rfl⟩)
    | (exfalso; rename_i h; revert h; decide)

set_option maxHeartbeats 1000000 in
theorem i_Digest (l : List Int) (v : Value) (w : World) (hv : RdS Rep.int w v l) :
    Calls Tryz.prog 273 #[v] w fun e w' => e = .returned (.int .i64 (digest l)) ∧ w = w' := by
  obtain ⟨o, cap, rfl, hsm⟩ := hv.shape
  go_enter Tryz.func273, Tryz.ntmps273

  go_wp2
  go_loop [3, 8] (fun d i => ∃ k : Nat, k ≤ l.length ∧ i = .int .i64 k ∧ d = .int .i64 (digest (l.take k))) (fun _ i => l.length - (intOf i).toNat)
  case atStart => exact ⟨0, Nat.zero_le _, rfl, rfl⟩
  case round =>
    obtain ⟨k, hk, rfl, rfl⟩ := hrel
    by_cases hlt : k < l.length
    · obtain ⟨b, off, rfl, hc⟩ := ints_at hv k hlt
      have HS := Lib.hid (digest_snoc hlt)
      obtain ⟨d1, d2⟩ := digest_res (l.take k)
      generalize digest (l.take k) = d at *
      go_wp2_with fail
      refine (i_Mod l[k] _).mono ?_
      rintro e w' ⟨rfl, rfl⟩
      have hm1 : 0 ≤ l[k] % 2147483647 := by omega
      have hm2 : l[k] % 2147483647 < 2147483647 := by omega
      go_wp2_with fail
      go_round
      case rel => exact ⟨k + 1, by omega, by go_num, by rw [HS.out]; rfl⟩
      case measure => simp [intOf]; omega
    · go_wp2
      go_ret
      exact ⟨ret_int (by rw [List.take_of_length_le (by omega)]), rfl⟩

set_option maxHeartbeats 1000000 in
theorem s_Digest (l : List Int) (v : Value) (w : World) (hv : RdS Rep.int w v l) :
    Calls Tryz.prog 298 #[v] w fun e w' => e = .returned (.int .i64 (digest l)) ∧ w = w' := by
  obtain ⟨o, cap, rfl, hsm⟩ := hv.shape
  go_enter Tryz.func298, Tryz.ntmps298

  go_wp2
  go_loop [3, 4] (fun d i => ∃ k : Nat, k ≤ l.length ∧ i = .int .i64 k ∧ d = .int .i64 (digest (l.take k))) (fun _ i => l.length - (intOf i).toNat)
  case atStart => exact ⟨0, Nat.zero_le _, rfl, rfl⟩
  case round =>
    obtain ⟨k, hk, rfl, rfl⟩ := hrel
    by_cases hlt : k < l.length
    · obtain ⟨b, off, rfl, hc⟩ := ints_at hv k hlt
      have HS := Lib.hid (digest_snoc hlt)
      obtain ⟨d1, d2⟩ := digest_res (l.take k)
      generalize digest (l.take k) = d at *
      go_wp2_with fail
      refine (s_Mod l[k] _).mono ?_
      rintro e w' ⟨rfl, rfl⟩
      have hm1 : 0 ≤ l[k] % 2147483647 := by omega
      have hm2 : l[k] % 2147483647 < 2147483647 := by omega
      go_wp2_with fail
      go_round
      case rel => exact ⟨k + 1, by omega, by go_num, by rw [HS.out]; rfl⟩
      case measure => simp [intOf]; omega
    · go_wp2
      go_ret
      exact ⟨ret_int (by rw [List.take_of_length_le (by omega)]), rfl⟩

set_option maxHeartbeats 1000000 in
theorem i_ComputeMAC (key : Int) (l : List Int) (v : Value) (w : World) (hv : RdS Rep.int w v l) (hl : l.length ≤ 1048576) :
    Calls Tryz.prog 232 #[.int .i64 key, v] w fun e w' => e = .returned (.int .i64 (macOf key l)) ∧ Ext w w' := by
  obtain ⟨E⟩ := elemInt
  obtain ⟨o, cap, rfl, hsm⟩ := hv.shape
  have h1 : Ext w (w.alloc (.cells #[.int .i64 key] 3)) := (Ext.refl _).alloc _
  have ho1 := OwnF.lit (f := intF) intFlen w.heap.size 3 w [key] (Nat.le_refl _) (by simp [maxLen])
  have hr1 := hv.ext h1
  go_enter Tryz.func232, Tryz.ntmps232

  go_wp2_with (at_builtin; refine appS E intFlen intOne rfl _ _ rfl l rfl ho1 rfl hr1 (by simp; omega) (by simp [maxLen]; omega) (by simp) ?_)
  intro v2 w2 ho2 hg2
  have h2 : Ext w w2 := h1.app hg2 ho1 (Nat.le_refl _)
  have h3 : Ext w2 (w2.alloc (.cells #[.int .i64 key] 3)) := (Ext.refl _).alloc _
  clear hg2 hr1
  go_wp2_with (at_builtin; refine app1 E intFlen intOne rfl _ _ rfl key rfl (ho2.ext h3) rfl (by exact blk_list (intF key) (blk_new w2 _)) (by simp; omega) (by simp [maxLen]; omega) (by exact (h2.trans h3).size) ?_)
  intro v4 w4 ho4 hg4
  have h4 : Ext w w4 := (h2.trans h3).app hg4 ho2 (Nat.le_refl _)
  clear hg4
  go_wp2_with fail
  refine (i_Digest _ _ _ (ints_rep ho4)).mono ?_
  rintro e w5 ⟨rfl, rfl⟩
  go_wp2_with fail
  go_ret
  exact ⟨rfl, h4⟩

set_option maxHeartbeats 1000000 in
theorem s_ComputeMAC (key : Int) (l : List Int) (v : Value) (w : World) (hv : RdS Rep.int w v l) (hl : l.length ≤ 1048576) :
    Calls Tryz.prog 272 #[.int .i64 key, v] w fun e w' => e = .returned (.int .i64 (macOf key l)) ∧ Ext w w' := by
  obtain ⟨E⟩ := elemInt
  obtain ⟨o, cap, rfl, hsm⟩ := hv.shape
  have h1 : Ext w (w.alloc (.cells #[.int .i64 key] 3)) := (Ext.refl _).alloc _
  have ho1 := OwnF.lit (f := intF) intFlen w.heap.size 3 w [key] (Nat.le_refl _) (by simp [maxLen])
  have hr1 := hv.ext h1
  go_enter Tryz.func272, Tryz.ntmps272

  go_wp2_with (at_builtin; refine appS E intFlen intOne rfl _ _ rfl l rfl ho1 rfl hr1 (by simp; omega) (by simp [maxLen]; omega) (by simp) ?_)
  intro v2 w2 ho2 hg2
  have h2 : Ext w w2 := h1.app hg2 ho1 (Nat.le_refl _)
  have h3 : Ext w2 (w2.alloc (.cells #[.int .i64 key] 3)) := (Ext.refl _).alloc _
  clear hg2 hr1
  go_wp2_with (at_builtin; refine app1 E intFlen intOne rfl _ _ rfl key rfl (ho2.ext h3) rfl (by exact blk_list (intF key) (blk_new w2 _)) (by simp; omega) (by simp [maxLen]; omega) (by exact (h2.trans h3).size) ?_)
  intro v4 w4 ho4 hg4
  have h4 : Ext w w4 := (h2.trans h3).app hg4 ho2 (Nat.le_refl _)
  clear hg4
  go_wp2_with fail
  refine (s_Digest _ _ _ (ints_rep ho4)).mono ?_
  rintro e w5 ⟨rfl, rfl⟩
  go_wp2_with fail
  go_ret
  exact ⟨rfl, h4⟩

set_option maxHeartbeats 400000 in
theorem i_HopMAC (key ts beta : Int) (h : Hop) (w : World) :
    Calls Tryz.prog 145 #[.int .i64 key, .int .i64 ts, .int .i64 beta, .agg #[.int .i64 h.asn, .int .i64 h.ing, .int .i64 h.eg, .int .i64 h.exp, .int .i64 h.mac]] w fun e w' => e = .returned (.int .i64 (hopMac key ts beta h)) ∧ Ext w w' := by
  have h1 : Ext w (w.alloc (.cells #[.int .i64 h.asn, .int .i64 h.ing, .int .i64 h.eg, .int .i64 h.exp, .int .i64 h.mac] 44)) := (Ext.refl _).alloc _
  have ho1 := OwnF.lit (f := intF) intFlen 0 3 (w.alloc (.cells #[.int .i64 h.asn, .int .i64 h.ing, .int .i64 h.eg, .int .i64 h.exp, .int .i64 h.mac] 44)) [ts, beta, h.asn, h.ing, h.eg, h.exp] (Nat.zero_le _) (by simp [maxLen])
  have h2 := h1.alloc (.cells #[.int .i64 ts, .int .i64 beta, .int .i64 h.asn, .int .i64 h.ing, .int .i64 h.eg, .int .i64 h.exp] 3)
  have hr : RdS Rep.int ((w.alloc (.cells #[.int .i64 h.asn, .int .i64 h.ing, .int .i64 h.eg, .int .i64 h.exp, .int .i64 h.mac] 44)).alloc (.cells #[.int .i64 ts, .int .i64 beta, .int .i64 h.asn, .int .i64 h.ing, .int .i64 h.eg, .int .i64 h.exp] 3)) (.slice (some ⟨w.heap.size + 1, 0, none⟩) 6 6) [ts, beta, h.asn, h.ing, h.eg, h.exp] := by
    have h := ints_rep ho1
    rw [nblk_alloc] at h
    exact h
  clear ho1
  go_enter Tryz.func145, Tryz.ntmps145

  go_wp2_with fail
  refine (i_ComputeMAC key [ts, beta, h.asn, h.ing, h.eg, h.exp] _ _ hr (by simp)).mono ?_
  rintro e w3 ⟨rfl, h3⟩
  go_wp2_with fail
  go_ret
  exact ⟨rfl, h2.trans h3⟩

set_option maxHeartbeats 400000 in
theorem s_HopMAC (key ts beta : Int) (h : Hop) (w : World) :
    Calls Tryz.prog 230 #[.int .i64 key, .int .i64 ts, .int .i64 beta, .agg #[.int .i64 h.asn, .int .i64 h.ing, .int .i64 h.eg, .int .i64 h.exp, .int .i64 h.mac]] w fun e w' => e = .returned (.int .i64 (hopMac key ts beta h)) ∧ Ext w w' := by
  have h1 : Ext w (w.alloc (.cells #[.int .i64 h.asn, .int .i64 h.ing, .int .i64 h.eg, .int .i64 h.exp, .int .i64 h.mac] 44)) := (Ext.refl _).alloc _
  have ho1 := OwnF.lit (f := intF) intFlen 0 3 (w.alloc (.cells #[.int .i64 h.asn, .int .i64 h.ing, .int .i64 h.eg, .int .i64 h.exp, .int .i64 h.mac] 44)) [ts, beta, h.asn, h.ing, h.eg, h.exp] (Nat.zero_le _) (by simp [maxLen])
  have h2 := h1.alloc (.cells #[.int .i64 ts, .int .i64 beta, .int .i64 h.asn, .int .i64 h.ing, .int .i64 h.eg, .int .i64 h.exp] 3)
  have hr : RdS Rep.int ((w.alloc (.cells #[.int .i64 h.asn, .int .i64 h.ing, .int .i64 h.eg, .int .i64 h.exp, .int .i64 h.mac] 44)).alloc (.cells #[.int .i64 ts, .int .i64 beta, .int .i64 h.asn, .int .i64 h.ing, .int .i64 h.eg, .int .i64 h.exp] 3)) (.slice (some ⟨w.heap.size + 1, 0, none⟩) 6 6) [ts, beta, h.asn, h.ing, h.eg, h.exp] := by
    have h := ints_rep ho1
    rw [nblk_alloc] at h
    exact h
  clear ho1
  go_enter Tryz.func230, Tryz.ntmps230

  go_wp2_with fail
  refine (s_ComputeMAC key [ts, beta, h.asn, h.ing, h.eg, h.exp] _ _ hr (by simp)).mono ?_
  rintro e w3 ⟨rfl, h3⟩
  go_wp2_with fail
  go_ret
  exact ⟨rfl, h2.trans h3⟩

set_option maxHeartbeats 1000000 in
theorem i_ValidHop (h : Hop) (w : World) :
    Calls Tryz.prog 143 #[.agg #[.int .i64 h.asn, .int .i64 h.ing, .int .i64 h.eg, .int .i64 h.exp, .int .i64 h.mac]] w fun e w' => e = .returned (.bool (validHop h)) ∧ Ext w w' := by
  go_enter Tryz.func143, Tryz.ntmps143

  go_wp2_with (first | (go_at_call 170; refine (i_InRange _ _ _ _).mono ?_; rintro e w' ⟨rfl, rfl⟩) | (go_at_call 142; refine (i_isResidue _ _).mono ?_; rintro e w' ⟨rfl, rfl⟩))
  all_goals
    go_ret
    refine ⟨ret_bool ?_, (Ext.refl _).alloc _⟩
    simp [validHop, *]


set_option maxHeartbeats 400000 in
theorem i_isAS (t : Topo) (v1 v2 : Value) (r : Int) (w : World) (ha : RdS ASd.rep w v1 t.ases) :
    Calls Tryz.prog 144 #[.agg #[v1, v2], .int .i64 r] w fun e w' => e = .returned (.bool (isAs t r)) ∧ Ext w w' := by
  obtain ⟨o, cap, rfl, hsm⟩ := ha.shape
  go_enter Tryz.func144, Tryz.ntmps144

  go_wp2_with (go_at_call 170; refine (i_InRange _ _ _ _).mono ?_; rintro e w' ⟨rfl, rfl⟩)
  go_ret
  exact ⟨rfl, (Ext.refl _).alloc _⟩

set_option maxHeartbeats 400000 in
theorem s_l5Realm (t : Topo) (v1 v2 : Value) (r : Int) (w : World) (ha : RdS ASd.rep w v1 t.ases) :
    Calls Tryz.prog 229 #[.agg #[v1, v2], .int .i64 r] w fun e w' => e = .returned (.bool (isAs t r)) ∧ Ext w w' := by
  obtain ⟨o, cap, rfl, hsm⟩ := ha.shape
  go_enter Tryz.func229, Tryz.ntmps229

  go_wp2_with (go_at_call 196; refine (s_l1In _ _ _ _).mono ?_; rintro e w' ⟨rfl, rfl⟩)
  go_ret
  exact ⟨rfl, (Ext.refl _).alloc _⟩

set_option maxRecDepth 100000 in
set_option maxHeartbeats 2000000 in
theorem i_VerifyHop (t : Topo) (v1 v2 : Value) (ts beta : Int) (h : Hop) (w : World) (ha : RdS ASd.rep w v1 t.ases) :
    Calls Tryz.prog 26 #[.agg #[v1, v2], .int .i64 ts, .int .i64 beta, .agg #[.int .i64 h.asn, .int .i64 h.ing, .int .i64 h.eg, .int .i64 h.exp, .int .i64 h.mac]] w fun e w' => e = .returned (.bool (verHop t ts beta h)) ∧ Ext w w' := by
  obtain ⟨o, cap, rfl, hsm⟩ := ha.shape
  have hx0 := ext2 w (.cells #[.slice o t.ases.length cap, v2] 33) (.cells #[.int .i64 h.asn, .int .i64 h.ing, .int .i64 h.eg, .int .i64 h.exp, .int .i64 h.mac] 44)
  have HB := Lib.hid (al2 w (.cells #[.slice o t.ases.length cap, v2] 33) (.cells #[.int .i64 h.asn, .int .i64 h.ing, .int .i64 h.eg, .int .i64 h.exp, .int .i64 h.mac] 44))
  go_enter Tryz.func26, Tryz.ntmps26

  go_wp2
  have hc1 := blk2 HB.out.1
  have hc2 := blk5 HB.out.2
  cases h1 : validHop h
  · have HE := Lib.hid (show verHop t ts beta h = false by unfold verHop; rw [h1]; rfl)
    refine wp_region_ext (by kernel_rfl) (by kernel_rfl) ?_
    have q0 := ExtW.cell (hc1.1)
    have q1 := ExtW.cell (hc1.2)
    have q2 := ExtW.cell (hc2.1)
    have q3 := ExtW.cell (hc2.2.1)
    have q4 := ExtW.cell (hc2.2.2.1)
    have q5 := ExtW.cell (hc2.2.2.2.1)
    have q6 := ExtW.cell (hc2.2.2.2.2)
    repeat (first | go_big_quiet_step (((first | (go_at_call 143; exact Calls.ext_of (i_ValidHop h _))))) | quiet_step (((first | (go_at_call 143; exact Calls.ext_of (i_ValidHop h _))))))
    refine wpQuiet_nil ?_
    intro w9 hw9
    have h9 := ExtW.out hw9
    clear hw9 q0 q1 q2 q3 q4 q5 q6
    clear hc1 hc2
    go_wp2_with fail
    go_ret
    exact ⟨ret_bool HE.out.symm, hx0.trans h9⟩
  · cases h2 : isAs t h.asn
    · have HE := Lib.hid (show verHop t ts beta h = false by unfold verHop; rw [h1, h2]; rfl)
      refine wp_region_ext (by kernel_rfl) (by kernel_rfl) ?_
      have q0 := ExtW.cell (hc1.1)
      have q1 := ExtW.cell (hc1.2)
      have q2 := ExtW.cell (hc2.1)
      have q3 := ExtW.cell (hc2.2.1)
      have q4 := ExtW.cell (hc2.2.2.1)
      have q5 := ExtW.cell (hc2.2.2.2.1)
      have q6 := ExtW.cell (hc2.2.2.2.2)
      repeat (first | go_big_quiet_step (((first | (go_at_call 143; exact Calls.ext_of (i_ValidHop h _)) | (go_at_call 144; exact Calls.ext_of (i_isAS t _ _ h.asn _ ((ha.ext hx0).ext (ExtW.h _))))))) | quiet_step (((first | (go_at_call 143; exact Calls.ext_of (i_ValidHop h _)) | (go_at_call 144; exact Calls.ext_of (i_isAS t _ _ h.asn _ ((ha.ext hx0).ext (ExtW.h _))))))))
      refine wpQuiet_nil ?_
      intro w9 hw9
      have h9 := ExtW.out hw9
      clear hw9 q0 q1 q2 q3 q4 q5 q6
      clear hc1 hc2
      go_wp2_with fail
      go_ret
      exact ⟨ret_bool HE.out.symm, hx0.trans h9⟩
    · obtain ⟨hp1, hp2⟩ := isAs_lt h2
      have HE := Lib.hid (show verHop t ts beta h = (h.mac == hopMac t.ases[h.asn.toNat].key ts beta h) by unfold verHop; rw [h1, h2, asAt_at hp1 hp2]; rfl)
      obtain ⟨b, off, rfl, hc⟩ := ASd.at (ha.ext hx0) h.asn.toNat hp2
      have hp3 : h.asn < t.ases.length := by omega
      refine wp_region_ext (by kernel_rfl) (by kernel_rfl) ?_
      have q0 := ExtW.cell (hc1.1)
      have q1 := ExtW.cell (hc1.2)
      have q2 := ExtW.cell (hc2.1)
      have q3 := ExtW.cell (hc2.2.1)
      have q4 := ExtW.cell (hc2.2.2.1)
      have q5 := ExtW.cell (hc2.2.2.2.1)
      have q6 := ExtW.cell (hc2.2.2.2.2)
      have q7 := ExtW.cell (hc.1)
      have q8 := ExtW.cell (hc.2.1)
      have q9 := ExtW.cell (hc.2.2)
      repeat (first | go_big_quiet_step (((first | (go_at_call 143; exact Calls.ext_of (i_ValidHop h _)) | (go_at_call 144; exact Calls.ext_of (i_isAS t _ _ h.asn _ ((ha.ext hx0).ext (ExtW.h _)))) | (go_at_call 145; exact Calls.ext_of (i_HopMAC _ _ _ h _))))) | quiet_step (((first | (go_at_call 143; exact Calls.ext_of (i_ValidHop h _)) | (go_at_call 144; exact Calls.ext_of (i_isAS t _ _ h.asn _ ((ha.ext hx0).ext (ExtW.h _)))) | (go_at_call 145; exact Calls.ext_of (i_HopMAC _ _ _ h _))))))
      refine wpQuiet_nil ?_
      intro w9 hw9
      have h9 := ExtW.out hw9
      clear hw9 q0 q1 q2 q3 q4 q5 q6 q7 q8 q9
      clear hc1 hc2
      go_wp2_with fail
      go_ret
      exact ⟨ret_bool HE.out.symm, hx0.trans h9⟩


end
section
open Go.ChangeShapes Go.WideShapes Go.ChangeAt Go.RowKit Go.Deep

theorem sameExt {P : Program} {fn : FuncId} {args : Array Value} {w : World} {u : Ending} (h : Calls P fn args w fun e w' => e = u ∧ w = w') : Calls P fn args w fun e w' => e = u ∧ Ext w w' :=
  h.mono fun _ _ h => ⟨h.1, h.2 ▸ Ext.refl _⟩



set_option maxRecDepth 100000 in
set_option maxHeartbeats 1000000 in
theorem s_ChainAdd (b : Int) (l : List Int) (v : Value) (w : World) (hv : RdS Rep.int w v l) :
    Calls Tryz.prog 300 #[.int .i64 b, v] w fun e w' => e = .returned (.int .i64 (chainAdd b l)) ∧ w = w' := by
  obtain ⟨o, cap, rfl, hsm⟩ := hv.shape
  go_enter Tryz.func300, Tryz.ntmps300
  go_wp2
  go_loopg [0, 5] l.length (fun gk bb i wr => ∃ (k : Nat), gk + k = l.length ∧ i = .int .i64 k ∧ bb = .int .i64 (chainAdd b (l.take k)) ∧ w = wr)
  case atStart => exact ⟨0, rfl, rfl, rfl, rfl⟩
  case round =>
    obtain ⟨k, hgk, rfl, rfl, rfl⟩ := hrel
    by_cases hlt : k < l.length
    · obtain ⟨b1, off, rfl, hcell⟩ := ints_at hv k hlt
      have hg0 : gk - 1 + (k + 1) = l.length ∧ gk - 1 < gk := by omega
      have HG := Lib.hid hg0; clear hg0 hgk
      have HN := Lib.hid (chainAdd_snoc (b := b) hlt)
      go_wp2_with fail
      refine (s_AddMod _ _ _).mono ?_
      rintro e w1 ⟨rfl, rfl⟩
      go_wp2_with fail
      go_roundg (gk - 1)
      case measure => exact HG.out.2
      case rel => exact ⟨k + 1, HG.out.1, by go_num, by rw [HN.out], rfl⟩
    · have HE := Lib.hid (show chainAdd b (l.take k) = chainAdd b l by rw [List.take_of_length_le (by omega)])
      go_wp2_with fail
      go_ret
      exact ⟨ret_int HE.out, rfl⟩






end
section
open Go.ChangeShapes Go.WideShapes Go.ChangeAt Go.RowKit Go.Deep

theorem remEnd_no {t : Topo} {r d : Int} (h : linkIdx t.links r d < 0) : remEnd t r d = (-1, 0) := if_pos h
theorem remEnd_at {t : Topo} {r d : Int} (h : ¬ linkIdx t.links r d < 0) (hl : (linkIdx t.links r d).toNat < t.links.length) :
    remEnd t r d = if (t.links[(linkIdx t.links r d).toNat].a == r) && (t.links[(linkIdx t.links r d).toNat].ai == d) then (t.links[(linkIdx t.links r d).toNat].b, t.links[(linkIdx t.links r d).toNat].bi) else (t.links[(linkIdx t.links r d).toNat].a, t.links[(linkIdx t.links r d).toNat].ai) := by
  unfold remEnd; rw [if_neg h, List.getElem?_eq_getElem hl]
theorem ret_pair {a b : Int} {x : Int × Int} (h : x = (a, b)) : Ending.returned (.tuple #[.int .i64 a, .int .i64 b]) = .returned (.tuple #[.int .i64 x.1, .int .i64 x.2]) := by rw [h]

set_option maxHeartbeats 1000000 in
theorem i_RemoteEnd (t : Topo) (v1 v2 : Value) (r d : Int) (w : World) (hk : RdS Lnk.rep w v2 t.links) :
    Calls Tryz.prog 106 #[.agg #[v1, v2], .int .i64 r, .int .i64 d] w fun e w' => e = .returned (.tuple #[.int .i64 (remEnd t r d).1, .int .i64 (remEnd t r d).2]) ∧ Ext w w' := by
  obtain ⟨o, cap, rfl, hsm⟩ := hk.shape
  have hx0 : Ext w (w.alloc (.cells #[v1, .slice o t.links.length cap] 33)) := (Ext.refl _).alloc _
  have HB0 := Lib.hid (blk_new w (.cells #[v1, .slice o t.links.length cap] 33))
  go_enter Tryz.func106, Tryz.ntmps106
  have cf1 := blk2 HB0.out
  go_wp2_with fail
  refine (i_LinkIndex t _ _ r d _ (hk.ext hx0)).mono ?_
  rintro e w1 ⟨rfl, hz1⟩
  have hil := linkIdx_lt t.links r d
  by_cases hn : linkIdx t.links r d < 0
  · have HE := Lib.hid (remEnd_no hn)
    try clear cf1
    have cf2 := blk2 (Ext.block hz1 HB0.out)
    go_wp2_with fail
    go_ret2
    exact ⟨ret_pair HE.out, (hx0.trans hz1)⟩
  · have hin : (linkIdx t.links r d).toNat < t.links.length := by omega
    have HE := Lib.hid (remEnd_at hn hin)
    have hn0 : 0 ≤ linkIdx t.links r d := by omega
    obtain ⟨b, off, rfl, hc⟩ := Lnk.at (hk.ext (hx0.trans hz1)) _ hin
    generalize linkIdx t.links r d = i at *
    generalize t.links[i.toNat] = x at *
    try clear cf1
    have cf3 := blk2 (Ext.block hz1 HB0.out)
    have hx1 : Ext w1 (w1.alloc (.cells #[.int .i64 x.a, .int .i64 x.ai, .int .i64 x.b, .int .i64 x.bi, .int .i64 x.kind] 195)) := (Ext.refl _).alloc _
    have HB1 := Lib.hid (blk_new w1 (.cells #[.int .i64 x.a, .int .i64 x.ai, .int .i64 x.b, .int .i64 x.bi, .int .i64 x.kind] 195))
    cases b1 : (x.a == r) <;> cases b2 : (x.ai == d)
    all_goals
      go_wp2_with fail
      have cl := blk5 HB1.out
      refine wp_region_ext (by kernel_rfl) (by kernel_rfl) ?_
      have q0 := ExtW.cell (cl.1)
      have q1 := ExtW.cell (cl.2.1)
      have q2 := ExtW.cell (cl.2.2.1)
      have q3 := ExtW.cell (cl.2.2.2.1)
      have q4 := ExtW.cell (cl.2.2.2.2)
      repeat (first | go_big_quiet_step (fail) | quiet_step (fail))
      refine wpQuiet_nil ?_
      intro w9 hw9
      have h9 := ExtW.out hw9
      clear hw9 q0 q1 q2 q3 q4 cl
      go_wp2_with fail
      go_ret2
      exact ⟨ret_pair (by rw [HE.out, b1, b2]; rfl), ((hx0.trans hz1).trans hx1).trans h9⟩

set_option maxHeartbeats 1000000 in
theorem s_RemoteEnd (t : Topo) (v1 v2 : Value) (r d : Int) (w : World) (hk : RdS Lnk.rep w v2 t.links) :
    Calls Tryz.prog 210 #[.agg #[v1, v2], .int .i64 r, .int .i64 d] w fun e w' => e = .returned (.tuple #[.int .i64 (remEnd t r d).1, .int .i64 (remEnd t r d).2]) ∧ Ext w w' := by
  obtain ⟨o, cap, rfl, hsm⟩ := hk.shape
  have hx0 : Ext w (w.alloc (.cells #[v1, .slice o t.links.length cap] 33)) := (Ext.refl _).alloc _
  have HB0 := Lib.hid (blk_new w (.cells #[v1, .slice o t.links.length cap] 33))
  go_enter Tryz.func210, Tryz.ntmps210
  have cf1 := blk2 HB0.out
  go_wp2_with fail
  refine (s_LinkIndex t _ _ r d _ (hk.ext hx0)).mono ?_
  rintro e w1 ⟨rfl, hz1⟩
  have hil := linkIdx_lt t.links r d
  by_cases hn : linkIdx t.links r d < 0
  · have HE := Lib.hid (remEnd_no hn)
    try clear cf1
    have cf2 := blk2 (Ext.block hz1 HB0.out)
    go_wp2_with fail
    go_ret2
    exact ⟨ret_pair HE.out, (hx0.trans hz1)⟩
  · have hin : (linkIdx t.links r d).toNat < t.links.length := by omega
    have HE := Lib.hid (remEnd_at hn hin)
    have hn0 : 0 ≤ linkIdx t.links r d := by omega
    obtain ⟨b, off, rfl, hc⟩ := Lnk.at (hk.ext (hx0.trans hz1)) _ hin
    generalize linkIdx t.links r d = i at *
    generalize t.links[i.toNat] = x at *
    try clear cf1
    have cf3 := blk2 (Ext.block hz1 HB0.out)
    have hx1 : Ext w1 (w1.alloc (.cells #[.int .i64 x.a, .int .i64 x.ai, .int .i64 x.b, .int .i64 x.bi, .int .i64 x.kind] 195)) := (Ext.refl _).alloc _
    have HB1 := Lib.hid (blk_new w1 (.cells #[.int .i64 x.a, .int .i64 x.ai, .int .i64 x.b, .int .i64 x.bi, .int .i64 x.kind] 195))
    cases b1 : (x.a == r) <;> cases b2 : (x.ai == d)
    all_goals
      go_wp2_with fail
      have cl := blk5 HB1.out
      refine wp_region_ext (by kernel_rfl) (by kernel_rfl) ?_
      have q0 := ExtW.cell (cl.1)
      have q1 := ExtW.cell (cl.2.1)
      have q2 := ExtW.cell (cl.2.2.1)
      have q3 := ExtW.cell (cl.2.2.2.1)
      have q4 := ExtW.cell (cl.2.2.2.2)
      repeat (first | go_big_quiet_step (fail) | quiet_step (fail))
      refine wpQuiet_nil ?_
      intro w9 hw9
      have h9 := ExtW.out hw9
      clear hw9 q0 q1 q2 q3 q4 cl
      go_wp2_with fail
      go_ret2
      exact ⟨ret_pair (by rw [HE.out, b1, b2]; rfl), ((hx0.trans hz1).trans hx1).trans h9⟩

set_option maxRecDepth 100000 in
set_option maxHeartbeats 4000000 in
theorem i_hopsOk (t : Topo) (v1 v2 : Value) (l : List Hop) (v : Value) (w : World) (ha : RdS ASd.rep w v1 t.ases) (hv : RdS Hop.rep w v l) :
    Calls Tryz.prog 244 #[.agg #[v1, v2], v] w fun e w' => e = .returned (.bool (hopsOk t l)) ∧ Ext w w' := by
  obtain ⟨o, cap, rfl, hsm⟩ := hv.shape
  have hcap := hv.capLe
  have hx0 : Ext w (w.alloc (.cells #[v1, v2] 33)) := (Ext.refl _).alloc _
  have HB0 := Lib.hid (blk_new w (.cells #[v1, v2] 33))
  go_enter Tryz.func244, Tryz.ntmps244
  have cf1 := blk2 HB0.out
  go_wp2_with fail
  refine (i_InRange _ _ _ _).mono ?_
  rintro e _ ⟨rfl, rfl⟩
  cases hr : inR (l.length : Int) 1 8
  · have HE := Lib.hid (show hopsOk t l = false by unfold hopsOk; rw [hr]; rfl)
    go_wp2_with fail
    go_ret
    exact ⟨ret_bool HE.out.symm, hx0⟩
  · have HL := Lib.hid (show hopsOk t l = allTo (hopFresh t l) l.length by unfold hopsOk; rw [hr]; rfl)
    clear hr
    go_wp2_with fail
    go_loopg [15] l.length (fun gk i wr => ∃ k : Nat, gk + k = l.length ∧ i = .int .i64 k ∧ Hid (allTo (hopFresh t l) k = true) ∧ Ext (w.alloc (.cells #[v1, v2] 33)) wr)
    case atStart => exact ⟨0, rfl, rfl, Lib.hid rfl, Ext.refl _⟩
    case round =>
      obtain ⟨k, hgk, rfl, HK, hx⟩ := hrel
      by_cases hlt : k < l.length
      · have HG := Lib.hid (show gk - 1 + (k + 1) = l.length ∧ gk - 1 < gk by omega); clear hgk
        have HAT := Lib.hid (hopAt_at hlt)
        obtain ⟨b, off, rfl, hc⟩ := Hop.at (hv.ext (hx0.trans hx)) k hlt
        try clear cf1
        have cf2 := blk2 (Ext.block hx HB0.out)
        generalize hlk : l[k] = h at *
        have HLK := Lib.hid hlk; clear hlk
        have hx1 : Ext wr (wr.alloc (.cells #[.int .i64 h.asn, .int .i64 h.ing, .int .i64 h.eg, .int .i64 h.exp, .int .i64 h.mac] 44)) := (Ext.refl _).alloc _
        have HB1 := Lib.hid (blk_new wr (.cells #[.int .i64 h.asn, .int .i64 h.ing, .int .i64 h.eg, .int .i64 h.exp, .int .i64 h.mac] 44))
        go_wp2_with fail
        refine (i_ValidHop h _).mono ?_
        rintro e w2 ⟨rfl, hz2⟩
        cases b1 : validHop h
        · have HE := Lib.hid (HL.out.trans (allTo_no hlt (show hopFresh t l k = false by unfold hopFresh; rw [HAT.out]; rw [b1]; rfl)))
          have cf3 := blk2 (Ext.block ((hx.trans hx1).trans hz2) HB0.out)
          have cf4 := blk5 (Ext.block hz2 HB1.out)
          go_wp2_with fail
          go_ret
          exact ⟨ret_bool HE.out.symm, (((hx0.trans hx).trans hx1).trans hz2)⟩
        · have cf5 := blk2 (Ext.block ((hx.trans hx1).trans hz2) HB0.out)
          have cf6 := blk5 (Ext.block hz2 HB1.out)
          go_wp2_with fail
          refine (i_isAS t _ _ h.asn _ (ha.ext (((hx0.trans hx).trans hx1).trans hz2))).mono ?_
          rintro e w3 ⟨rfl, hz3⟩
          cases b2 : isAs t h.asn
          · have HE := Lib.hid (HL.out.trans (allTo_no hlt (show hopFresh t l k = false by unfold hopFresh; rw [HAT.out]; rw [b1, b2]; rfl)))
            try clear cf5
            try clear cf6
            have cf7 := blk2 (Ext.block (((hx.trans hx1).trans hz2).trans hz3) HB0.out)
            have cf8 := blk5 (Ext.block (hz2.trans hz3) HB1.out)
            go_wp2_with fail
            go_ret
            exact ⟨ret_bool HE.out.symm, ((((hx0.trans hx).trans hx1).trans hz2).trans hz3)⟩
          · try clear cf5
            try clear cf6
            have cf9 := blk2 (Ext.block (((hx.trans hx1).trans hz2).trans hz3) HB0.out)
            have cf10 := blk5 (Ext.block (hz2.trans hz3) HB1.out)
            go_wp2_with fail
            obtain ⟨go, hgo⟩ : ∃ go : Nat, go = gk := ⟨_, rfl⟩
            subst hgo
            obtain ⟨wo, hwo⟩ : ∃ wo : World, wo = wr := ⟨_, rfl⟩
            subst hwo
            have hkc : k ≤ cap := by omega
            go_loopg [34] k (fun gk j ws => ∃ m : Nat, gk + m = k ∧ j = .int .i64 m ∧ Hid (hasI ((l.map (·.asn)).take m) h.asn = false) ∧ Ext w3 ws)
            case atStart => exact ⟨0, rfl, rfl, Lib.hid rfl, Ext.refl _⟩
            case round =>
              obtain ⟨m, hgm, rfl, HM, hy⟩ := hrel
              by_cases hmk : m < k
              · have hml : m < l.length := by omega
                have HG2 := Lib.hid (show gk - 1 + (m + 1) = k ∧ gk - 1 < gk by omega); clear hgm
                obtain ⟨b2, off2, he2, hd⟩ := Hop.at (hv.ext (((((hx0.trans hx).trans hx1).trans hz2).trans hz3).trans hy)) m hml
                cases he2
                have HS := Lib.hid (any_snoc (fun x => x == h.asn) (l := l.map (·.asn)) (k := m) (by simpa using hml))
                try clear cf9
                try clear cf10
                have cf11 := blk2 (Ext.block ((((hx.trans hx1).trans hz2).trans hz3).trans hy) HB0.out)
                have cf12 := blk5 (Ext.block ((hz2.trans hz3).trans hy) HB1.out)
                have cy := blk5 (Ext.block (((hz2.trans hz3).trans hy).trans ((Ext.refl wr).alloc (.cells #[.int .i64 l[m].asn, .int .i64 l[m].ing, .int .i64 l[m].eg, .int .i64 l[m].exp, .int .i64 l[m].mac] 44))) HB1.out)
                cases b3 : (l[m].asn == h.asn)
                · have HM2 := Lib.hid (show hasI ((l.map (·.asn)).take (m + 1)) h.asn = false by unfold hasI at HM ⊢; rw [HS.out, HM.out]; simpa using b3)
                  go_wp2_with fail
                  go_roundg (gk - 1)
                  case measure => exact HG2.out.2
                  case rel => exact ⟨m + 1, HG2.out.1, by go_num, HM2, hy.alloc _⟩
                · have HE := Lib.hid (HL.out.trans (allTo_no hlt (show hopFresh t l k = false by unfold hopFresh; rw [HAT.out, b1, b2]; simp only [Bool.true_and, Bool.not_eq_false']; exact List.any_eq_true.2 ⟨l[m].asn, List.mem_take_iff_getElem.2 ⟨m, by simp; omega, by simp⟩, b3⟩)))
                  go_wp2_with fail
                  go_ret
                  exact ⟨ret_bool HE.out.symm, (((((hx0.trans hx).trans hx1).trans hz2).trans hz3).trans hy).alloc _⟩
              · obtain rfl : m = k := by omega
                have HK2 := Lib.hid (allTo_snoc HK.out (show hopFresh t l m = true by unfold hopFresh; rw [HAT.out, b1, b2, HM.out]; rfl))
                go_wp2
                go_roundg (go - 1)
                case measure => exact HG.out.2
                case rel => exact ⟨m + 1, HG.out.1, by go_num, HK2, ((((hx.trans hx1).trans hz2).trans hz3).trans hy)⟩
      · obtain rfl : k = l.length := by omega
        have HE := Lib.hid (HL.out.trans HK.out)
        try clear cf1
        have cf13 := blk2 (Ext.block hx HB0.out)
        go_wp2_with fail
        go_ret
        exact ⟨ret_bool HE.out.symm, (hx0.trans hx)⟩

end
section

def varF : Nat → Int → List Int
  | 0, n => [n]
  | k + 1, n => if 128 ≤ n then (n % 128 + 128) :: varF k (n / 128) else [n]
def varint (n : Int) : List Int := varF n.toNat n

theorem varF_stable : ∀ (k k' : Nat) (n : Int), n.toNat ≤ k → n.toNat ≤ k' → varF k n = varF k' n
  | 0, 0, _, _, _ => rfl
  | 0, k' + 1, n, h, _ => by
    have : ¬ 128 ≤ n := by omega
    simp [varF, this]
  | k + 1, 0, n, _, h => by
    have : ¬ 128 ≤ n := by omega
    simp [varF, this]
  | k + 1, k' + 1, n, h, h' => by
    by_cases hn : 128 ≤ n
    · simp only [varF, hn, if_true]
      rw [varF_stable k k' (n / 128) (by omega) (by omega)]
    · simp [varF, hn]

theorem varint_big {n : Int} (h : 128 ≤ n) : varint n = (n % 128 + 128) :: varint (n / 128) := by
  obtain ⟨k, hk⟩ : ∃ k, n.toNat = k + 1 := ⟨n.toNat - 1, by omega⟩
  unfold varint
  rw [hk]
  simp only [varF, h, if_true]
  rw [varF_stable k (n / 128).toNat (n / 128) (by omega) (Nat.le_refl _)]
theorem varint_small {n : Int} (h : n < 128) : varint n = [n] := by
  unfold varint
  cases n.toNat with
  | zero => rfl
  | succ k => simp only [varF]; rw [if_neg (by omega)]

/-- The bytes that a number adds: none if it is out of range. -/
def varOf (n : Int) : List Int := if 0 ≤ n ∧ n ≤ 1000000000000 then varint n else []
def encInts (l : List Int) : List Int := l.flatMap varOf

theorem varint_len : ∀ (k : Nat) (n : Int), 0 ≤ n → n < 128 ^ (k + 1) → (varint n).length ≤ k + 1
  | 0, n, _, h => by rw [varint_small (by simpa using h)]; simp
  | k + 1, n, h0, h => by
    by_cases hn : 128 ≤ n
    · rw [varint_big hn, List.length_cons]
      have := varint_len k (n / 128) (by omega) (by
        rw [Int.pow_succ] at h
        omega)
      omega
    · rw [varint_small (by omega)]; simp
theorem varOf_len (n : Int) : (varOf n).length ≤ 6 := by
  unfold varOf
  split
  · rename_i h
    exact varint_len 5 n h.1 (by omega)
  · simp
theorem encInts_len (l : List Int) : (encInts l).length ≤ 6 * l.length := by
  induction l with
  | nil => simp [encInts]
  | cons a l ih =>
    have := varOf_len a
    simp only [encInts, List.flatMap_cons, List.length_append, List.length_cons] at ih ⊢
    omega

theorem ofInt_nat (a : Nat) (ha : a < 9223372036854775808) : (BitVec.ofInt 64 (a : Int)).toNat = a := by
  rw [BitVec.ofInt_natCast, BitVec.toNat_ofNat]; exact Nat.mod_eq_of_lt (by omega)
theorem and_nat (a b : Nat) (ha : a < 9223372036854775808) (hb : b < 9223372036854775808) : bits .and .i64 (a : Int) (b : Int) = ((a &&& b : Nat) : Int) := by
  have hx : a &&& b < 2 ^ 63 := Nat.and_lt_two_pow _ (by omega)
  show IntKind.i64.wrap ((BitVec.ofInt 64 (a : Int) &&& BitVec.ofInt 64 (b : Int)).toNat : Int) = _
  rw [BitVec.toNat_and, ofInt_nat a ha, ofInt_nat b hb, IntKind.wrap_i64]
  omega
theorem or_nat (a b : Nat) (ha : a < 9223372036854775808) (hb : b < 9223372036854775808) : bits .or .i64 (a : Int) (b : Int) = ((a ||| b : Nat) : Int) := by
  have hx : a ||| b < 2 ^ 63 := Nat.or_lt_two_pow (by omega) (by omega)
  show IntKind.i64.wrap ((BitVec.ofInt 64 (a : Int) ||| BitVec.ofInt 64 (b : Int)).toNat : Int) = _
  rw [BitVec.toNat_or, ofInt_nat a ha, ofInt_nat b hb, IntKind.wrap_i64]
  omega
theorem and127 (m : Int) (h0 : 0 ≤ m) (h1 : m < 9223372036854775808) : bits .and .i64 m 127 = m % 128 := by
  obtain ⟨k, rfl⟩ := Int.eq_ofNat_of_zero_le h0
  have := and_nat k 127 (by omega) (by omega)
  have h2 : k &&& 127 = k % 128 := Nat.and_two_pow_sub_one_eq_mod k 7
  rw [h2] at this
  have e : ((127 : Nat) : Int) = 127 := rfl
  rw [e] at this
  rw [this]; omega
theorem or128 (m : Int) : bits .or .i64 (m % 128) 128 = m % 128 + 128 := by
  obtain ⟨k, hk⟩ := Int.eq_ofNat_of_zero_le (show 0 ≤ m % 128 by omega)
  have hk2 : k < 128 := by omega
  rw [hk]
  have := or_nat k 128 (by omega) (by omega)
  have h2 : k ||| 128 = k + 128 := by
    have := Nat.two_pow_add_eq_or_of_lt (b := k) (i := 7) (by omega) 1
    simp only [Nat.mul_one] at this
    rw [Nat.or_comm, Nat.add_comm]
    exact this.symm
  rw [h2] at this
  have e : ((128 : Nat) : Int) = 128 := rfl
  rw [e] at this
  rw [this]; omega

end
end Go.Proofs.YtjmlicmloacmaaaGreat
