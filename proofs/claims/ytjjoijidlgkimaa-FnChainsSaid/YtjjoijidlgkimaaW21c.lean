/- Contracts of copying hops, parts and paths, program and reference. No condition but the bounds that each theorem names. -/
import Derived.Test.YtjjoijidlgkimaaW30r
import Derived.Test.YtjjoijidlgkimaaAppN
import Derived.Test.YtjjoijidlgkimaaTyPkt
namespace Go.Proofs.Ytjjoijidlgkimaa
open Go.ChangeShapes Go.WideShapes Go.ChangeAt Go.RowKit Go.Deep

theorem elemPartC : Nonempty (Elem Try.prog 74 134 4 48) := Elem.mk' Try.underlying74 Try.infoPart rfl (by decide)
theorem part_oneC (x : Part) (o : Option Addr) (n c : Nat) : ∀ u ∈ Part.c x (.slice o n c), u.oneCell' = true := by
  intro u hu
  simp only [Part.c, List.mem_cons, List.not_mem_nil, or_false] at hu
  rcases hu with rfl | rfl | rfl | rfl <;> rfl
theorem take_snocE {α : Type} {l : List α} {k : Nat} (hk : k < l.length) : l.take k ++ [l[k]] = l.take (k + 1) := (List.take_succ_eq_append_getElem hk).symm
set_option maxHeartbeats 400000 in
theorem i_copyHops (l : List Hop) (v : Value) (w : World) (hv : RdS Hop.rep w v l) (hl : l.length ≤ 1048576) :
    Calls Try.prog 165 #[v] w fun e w' => ∃ v', e = .returned v' ∧ OwnF Hop.f 5 w.heap.size 136 w' v' l ∧ Ext w w' := by
  obtain ⟨E⟩ := elemHop
  go_enter Try.func165, Try.ntmps165
  go_wp2_with (at_builtin; refine appS E Hop.flen Hop.one rfl _ _ rfl l rfl (OwnF.empty Hop.f 5 w.heap.size _ w (Nat.le_refl _)) rfl (hv.ext ((Ext.refl _).alloc _)) (by first | omega | (simp; omega)) (by first | (unfold maxLen; omega) | (simp [maxLen]; omega)) (by simp) ?_)
  intro v' w' ho' hg'
  have hx' : Ext w w' := ((Ext.refl w).alloc _).app hg' (OwnF.empty Hop.f 5 w.heap.size 136 w (Nat.le_refl _)) (Nat.le_refl _)
  try rw [List.nil_append] at ho'
  clear hg'
  go_wp2
  go_ret
  exact ⟨_, rfl, ho', hx'⟩

set_option maxRecDepth 100000 in
set_option maxHeartbeats 2000000 in
theorem s_l21Copy (x : Part) (v : Value) (w : World) (r : RdS Hop.rep w v x.hops) (hl : x.hops.length ≤ 1048576) :
    Calls Try.prog 164 #[.agg #[.int .i64 x.kind, .int .i64 x.ts, .int .i64 x.beta, v]] w fun e w' => ∃ u, e = .returned (.agg #[.int .i64 x.kind, .int .i64 x.ts, .int .i64 x.beta, u]) ∧ OwnF Hop.f 5 (w.heap.size + 3) 136 w' u x.hops ∧ Ext w w' := by
  obtain ⟨E⟩ := elemHop
  obtain ⟨o, cap, rfl, hsm⟩ := r.shape
  have hx0 := (ext3 w (.cells #[.int .i64 x.kind, .int .i64 x.ts, .int .i64 x.beta, .slice o x.hops.length cap] 134) (.cells #[.int .i64 0, .int .i64 0, .int .i64 0, .slice none 0 0] 134) (.cells #[.int .i64 x.kind, .int .i64 x.ts, .int .i64 x.beta, .slice o x.hops.length cap] 134))
  have hB := al3 w (.cells #[.int .i64 x.kind, .int .i64 x.ts, .int .i64 x.beta, .slice o x.hops.length cap] 134) (.cells #[.int .i64 0, .int .i64 0, .int .i64 0, .slice none 0 0] 134) (.cells #[.int .i64 x.kind, .int .i64 x.ts, .int .i64 x.beta, .slice o x.hops.length cap] 134)
  have HB := Lib.hid hB; clear hB
  have hrx := r.ext (hx0.alloc (.cells #[] 136))
  go_enter Try.func164, Try.ntmps164
  go_wp2_with (at_builtin; refine appS (v := .slice (some ⟨w.heap.size + 1 + 1 + 1, 0, none⟩) 0 0) (l := []) E Hop.flen Hop.one rfl _ _ rfl x.hops rfl (OwnF.emptyAt (f := Hop.f) (n := 5) (base := w.heap.size + 3) (by simp) (by omega)) rfl hrx (by first | omega | (simp; omega)) (by first | (unfold maxLen; omega) | (simp [maxLen]; omega)) (by simp) ?_)
  intro v' w' ho' hg'
  have hblk (q : Nat) (ob : Obj) (hq : q < w.heap.size + 3) (h : (((w.alloc (.cells #[.int .i64 x.kind, .int .i64 x.ts, .int .i64 x.beta, .slice o x.hops.length cap] 134)).alloc (.cells #[.int .i64 0, .int .i64 0, .int .i64 0, .slice none 0 0] 134)).alloc (.cells #[.int .i64 x.kind, .int .i64 x.ts, .int .i64 x.beta, .slice o x.hops.length cap] 134)).heap[q]? = some ob) : w'.heap[q]? = some ob :=
    (hg'.block q (by simp; omega) (by simp [Value.ownBlock]; omega)).trans (Ext.block ((Ext.refl _).alloc _) h)
  have hb1 := hblk _ _ (by omega) HB.out.2.1
  have hb2 := hblk _ _ (by omega) HB.out.2.2
  have hx' : Ext w w' := (hx0.alloc _).grown hg' (fun k hk => by simp [Value.ownBlock] at hk; omega)
  have hsz : w.heap.size + 3 ≤ w'.heap.size := Nat.le_trans (by simp) hg'.size
  try rw [List.nil_append] at ho'
  clear hg' hblk
  obtain ⟨oo, co, rfl, _⟩ := (OwnF.rd (hf := Hop.flen) ho').shape
  have c1 := blk4 hb1
  have c2 := blk4 hb2
  have g0 := fr_of hb1 0
  have g1 := fr_of hb1 1
  have g2 := fr_of hb1 2
  have g3 := fr_of hb1 3
  have gg := fr_of hb2 3
  clear hb1 hb2
  go_wp2_with fail
  refine bodyPost_ret (v := .agg #[.int .i64 x.kind, .int .i64 x.ts, .int .i64 x.beta, .slice oo x.hops.length co]) (by simp [results, Try.results164, go_sem, c1]) rfl ⟨_, rfl, ?_, ?_⟩
  · exact ((((ho'.set (by simp) _).set (by simp) _).set (by simp) _).set (by simp) _).set (by simp) _
  · exact ((((hx'.setCell (by simp; omega) _).setCell (by simp) _).setCell (by simp) _).setCell (by simp) _).setCell (by simp) _

set_option maxRecDepth 100000 in
set_option maxHeartbeats 4000000 in
theorem i_copyPath (x : Pth) (v : Value) (w : World) (r : RdS Part.rep w v x.parts) (hl : x.size ≤ 1048576) :
    Calls Try.prog 145 #[.agg #[v]] w fun e w' => ∃ u, e = .returned (.agg #[u]) ∧ Part.own.own (rng w.heap.size w'.heap.size) w' u x.parts ∧ Ext w w' := by
  obtain ⟨ps⟩ := x
  unfold Pth.size at hl
  dsimp only at r hl ⊢
  obtain ⟨o, cap, rfl, hsm⟩ := r.shape
  obtain ⟨E⟩ := elemPartC
  have hx0 := ext2 w (.cells #[.slice o ps.length cap] 76) (.cells #[.slice none 0 0] 76)
  have hB := al3 w (.cells #[.slice o ps.length cap] 76) (.cells #[.slice none 0 0] 76) (.cells #[.slice none 0 0] 76)
  have HB := Lib.hid hB; clear hB
  have HB2 := Lib.hid (al2 w (.cells #[.slice o ps.length cap] 76) (.cells #[.slice none 0 0] 76))
  go_enter Try.func145, Try.ntmps145
  go_wp2
  go_loopg [9] ps.length (fun gk i wr => ∃ k : Nat, gk + k = ps.length ∧ i = .int .i64 k ∧ (∃ ok ck, Hid (wr.heap[w.heap.size + 1 + 1]? = some (.cells #[.slice ok k ck] 76)) ∧ Part.own.own (rng (w.heap.size + 1 + 1 + 1) wr.heap.size) wr (.slice ok k ck) (ps.take k)) ∧ w.heap.size + 1 + 1 + 1 ≤ wr.heap.size ∧ Ext ((w.alloc (.cells #[.slice o ps.length cap] 76)).alloc (.cells #[.slice none 0 0] 76)) wr)
  case atStart =>
    refine ⟨0, rfl, rfl, ⟨none, 0, Lib.hid HB.out.2.2, ?_⟩, by simp, (Ext.refl _).alloc _⟩
    exact Part.own.mono (Part.own.nil _) (fun b hb => hb.elim)
  case round =>
    obtain ⟨k, hgk, rfl, ⟨ok, ck, HBk, hown⟩, hsw, hx⟩ := hrel
    have hcb := blk1 (hx.block HB2.out.1)
    have hc3 := blk1 HBk.out
    by_cases hlt : k < ps.length
    · obtain ⟨b, off, oh, ch, rfl, hc, hr⟩ := Part.at r k hlt
      have hcx := Part.at_ext (hx0.trans hx) hc
      have hrj := hr.ext (hx0.trans hx)
      clear hc
      have hle := hopsN_le hlt
      have hg' : gk - 1 + (k + 1) = ps.length ∧ gk - 1 < gk := by omega
      have HG := Lib.hid hg'; clear hg' hgk
      have htl : (ps.take k).length = k := by simp; omega
      have hln : (ps.take k).length + 1 ≤ 1048577 := by omega
      have HE := Lib.hid (take_snocE hlt)
      generalize ps.take k = out at *
      have hxa : Ext wr (wr.alloc (.cells #[.int .i64 ps[k].kind, .int .i64 ps[k].ts, .int .i64 ps[k].beta, .slice oh ps[k].hops.length ch] 134)) := (Ext.refl _).alloc _
      have HX := Lib.hid (blk_new wr (.cells #[.int .i64 ps[k].kind, .int .i64 ps[k].ts, .int .i64 ps[k].beta, .slice oh ps[k].hops.length ch] 134))
      go_wp2_with fail
      refine (i_copyHops ps[k].hops _ _ (hrj.ext hxa) (by omega)).mono ?_
      rintro e w1 ⟨u, rfl, ou, h1⟩
      obtain ⟨oo, co, rfl, _⟩ := (OwnF.rd (hf := Hop.flen) ou).shape
      have hbx := h1.block HX.out
      have hck := blk1 (Ext.block (hxa.trans h1) HBk.out)
      have hcX := blk4 hbx
      have fX := fr_of hbx 3
      have hs1 : wr.heap.size < w1.heap.size := blk_lt hbx
      have ous := ou.set (p := ⟨wr.heap.size, 3, none⟩) (by simp) (.slice oo ps[k].hops.length co)
      have hxs : Ext wr (w1.setCell ⟨wr.heap.size, 3, none⟩ (.slice oo ps[k].hops.length co)) := (hxa.trans h1).setCell (by simp) _
      have hbk := Ext.block (hxs.alloc (.cells #[.int .i64 ps[k].kind, .int .i64 ps[k].ts, .int .i64 ps[k].beta, .slice oo ps[k].hops.length co] 134)) HBk.out
      have HBK := Lib.hid hbk; clear hbk hbx ou
      have hnew := blk_new (w1.setCell ⟨wr.heap.size, 3, none⟩ (.slice oo ps[k].hops.length co)) (.cells #[.int .i64 ps[k].kind, .int .i64 ps[k].ts, .int .i64 ps[k].beta, .slice oo ps[k].hops.length co] 134)
      rw [show (w1.setCell ⟨wr.heap.size, 3, none⟩ (.slice oo ps[k].hops.length co)).heap.size = w1.heap.size from by simp] at hnew
      have HNEW := Lib.hid hnew; clear hnew
      go_wp2_with (at_builtin; refine appN (lo := w.heap.size + 1 + 1 + 1) (w0 := wr) (c := Part.c) (hc := Part.clen) (sub := (·.hops)) (I := Own.flat Hop.f 5 Hop.flen 136) E rfl _ _ rfl ps[k] (.slice oo ps[k].hops.length co) (rng (wr.heap.size + 1) w1.heap.size) (part_oneC _ _ _ _) rfl hown (hxs.alloc _) (Own.ext (O := Own.flat Hop.f 5 Hop.flen 136) (Own.mono _ (Own.ofF (hf := Hop.flen) ous) (fun q hq => ⟨by have := hq.1; simpa using this, by have := hq.2; simpa using this⟩)) ((Ext.refl _).alloc _)) (fun q hq => ⟨by have := hq.1; omega, by have := hq.2; simp; omega⟩) hsw rfl (by exact blk_list (Part.c ps[k] (.slice oo ps[k].hops.length co)) HNEW.out) (by omega) (by unfold maxLen; omega) ?_)
      intro v' w' ho' hg' hvlo
      have hx' := ((hx.trans hxs).alloc _).grown hg' (fun q hq => Nat.le_trans (by simp) (hvlo q hq))
      have hb3' := (hg'.block (w.heap.size + 1 + 1) (blk_lt HBK.out) (fun e => by have := hvlo _ e.symm; omega)).trans HBK.out
      rw [HE.out] at ho'
      obtain ⟨on, cn, hve, _⟩ := (Part.ord ho').shape
      rw [show (ps.take (k + 1)).length = k + 1 from by simp; omega] at hve
      subst hve
      have c3' := blk1 hb3'
      have f3' := fr_of hb3' 0
      have hb4 := blk_set hb3' 0 (.slice on (k + 1) cn)
      simp only [List.setIfInBounds_toArray, List.set_cons_zero] at hb4
      have HB4 := Lib.hid hb4; clear hb4 hb3'
      have hx4 := hx'.setCell (p := ⟨w.heap.size + 1 + 1, 0, none⟩) (by simp) (.slice on (k + 1) cn)
      have HO4 := Lib.hid (Own.kept Part.own ho' (⟨rfl, rfl, rfl, by simp [World.setCell], fun q hq hn => Below.heap_setCell _ _ _ _ hn⟩ : Chg (fun q => q = w.heap.size + 1 + 1) w' (w'.setCell ⟨w.heap.size + 1 + 1, 0, none⟩ (.slice on (k + 1) cn))) (fun q hq e => by have := hq.1; omega))
      have hsw' : w.heap.size + 1 + 1 + 1 ≤ w'.heap.size := Nat.le_trans hsw (Nat.le_trans (hxs.alloc _ : Ext wr _).size hg'.size)
      clear hg' ho' hvlo
      go_wp2_with fail
      go_roundg (gk - 1)
      case measure => exact HG.out.2
      case rel => exact ⟨k + 1, HG.out.1, by go_num, ⟨on, cn, HB4, by simpa using HO4.out⟩, by simpa using hsw', hx4⟩
    · rw [List.take_of_length_le (by omega)] at hown
      have hcr := blk1 (hx.block HB2.out.2)
      have g0 := fr_of (hx.block HB2.out.2) 0
      go_wp2
      refine bodyPost_ret (v := .agg #[.slice ok k ck]) (by simp [results, Try.results145, go_sem, hcr]) rfl ⟨_, rfl, ?_, ?_⟩
      · refine Part.own.mono (Own.kept Part.own hown (⟨rfl, rfl, rfl, by simp [World.setCell], fun q hq hn => Below.heap_setCell _ _ _ _ hn⟩ : Chg (fun q => q = w.heap.size + 1) wr (wr.setCell ⟨w.heap.size + 1, 0, none⟩ (.slice ok k ck))) (fun q hq e => by have := hq.1; omega)) (fun q hq => ⟨by have := hq.1; omega, by simpa using hq.2⟩)
      · exact (hx0.trans hx).setCell (by simp) _

set_option maxRecDepth 100000 in
set_option maxHeartbeats 4000000 in
theorem s_l22Copy (x : Pth) (v : Value) (w : World) (r : RdS Part.rep w v x.parts) (hl : x.size ≤ 1048576) :
    Calls Try.prog 142 #[.agg #[v]] w fun e w' => ∃ u, e = .returned (.agg #[u]) ∧ Part.own.own (rng w.heap.size w'.heap.size) w' u x.parts ∧ Ext w w' := by
  obtain ⟨ps⟩ := x
  unfold Pth.size at hl
  dsimp only at r hl ⊢
  obtain ⟨o, cap, rfl, hsm⟩ := r.shape
  obtain ⟨E⟩ := elemPartC
  have hx0 := ext2 w (.cells #[.slice o ps.length cap] 76) (.cells #[.slice none 0 0] 76)
  have hB := al3 w (.cells #[.slice o ps.length cap] 76) (.cells #[.slice none 0 0] 76) (.cells #[.slice none 0 0] 76)
  have HB := Lib.hid hB; clear hB
  have HB2 := Lib.hid (al2 w (.cells #[.slice o ps.length cap] 76) (.cells #[.slice none 0 0] 76))
  go_enter Try.func142, Try.ntmps142
  go_wp2
  go_loopg [4] ps.length (fun gk i wr => ∃ k : Nat, gk + k = ps.length ∧ i = .int .i64 k ∧ (∃ ok ck, Hid (wr.heap[w.heap.size + 1 + 1]? = some (.cells #[.slice ok k ck] 76)) ∧ Part.own.own (rng (w.heap.size + 1 + 1 + 1) wr.heap.size) wr (.slice ok k ck) (ps.take k)) ∧ w.heap.size + 1 + 1 + 1 ≤ wr.heap.size ∧ Ext ((w.alloc (.cells #[.slice o ps.length cap] 76)).alloc (.cells #[.slice none 0 0] 76)) wr)
  case atStart =>
    refine ⟨0, rfl, rfl, ⟨none, 0, Lib.hid HB.out.2.2, ?_⟩, by simp, (Ext.refl _).alloc _⟩
    exact Part.own.mono (Part.own.nil _) (fun b hb => hb.elim)
  case round =>
    obtain ⟨k, hgk, rfl, ⟨ok, ck, HBk, hown⟩, hsw, hx⟩ := hrel
    have hcb := blk1 (hx.block HB2.out.1)
    have hc3 := blk1 HBk.out
    by_cases hlt : k < ps.length
    · obtain ⟨b, off, oh, ch, rfl, hc, hr⟩ := Part.at r k hlt
      have hcx := Part.at_ext (hx0.trans hx) hc
      have hrj := hr.ext (hx0.trans hx)
      clear hc
      have hle := hopsN_le hlt
      have hg' : gk - 1 + (k + 1) = ps.length ∧ gk - 1 < gk := by omega
      have HG := Lib.hid hg'; clear hg' hgk
      have htl : (ps.take k).length = k := by simp; omega
      have hln : (ps.take k).length + 1 ≤ 1048577 := by omega
      have HE := Lib.hid (take_snocE hlt)
      generalize ps.take k = out at *
      go_wp2_with fail
      refine (s_l21Copy ps[k] _ _ hrj (by omega)).mono ?_
      rintro e w1 ⟨u, rfl, ou, h1⟩
      obtain ⟨oo, co, rfl, _⟩ := (OwnF.rd (hf := Hop.flen) ou).shape
      have hbb := al2 w1 (.cells #[.int .i64 ps[k].kind, .int .i64 ps[k].ts, .int .i64 ps[k].beta, .slice oo ps[k].hops.length co] 134) (.cells #[.int .i64 ps[k].kind, .int .i64 ps[k].ts, .int .i64 ps[k].beta, .slice oo ps[k].hops.length co] 134)
      have HBB := Lib.hid hbb; clear hbb
      have hck := blk1 (Ext.block h1 HBk.out)
      have hck2 := blk1 (Ext.block (h1.alloc (.cells #[.int .i64 ps[k].kind, .int .i64 ps[k].ts, .int .i64 ps[k].beta, .slice oo ps[k].hops.length co] 134)) HBk.out)
      have hxs : Ext wr (w1.alloc (.cells #[.int .i64 ps[k].kind, .int .i64 ps[k].ts, .int .i64 ps[k].beta, .slice oo ps[k].hops.length co] 134)) := h1.alloc _
      have hbk := Ext.block (hxs.alloc (.cells #[.int .i64 ps[k].kind, .int .i64 ps[k].ts, .int .i64 ps[k].beta, .slice oo ps[k].hops.length co] 134)) HBk.out
      have HBK := Lib.hid hbk; clear hbk
      have ous := Own.mono _ (Own.ofF (hf := Hop.flen) ou) (T := rng wr.heap.size w1.heap.size) (fun q hq => ⟨by have := hq.1; omega, hq.2⟩)
      go_wp2_with (at_builtin; refine appN (lo := w.heap.size + 1 + 1 + 1) (w0 := wr) (c := Part.c) (hc := Part.clen) (sub := (·.hops)) (I := Own.flat Hop.f 5 Hop.flen 136) E rfl _ _ rfl ps[k] (.slice oo ps[k].hops.length co) (rng wr.heap.size w1.heap.size) (part_oneC _ _ _ _) rfl hown (hxs.alloc _) (Own.ext (O := Own.flat Hop.f 5 Hop.flen 136) ous (((Ext.refl _).alloc _).alloc _)) (fun q hq => ⟨hq.1, by have := hq.2; simp; omega⟩) hsw rfl (by exact blk_list (Part.c ps[k] (.slice oo ps[k].hops.length co)) (blk_new2 w1 _ _)) (by omega) (by unfold maxLen; omega) ?_)
      intro v' w' ho' hg' hvlo
      have hx' := ((hx.trans hxs).alloc _).grown hg' (fun q hq => Nat.le_trans (by simp) (hvlo q hq))
      have hb3' := (hg'.block (w.heap.size + 1 + 1) (blk_lt HBK.out) (fun e => by have := hvlo _ e.symm; omega)).trans HBK.out
      rw [HE.out] at ho'
      obtain ⟨on, cn, hve, _⟩ := (Part.ord ho').shape
      rw [show (ps.take (k + 1)).length = k + 1 from by simp; omega] at hve
      subst hve
      have c3' := blk1 hb3'
      have f3' := fr_of hb3' 0
      have hb4 := blk_set hb3' 0 (.slice on (k + 1) cn)
      simp only [List.setIfInBounds_toArray, List.set_cons_zero] at hb4
      have HB4 := Lib.hid hb4; clear hb4 hb3'
      have hx4 := hx'.setCell (p := ⟨w.heap.size + 1 + 1, 0, none⟩) (by simp) (.slice on (k + 1) cn)
      have HO4 := Lib.hid (Own.kept Part.own ho' (⟨rfl, rfl, rfl, by simp [World.setCell], fun q hq hn => Below.heap_setCell _ _ _ _ hn⟩ : Chg (fun q => q = w.heap.size + 1 + 1) w' (w'.setCell ⟨w.heap.size + 1 + 1, 0, none⟩ (.slice on (k + 1) cn))) (fun q hq e => by have := hq.1; omega))
      have hsw' : w.heap.size + 1 + 1 + 1 ≤ w'.heap.size := Nat.le_trans hsw (Nat.le_trans (hxs.alloc _ : Ext wr _).size hg'.size)
      clear hg' ho' hvlo
      go_wp2_with fail
      go_roundg (gk - 1)
      case measure => exact HG.out.2
      case rel => exact ⟨k + 1, HG.out.1, by go_num, ⟨on, cn, HB4, by simpa using HO4.out⟩, by simpa using hsw', hx4⟩
    · rw [List.take_of_length_le (by omega)] at hown
      have hcr := blk1 (hx.block HB2.out.2)
      have g0 := fr_of (hx.block HB2.out.2) 0
      go_wp2
      refine bodyPost_ret (v := .agg #[.slice ok k ck]) (by simp [results, Try.results142, go_sem, hcr]) rfl ⟨_, rfl, ?_, ?_⟩
      · refine Part.own.mono (Own.kept Part.own hown (⟨rfl, rfl, rfl, by simp [World.setCell], fun q hq hn => Below.heap_setCell _ _ _ _ hn⟩ : Chg (fun q => q = w.heap.size + 1) wr (wr.setCell ⟨w.heap.size + 1, 0, none⟩ (.slice ok k ck))) (fun q hq e => by have := hq.1; omega)) (fun q hq => ⟨by have := hq.1; omega, by simpa using hq.2⟩)
      · exact (hx0.trans hx).setCell (by simp) _

end Go.Proofs.Ytjjoijidlgkimaa
