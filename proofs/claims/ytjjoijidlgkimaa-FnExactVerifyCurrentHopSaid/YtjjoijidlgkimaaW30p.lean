/- Contracts of turning paths around, program and reference. No condition but the bounds that each theorem names. -/
import Derived.Test.YtjjoijidlgkimaaW30s
import Derived.Test.YtjjoijidlgkimaaAppN
import Derived.Test.YtjjoijidlgkimaaTyPartM
namespace Go.Proofs.Ytjjoijidlgkimaa
open Go.ChangeShapes Go.WideShapes Go.ChangeAt Go.RowKit Go.Deep

def revParts (l : List Part) : List Part := (l.map revPart).reverse
def revPath (x : Pth) : Pth := ⟨revParts x.parts⟩
theorem revParts_drop {l : List Part} {k : Nat} (hk : k < l.length) : revParts (l.drop (k + 1)) ++ [revPart l[k]] = revParts (l.drop k) := by
  unfold revParts
  rw [List.drop_eq_getElem_cons hk, List.map_cons, List.reverse_cons]
theorem revParts_len (l : List Part) : (revParts l).length = l.length := by simp [revParts]
theorem revParts_hops (l : List Part) : hopsN (revParts l) = hopsN l := by
  have h : ∀ l : List Part, hopsN (l.map revPart) = hopsN l := by
    intro l
    induction l with
    | nil => rfl
    | cons x l ih => rw [List.map_cons, hopsN_cons, hopsN_cons, ih]; simp [revPart]
  have h2 : ∀ l : List Part, hopsN l.reverse = hopsN l := by
    intro l
    induction l with
    | nil => rfl
    | cons x l ih =>
      rw [List.reverse_cons, hopsN_cons, ← ih]
      simp [hopsN, Part.size]; omega
  unfold revParts
  rw [h2, h]
theorem elemPart : Nonempty (Elem Try.prog 74 134 4 48) := Elem.mk' Try.underlying74 Try.infoPart rfl (by decide)
theorem part_one (x : Part) (o : Option Addr) (n c : Nat) : ∀ u ∈ Part.c x (.slice o n c), u.oneCell' = true := by
  intro u hu
  simp only [Part.c, List.mem_cons, List.not_mem_nil, or_false] at hu
  rcases hu with rfl | rfl | rfl | rfl <;> rfl

set_option maxRecDepth 100000 in
set_option maxHeartbeats 4000000 in
theorem i_ReversePath (x : Pth) (v : Value) (w : World) (r : RdS Part.rep w v x.parts) (hl : x.size ≤ 1048576) :
    Calls Try.prog 121 #[.agg #[v]] w fun e w' => ∃ u, e = .returned (.agg #[u]) ∧ Part.own.own (rng w.heap.size w'.heap.size) w' u (revPath x).parts ∧ Ext w w' := by
  obtain ⟨ps⟩ := x
  unfold Pth.size at hl
  dsimp only at r hl ⊢
  obtain ⟨o, cap, rfl, hsm⟩ := r.shape
  obtain ⟨E⟩ := elemPart
  have hx0 := ext2 w (.cells #[.slice o ps.length cap] 76) (.cells #[.slice none 0 0] 76)
  have hB := al3 w (.cells #[.slice o ps.length cap] 76) (.cells #[.slice none 0 0] 76) (.cells #[.slice none 0 0] 76)
  have HB := Lib.hid hB; clear hB
  have HB2 := Lib.hid (al2 w (.cells #[.slice o ps.length cap] 76) (.cells #[.slice none 0 0] 76))
  go_enter Try.func121, Try.ntmps121
  go_wp2
  go_loopg [4] ps.length (fun gk i wr => i = .int .i64 ((gk : Int) - 1) ∧ gk ≤ ps.length ∧ (∃ ok ck, Hid (wr.heap[w.heap.size + 1 + 1]? = some (.cells #[.slice ok (ps.length - gk) ck] 76)) ∧ Part.own.own (rng (w.heap.size + 1 + 1 + 1) wr.heap.size) wr (.slice ok (ps.length - gk) ck) (revParts (ps.drop gk))) ∧ w.heap.size + 1 + 1 + 1 ≤ wr.heap.size ∧ Ext ((w.alloc (.cells #[.slice o ps.length cap] 76)).alloc (.cells #[.slice none 0 0] 76)) wr)
  case atStart =>
    refine ⟨rfl, Nat.le_refl _, ⟨none, 0, ?_, ?_⟩, by simp, (Ext.refl _).alloc _⟩
    · rw [Nat.sub_self]; exact Lib.hid HB.out.2.2
    · rw [Nat.sub_self, List.drop_length]; exact Part.own.mono (Part.own.nil _) (fun b hb => hb.elim)
  case round =>
    obtain ⟨rfl, hk, ⟨ok, ck, HBk, hown⟩, hsw, hx⟩ := hrel
    have hcb := blk1 (hx.block HB2.out.1)
    have hc3 := blk1 HBk.out
    cases gk with
    | zero =>
      have hcr := blk1 (hx.block HB2.out.2)
      have g0 := fr_of (hx.block HB2.out.2) 0
      go_wp2
      refine bodyPost_ret (v := .agg #[.slice ok (ps.length - 0) ck]) (by simp [results, Try.results121, go_sem, hcr]) rfl ⟨_, rfl, ?_, ?_⟩
      · refine Part.own.mono (Own.kept Part.own hown (⟨rfl, rfl, rfl, by simp [World.setCell], fun q hq hn => Below.heap_setCell _ _ _ _ hn⟩ : Chg (fun q => q = w.heap.size + 1) wr (wr.setCell ⟨w.heap.size + 1, 0, none⟩ (.slice ok (ps.length - 0) ck))) (fun q hq e => by have := hq.1; omega)) (fun q hq => ⟨by have := hq.1; omega, by simpa using hq.2⟩)
      · exact (hx0.trans hx).setCell (by simp) _
    | succ j =>
      have hj : j < ps.length := by omega
      obtain ⟨b, off, oh, ch, rfl, hc, hr⟩ := Part.at r j hj
      have hcx := Part.at_ext (hx0.trans hx) hc
      have hrj := hr.ext (hx0.trans hx)
      clear hc
      have e1 : (((j + 1 : Nat) : Int) - 1) = (j : Int) := by omega
      rw [e1]
      clear e1
      have hle := hopsN_le hj
      have hln : (revParts (ps.drop (j + 1))).length + 1 ≤ 1048576 := by rw [revParts_len]; simp; omega
      have HE := Lib.hid (revParts_drop hj)
      generalize revParts (ps.drop (j + 1)) = out at *
      have hj0 : (0 : Int) ≤ (j : Int) := Int.natCast_nonneg _
      have hj1 : (j : Int) < (ps.length : Int) := by omega
      go_wp2_with fail
      refine planStep (.blk [0, 1, 2, 3, 4, 5, 6] (.one 7 (.one 8 (.one 9 (.blk [10] (.one 11 .done)))))) [9, 11] (by kernel_rfl) (by kernel_rfl) ?_
      refine blkStep (fun K HK => ?_)
      simp only [pick, List.filterMap_cons, List.filterMap_nil, List.getElem?_toArray, List.getElem?_cons_zero, List.getElem?_cons_succ]
      go_wp2_with fail
      refine HK.out _ _ ?_
      clear HK K
      refine oneStep (fun K HK => ?_)
      simp only [pick, List.filterMap_cons, List.filterMap_nil, List.getElem?_toArray, List.getElem?_cons_zero, List.getElem?_cons_succ]
      go_wp2_with fail
      refine (i_ReversePart ps[j] _ _ (hrj.ext (Ext.refl _).drew) (by unfold Part.size; omega)).mono ?_
      rintro e w1 ⟨u, rfl, ou, h1⟩
      obtain ⟨oo, co, rfl, _⟩ := (OwnF.rd (hf := Hop.flen) ou).shape
      go_wp2_with fail
      refine HK.out _ _ (h1) ?_
      clear HK K
      refine oneStep (fun K HK => ?_)
      simp only [pick, List.filterMap_cons, List.filterMap_nil, List.getElem?_toArray, List.getElem?_cons_zero, List.getElem?_cons_succ]
      go_wp2_with fail
      refine HK.out _ _ ((Ext.refl _).alloc _) ?_
      clear HK K
      refine badStep (by kernel_rfl) (fun K HK => ?_)
      simp only [pick, List.filterMap_cons, List.filterMap_nil, List.getElem?_toArray, List.getElem?_cons_zero, List.getElem?_cons_succ]
      refine appN (lo := w.heap.size + 1 + 1 + 1) (c := Part.c) (hc := Part.clen) (sub := (·.hops)) (I := Own.flat Hop.f 5 Hop.flen 136) E rfl _ _ rfl (revPart ps[j]) (.slice oo (revPart ps[j]).hops.length co) (rng wr.heap.size w1.heap.size) (part_one _ _ _ _) rfl hown ((((Ext.refl wr).drew.trans h1).alloc _)) (Own.ext (O := Own.flat Hop.f 5 Hop.flen 136) (Own.ofF (hf := Hop.flen) ou) ((Ext.refl _).alloc _)) (fun q hq => ⟨hq.1, Nat.lt_of_lt_of_le hq.2 ((Ext.refl _).alloc _).size⟩) (by simpa using hsw) rfl (by exact blk_list (Part.c (revPart ps[j]) (.slice oo (revPart ps[j]).hops.length co)) (blk_new w1 _)) (by omega) (by unfold maxLen; omega) ?_
      intro v' w' ho' hg' hvlo
      have hx' := (hx.drew.trans h1 |>.alloc _).grown hg' (fun q hq => Nat.le_trans (by simp) (hvlo q hq))
      have hb3' := (hg'.block (w.heap.size + 1 + 1) (blk_lt (Ext.block ((((Ext.refl wr).drew.trans h1).alloc _)) HBk.out)) (fun e => by have := hvlo _ e.symm; omega)).trans (Ext.block ((((Ext.refl wr).drew.trans h1).alloc _)) HBk.out)
      rw [HE.out] at ho'
      obtain ⟨on, cn, hve, _⟩ := (Part.ord ho').shape
      rw [revParts_len, show (ps.drop j).length = ps.length - j from by simp] at hve
      subst hve
      have c3' := blk1 hb3'
      have f3' := fr_of hb3' 0
      have hb4 := blk_set hb3' 0 (.slice on (ps.length - j) cn)
      simp only [List.setIfInBounds_toArray, List.set_cons_zero] at hb4
      have HB4 := Lib.hid hb4; clear hb4 hb3'
      have hx4 := hx'.setCell (p := ⟨w.heap.size + 1 + 1, 0, none⟩) (by simp) (.slice on (ps.length - j) cn)
      have HO4 := Lib.hid (Own.kept Part.own ho' (⟨rfl, rfl, rfl, by simp [World.setCell], fun q hq hn => Below.heap_setCell _ _ _ _ hn⟩ : Chg (fun q => q = w.heap.size + 1 + 1) w' (w'.setCell ⟨w.heap.size + 1 + 1, 0, none⟩ (.slice on (ps.length - j) cn))) (fun q hq e => by have := hq.1; omega))
      have hsw' : w.heap.size + 1 + 1 + 1 ≤ w'.heap.size := Nat.le_trans hsw (Nat.le_trans ((((Ext.refl wr).drew.trans h1).alloc _)).size hg'.size)
      clear hg' ho' hvlo
      go_wp2_with fail
      refine HK.out _ _ ?_
      clear HK K
      refine blkStep (fun K HK => ?_)
      simp only [pick, List.filterMap_cons, List.filterMap_nil, List.getElem?_toArray, List.getElem?_cons_zero, List.getElem?_cons_succ]
      go_wp2_with fail
      refine HK.out _ _ ?_
      clear HK K
      refine badStep (by kernel_rfl) (fun K HK => ?_)
      simp only [pick, List.filterMap_cons, List.filterMap_nil, List.getElem?_toArray, List.getElem?_cons_zero, List.getElem?_cons_succ]
      go_wp2_with fail
      refine HK.out _ _ ?_
      clear HK K
      refine doneStep (by kernel_rfl) ?_
      go_wp2_with fail
      go_roundg j
      case measure => omega
      case rel => exact ⟨rfl, by omega, ⟨on, cn, HB4, by simpa using HO4.out⟩, by simpa using hsw', hx4⟩


set_option maxRecDepth 100000 in
set_option maxHeartbeats 4000000 in
theorem s_ReversePath (x : Pth) (v : Value) (w : World) (r : RdS Part.rep w v x.parts) (hl : x.size ≤ 1048576) :
    Calls Try.prog 118 #[.agg #[v]] w fun e w' => ∃ u, e = .returned (.agg #[u]) ∧ Part.own.own (rng w.heap.size w'.heap.size) w' u (revPath x).parts ∧ Ext w w' := by
  obtain ⟨ps⟩ := x
  unfold Pth.size at hl
  dsimp only at r hl ⊢
  obtain ⟨o, cap, rfl, hsm⟩ := r.shape
  obtain ⟨E⟩ := elemPart
  have hx0 := ext2 w (.cells #[.slice o ps.length cap] 76) (.cells #[.slice none 0 0] 76)
  have hB := al3 w (.cells #[.slice o ps.length cap] 76) (.cells #[.slice none 0 0] 76) (.cells #[.slice none 0 0] 76)
  have HB := Lib.hid hB; clear hB
  have HB2 := Lib.hid (al2 w (.cells #[.slice o ps.length cap] 76) (.cells #[.slice none 0 0] 76))
  go_enter Try.func118, Try.ntmps118
  go_wp2
  go_loopg [4] ps.length (fun gk i wr => i = .int .i64 ((gk : Int) - 1) ∧ gk ≤ ps.length ∧ (∃ ok ck, Hid (wr.heap[w.heap.size + 1 + 1]? = some (.cells #[.slice ok (ps.length - gk) ck] 76)) ∧ Part.own.own (rng (w.heap.size + 1 + 1 + 1) wr.heap.size) wr (.slice ok (ps.length - gk) ck) (revParts (ps.drop gk))) ∧ w.heap.size + 1 + 1 + 1 ≤ wr.heap.size ∧ Ext ((w.alloc (.cells #[.slice o ps.length cap] 76)).alloc (.cells #[.slice none 0 0] 76)) wr)
  case atStart =>
    refine ⟨rfl, Nat.le_refl _, ⟨none, 0, ?_, ?_⟩, by simp, (Ext.refl _).alloc _⟩
    · rw [Nat.sub_self]; exact Lib.hid HB.out.2.2
    · rw [Nat.sub_self, List.drop_length]; exact Part.own.mono (Part.own.nil _) (fun b hb => hb.elim)
  case round =>
    obtain ⟨rfl, hk, ⟨ok, ck, HBk, hown⟩, hsw, hx⟩ := hrel
    have hcb := blk1 (hx.block HB2.out.1)
    have hc3 := blk1 HBk.out
    cases gk with
    | zero =>
      have hcr := blk1 (hx.block HB2.out.2)
      have g0 := fr_of (hx.block HB2.out.2) 0
      go_wp2
      refine bodyPost_ret (v := .agg #[.slice ok (ps.length - 0) ck]) (by simp [results, Try.results118, go_sem, hcr]) rfl ⟨_, rfl, ?_, ?_⟩
      · refine Part.own.mono (Own.kept Part.own hown (⟨rfl, rfl, rfl, by simp [World.setCell], fun q hq hn => Below.heap_setCell _ _ _ _ hn⟩ : Chg (fun q => q = w.heap.size + 1) wr (wr.setCell ⟨w.heap.size + 1, 0, none⟩ (.slice ok (ps.length - 0) ck))) (fun q hq e => by have := hq.1; omega)) (fun q hq => ⟨by have := hq.1; omega, by simpa using hq.2⟩)
      · exact (hx0.trans hx).setCell (by simp) _
    | succ j =>
      have hj : j < ps.length := by omega
      obtain ⟨b, off, oh, ch, rfl, hc, hr⟩ := Part.at r j hj
      have hcx := Part.at_ext (hx0.trans hx) hc
      have hrj := hr.ext (hx0.trans hx)
      clear hc
      have e1 : (((j + 1 : Nat) : Int) - 1) = (j : Int) := by omega
      rw [e1]
      clear e1
      have hle := hopsN_le hj
      have hln : (revParts (ps.drop (j + 1))).length + 1 ≤ 1048576 := by rw [revParts_len]; simp; omega
      have HE := Lib.hid (revParts_drop hj)
      generalize revParts (ps.drop (j + 1)) = out at *
      have hj0 : (0 : Int) ≤ (j : Int) := Int.natCast_nonneg _
      have hj1 : (j : Int) < (ps.length : Int) := by omega
      go_wp2_with fail
      refine (s_ReversePart ps[j] _ _ (hrj.ext (Ext.refl _)) (by unfold Part.size; omega)).mono ?_
      rintro e w1 ⟨u, rfl, ou, h1⟩
      obtain ⟨oo, co, rfl, _⟩ := (OwnF.rd (hf := Hop.flen) ou).shape
      have hb3a := blk1 (Ext.block (h1.trans ((Ext.refl _).alloc (.cells #[.int .i64 (revPart ps[j]).kind, .int .i64 (revPart ps[j]).ts, .int .i64 (revPart ps[j]).beta, .slice oo (revPart ps[j]).hops.length co] 134))) HBk.out)
      have hsz1 : w.heap.size + 1 + 1 + 1 ≤ w1.heap.size := Nat.le_trans hsw h1.size
      have hb3b := blk1 (h1.block HBk.out)
      go_wp2_with (at_builtin; refine appN (lo := w.heap.size + 1 + 1 + 1) (c := Part.c) (hc := Part.clen) (sub := (·.hops)) (I := Own.flat Hop.f 5 Hop.flen 136) E rfl _ _ rfl (revPart ps[j]) (.slice oo (revPart ps[j]).hops.length co) (rng wr.heap.size w1.heap.size) (part_one _ _ _ _) rfl hown ((((Ext.refl wr).trans h1).alloc _).alloc _) (Own.ext (O := Own.flat Hop.f 5 Hop.flen 136) (Own.ofF (hf := Hop.flen) ou) (((Ext.refl _).alloc _).alloc _)) (fun q hq => ⟨hq.1, Nat.lt_of_lt_of_le hq.2 (((Ext.refl _).alloc _).alloc _).size⟩) (by simpa using hsw) rfl (by exact blk_list (Part.c (revPart ps[j]) (.slice oo (revPart ps[j]).hops.length co)) (blk_new2 w1 _ _)) (by omega) (by unfold maxLen; omega) ?_)
      intro v' w' ho' hg' hvlo
      have hx' := (hx.trans h1 |>.alloc _ |>.alloc _).grown hg' (fun q hq => Nat.le_trans (by simp) (hvlo q hq))
      have hb3' := (hg'.block (w.heap.size + 1 + 1) (blk_lt (Ext.block ((((Ext.refl wr).trans h1).alloc _).alloc _) HBk.out)) (fun e => by have := hvlo _ e.symm; omega)).trans (Ext.block ((((Ext.refl wr).trans h1).alloc _).alloc _) HBk.out)
      rw [HE.out] at ho'
      obtain ⟨on, cn, hve, _⟩ := (Part.ord ho').shape
      rw [revParts_len, show (ps.drop j).length = ps.length - j from by simp] at hve
      subst hve
      have c3' := blk1 hb3'
      have f3' := fr_of hb3' 0
      have hb4 := blk_set hb3' 0 (.slice on (ps.length - j) cn)
      simp only [List.setIfInBounds_toArray, List.set_cons_zero] at hb4
      have HB4 := Lib.hid hb4; clear hb4 hb3'
      have hx4 := hx'.setCell (p := ⟨w.heap.size + 1 + 1, 0, none⟩) (by simp) (.slice on (ps.length - j) cn)
      have HO4 := Lib.hid (Own.kept Part.own ho' (⟨rfl, rfl, rfl, by simp [World.setCell], fun q hq hn => Below.heap_setCell _ _ _ _ hn⟩ : Chg (fun q => q = w.heap.size + 1 + 1) w' (w'.setCell ⟨w.heap.size + 1 + 1, 0, none⟩ (.slice on (ps.length - j) cn))) (fun q hq e => by have := hq.1; omega))
      have hsw' : w.heap.size + 1 + 1 + 1 ≤ w'.heap.size := Nat.le_trans hsw (Nat.le_trans ((((Ext.refl wr).trans h1).alloc _).alloc _).size hg'.size)
      clear hg' ho' hvlo
      go_wp2_with fail
      go_roundg j
      case measure => omega
      case rel => exact ⟨rfl, by omega, ⟨on, cn, HB4, by simpa using HO4.out⟩, by simpa using hsw', hx4⟩


end Go.Proofs.Ytjjoijidlgkimaa
