/- What these laws need: FnLeases, FnParts: Contracts of the functions on integers that the laws of this part reach. Contracts of the functions on parts and paths, program and reference. Contracts of the functions on steps and on kinds of parts, program and reference, and of the laws over them. Contracts of turning parts around, program and reference. Contracts of copying hops, parts and paths, program and reference. The cursor that the draws of the laws read: its contracts say no more than the bounds of what is drawn. Contract of turning a part around, reference. Rows that the call owns, by ranges of blocks, and rows that are only read from now on. Appending to rows whose elements hold slices, where the row owns any set of blocks: one element, and a whole row. A region that draws its order, walked along one schedule: what only reads is taken as soon as it may come up, in a class of worlds; the last operations, which all others are ahead of, may leave that class. Draws of numbers: no more is said of them than their bounds. Contracts of turning paths around, program and reference. -/
import Derived.Deep.DeepCutAuto
import Derived.Deep.LoopGhost
import Derived.IntWalk
import Derived.Test.YtikbeiafobnblaaKQ10
namespace Go.Proofs.Ytikbeiafobnblaa
section
open Go.ChangeShapes Go.WideShapes Go.ChangeAt Go.RowKit Go.Deep
theorem inR_false {n a b : Int} : inR n a b = false ↔ ¬ (a ≤ n ∧ n ≤ b) := by rw [← inR_true]; simp
end
section
open Go.ChangeShapes Go.WideShapes Go.ChangeAt Go.RowKit Go.Deep
set_option maxHeartbeats 400000 in
theorem i_IsReversed (k : Int) (w : World) :
  Calls Try.prog 47 #[.int .i64 k] w fun e w' => e = .returned (.bool (isRev k)) ∧ w = w' := by
 go_enter Try.func47, Try.ntmps47
 go_wp2
 all_goals
  go_ret
  refine ⟨ret_bool ?_, rfl⟩
  simp [isRev, *]
set_option maxHeartbeats 400000 in
theorem s_IsReversed (k : Int) (w : World) :
  Calls Try.prog 48 #[.int .i64 k] w fun e w' => e = .returned (.bool (isRev k)) ∧ w = w' := by
 go_enter Try.func48, Try.ntmps48
 go_wp2
 all_goals
  go_ret
  refine ⟨ret_bool ?_, rfl⟩
  simp [isRev, *]
set_option maxHeartbeats 1000000 in
theorem i_PartIngress (x : Part) (v : Value) (i : Int) (w : World) (r : RdS Hop.rep w v x.hops) :
  Calls Try.prog 36 #[.agg #[.int .i64 x.kind, .int .i64 x.ts, .int .i64 x.beta, v], .int .i64 i] w fun e w' => e = .returned (.int .i64 (partIn x i)) ∧ Ext w w' := by
 obtain ⟨o, cap, rfl, hsm⟩ := r.shape
 have hx0 : Ext w (w.alloc (.cells #[.int .i64 x.kind, .int .i64 x.ts, .int .i64 x.beta, .slice o x.hops.length cap] 78)) := (Ext.refl _).alloc _
 go_enter Try.func36, Try.ntmps36
 go_wp2_with fail
 refine (i_InRange _ _ _ _).mono ?_
 rintro e w1 ⟨rfl, rfl⟩
 cases hin : inR i 0 (x.hops.length - 1)
 ·
  have he : partIn x i = 0 := by unfold partIn; rw [if_neg (inR_false.1 hin)]
  have HE := Lib.hid he; clear he
  go_wp2_with fail
  go_ret
  exact ⟨ret_int HE.out.symm, hx0⟩
 ·
  obtain ⟨h1, h2⟩ := inR_true.1 hin
  obtain ⟨k, rfl⟩ := Int.eq_ofNat_of_zero_le h1
  have hk : k < x.hops.length := by omega
  have he := partIn_at hk
  have HE := Lib.hid he; clear he
  obtain ⟨b, off, rfl, hc⟩ := Hop.at (r.ext hx0) k hk
  go_wp2_with fail
  refine (i_IsReversed _ _).mono ?_
  rintro e w1 ⟨rfl, rfl⟩
  cases hrv : isRev x.kind
  ·
   have hh : hopIn x.kind x.hops[k] = x.hops[k].ing := by simp [hopIn, hrv]
   have HH := Lib.hid (HE.out.trans hh); clear hh
   go_wp2_with fail
   go_ret
   exact ⟨ret_int HH.out.symm, hx0⟩
  ·
   have hh : hopIn x.kind x.hops[k] = x.hops[k].eg := by simp [hopIn, hrv]
   have HH := Lib.hid (HE.out.trans hh); clear hh
   go_wp2_with fail
   go_ret
   exact ⟨ret_int HH.out.symm, hx0⟩
set_option maxHeartbeats 1000000 in
theorem i_PartEgress (x : Part) (v : Value) (i : Int) (w : World) (r : RdS Hop.rep w v x.hops) :
  Calls Try.prog 38 #[.agg #[.int .i64 x.kind, .int .i64 x.ts, .int .i64 x.beta, v], .int .i64 i] w fun e w' => e = .returned (.int .i64 (partEg x i)) ∧ Ext w w' := by
 obtain ⟨o, cap, rfl, hsm⟩ := r.shape
 have hx0 : Ext w (w.alloc (.cells #[.int .i64 x.kind, .int .i64 x.ts, .int .i64 x.beta, .slice o x.hops.length cap] 78)) := (Ext.refl _).alloc _
 go_enter Try.func38, Try.ntmps38
 go_wp2_with fail
 refine (i_InRange _ _ _ _).mono ?_
 rintro e w1 ⟨rfl, rfl⟩
 cases hin : inR i 0 (x.hops.length - 1)
 ·
  have he : partEg x i = 0 := by unfold partEg; rw [if_neg (inR_false.1 hin)]
  have HE := Lib.hid he; clear he
  go_wp2_with fail
  go_ret
  exact ⟨ret_int HE.out.symm, hx0⟩
 ·
  obtain ⟨h1, h2⟩ := inR_true.1 hin
  obtain ⟨k, rfl⟩ := Int.eq_ofNat_of_zero_le h1
  have hk : k < x.hops.length := by omega
  have he := partEg_at hk
  have HE := Lib.hid he; clear he
  obtain ⟨b, off, rfl, hc⟩ := Hop.at (r.ext hx0) k hk
  go_wp2_with fail
  refine (i_IsReversed _ _).mono ?_
  rintro e w1 ⟨rfl, rfl⟩
  cases hrv : isRev x.kind
  ·
   have hh : hopEg x.kind x.hops[k] = x.hops[k].eg := by simp [hopEg, hrv]
   have HH := Lib.hid (HE.out.trans hh); clear hh
   go_wp2_with fail
   go_ret
   exact ⟨ret_int HH.out.symm, hx0⟩
  ·
   have hh : hopEg x.kind x.hops[k] = x.hops[k].ing := by simp [hopEg, hrv]
   have HH := Lib.hid (HE.out.trans hh); clear hh
   go_wp2_with fail
   go_ret
   exact ⟨ret_int HH.out.symm, hx0⟩
set_option maxHeartbeats 1000000 in
theorem s_PartIngress (x : Part) (v : Value) (i : Int) (w : World) (r : RdS Hop.rep w v x.hops) :
  Calls Try.prog 37 #[.agg #[.int .i64 x.kind, .int .i64 x.ts, .int .i64 x.beta, v], .int .i64 i] w fun e w' => e = .returned (.int .i64 (partIn x i)) ∧ Ext w w' := by
 obtain ⟨o, cap, rfl, hsm⟩ := r.shape
 have hx0 : Ext w (w.alloc (.cells #[.int .i64 x.kind, .int .i64 x.ts, .int .i64 x.beta, .slice o x.hops.length cap] 78)) := (Ext.refl _).alloc _
 go_enter Try.func37, Try.ntmps37
 go_wp2_with fail
 refine (s_l1In _ _ _ _).mono ?_
 rintro e w1 ⟨rfl, rfl⟩
 cases hin : inR i 0 (x.hops.length - 1)
 ·
  have he : partIn x i = 0 := by unfold partIn; rw [if_neg (inR_false.1 hin)]
  have HE := Lib.hid he; clear he
  go_wp2_with fail
  go_ret
  exact ⟨ret_int HE.out.symm, hx0⟩
 ·
  obtain ⟨h1, h2⟩ := inR_true.1 hin
  obtain ⟨k, rfl⟩ := Int.eq_ofNat_of_zero_le h1
  have hk : k < x.hops.length := by omega
  have he := partIn_at hk
  have HE := Lib.hid he; clear he
  obtain ⟨b, off, rfl, hc⟩ := Hop.at (r.ext hx0) k hk
  go_wp2_with fail
  refine (s_IsReversed _ _).mono ?_
  rintro e w1 ⟨rfl, rfl⟩
  cases hrv : isRev x.kind
  ·
   have hh : hopIn x.kind x.hops[k] = x.hops[k].ing := by simp [hopIn, hrv]
   have HH := Lib.hid (HE.out.trans hh); clear hh
   go_wp2_with fail
   go_ret
   exact ⟨ret_int HH.out.symm, hx0⟩
  ·
   have hh : hopIn x.kind x.hops[k] = x.hops[k].eg := by simp [hopIn, hrv]
   have HH := Lib.hid (HE.out.trans hh); clear hh
   go_wp2_with fail
   go_ret
   exact ⟨ret_int HH.out.symm, hx0⟩
set_option maxHeartbeats 1000000 in
theorem s_PartEgress (x : Part) (v : Value) (i : Int) (w : World) (r : RdS Hop.rep w v x.hops) :
  Calls Try.prog 39 #[.agg #[.int .i64 x.kind, .int .i64 x.ts, .int .i64 x.beta, v], .int .i64 i] w fun e w' => e = .returned (.int .i64 (partEg x i)) ∧ Ext w w' := by
 obtain ⟨o, cap, rfl, hsm⟩ := r.shape
 have hx0 : Ext w (w.alloc (.cells #[.int .i64 x.kind, .int .i64 x.ts, .int .i64 x.beta, .slice o x.hops.length cap] 78)) := (Ext.refl _).alloc _
 go_enter Try.func39, Try.ntmps39
 go_wp2_with fail
 refine (s_l1In _ _ _ _).mono ?_
 rintro e w1 ⟨rfl, rfl⟩
 cases hin : inR i 0 (x.hops.length - 1)
 ·
  have he : partEg x i = 0 := by unfold partEg; rw [if_neg (inR_false.1 hin)]
  have HE := Lib.hid he; clear he
  go_wp2_with fail
  go_ret
  exact ⟨ret_int HE.out.symm, hx0⟩
 ·
  obtain ⟨h1, h2⟩ := inR_true.1 hin
  obtain ⟨k, rfl⟩ := Int.eq_ofNat_of_zero_le h1
  have hk : k < x.hops.length := by omega
  have he := partEg_at hk
  have HE := Lib.hid he; clear he
  obtain ⟨b, off, rfl, hc⟩ := Hop.at (r.ext hx0) k hk
  go_wp2_with fail
  refine (s_IsReversed _ _).mono ?_
  rintro e w1 ⟨rfl, rfl⟩
  cases hrv : isRev x.kind
  ·
   have hh : hopEg x.kind x.hops[k] = x.hops[k].eg := by simp [hopEg, hrv]
   have HH := Lib.hid (HE.out.trans hh); clear hh
   go_wp2_with fail
   go_ret
   exact ⟨ret_int HH.out.symm, hx0⟩
  ·
   have hh : hopEg x.kind x.hops[k] = x.hops[k].ing := by simp [hopEg, hrv]
   have HH := Lib.hid (HE.out.trans hh); clear hh
   go_wp2_with fail
   go_ret
   exact ⟨ret_int HH.out.symm, hx0⟩
end
section
open Go.ChangeShapes Go.WideShapes Go.ChangeAt Go.RowKit Go.Deep
def revKind (k : Int) : Int := if k == 1 then 4 else if k == 4 then 1 else if k == 2 then 3 else if k == 3 then 2 else k
def revStep (x : Step) : Step := ⟨x.asn, x.eg, x.ing⟩
def revSteps (l : List Step) : List Step := l.reverse.map revStep
end
section
open Go.ChangeShapes Go.WideShapes Go.ChangeAt Go.RowKit Go.Deep
theorem betaTo_succ {x : Part} {k : Nat} (h : k < x.hops.length) : betaTo x (k + 1) = if isRev x.kind then subMod (betaTo x k) x.hops[k].mac else addMod (betaTo x k) x.hops[k].mac := by simp [betaTo, h]
def revPart (x : Part) : Part := ⟨revKind x.kind, x.ts, betaAfter x x.hops.length, x.hops.reverse⟩
theorem rev_drop {α : Type} {l : List α} {k : Nat} (hk : k < l.length) : (l.drop (k + 1)).reverse ++ [l[k]] = (l.drop k).reverse := by
 rw [List.drop_eq_getElem_cons hk, List.reverse_cons]
end
section
open Go.ChangeShapes Go.WideShapes Go.ChangeAt Go.RowKit Go.Deep
theorem part_oneC (x : Part) (o : Option Addr) (n c : Nat) : ∀ u ∈ Part.c x (.slice o n c), u.oneCell' = true := by
 intro u hu
 simp only [Part.c, List.mem_cons, List.not_mem_nil, or_false] at hu
 rcases hu with rfl | rfl | rfl | rfl <;> rfl
set_option maxRecDepth 100000 in
set_option maxHeartbeats 2000000 in
theorem s_l21Copy (x : Part) (v : Value) (w : World) (r : RdS Hop.rep w v x.hops) (hl : x.hops.length ≤ 1048576) :
  Calls Try.prog 120 #[.agg #[.int .i64 x.kind, .int .i64 x.ts, .int .i64 x.beta, v]] w fun e w' => ∃ u, e = .returned (.agg #[.int .i64 x.kind, .int .i64 x.ts, .int .i64 x.beta, u]) ∧ OwnF Hop.f 5 (w.heap.size + 3) 146 w' u x.hops ∧ Ext w w' := by
 obtain ⟨E⟩ := elemHop
 obtain ⟨o, cap, rfl, hsm⟩ := r.shape
 have hx0 := (ext3 w (.cells #[.int .i64 x.kind, .int .i64 x.ts, .int .i64 x.beta, .slice o x.hops.length cap] 78) (.cells #[.int .i64 0, .int .i64 0, .int .i64 0, .slice none 0 0] 78) (.cells #[.int .i64 x.kind, .int .i64 x.ts, .int .i64 x.beta, .slice o x.hops.length cap] 78))
 have hB := al3 w (.cells #[.int .i64 x.kind, .int .i64 x.ts, .int .i64 x.beta, .slice o x.hops.length cap] 78) (.cells #[.int .i64 0, .int .i64 0, .int .i64 0, .slice none 0 0] 78) (.cells #[.int .i64 x.kind, .int .i64 x.ts, .int .i64 x.beta, .slice o x.hops.length cap] 78)
 have HB := Lib.hid hB; clear hB
 have hrx := r.ext (hx0.alloc (.cells #[] 146))
 go_enter Try.func120, Try.ntmps120
 go_wp2_with (at_builtin; refine appS (v := .slice (some ⟨w.heap.size + 1 + 1 + 1, 0, none⟩) 0 0) (l := []) E Hop.flen Hop.one rfl _ _ rfl x.hops rfl (OwnF.emptyAt (f := Hop.f) (n := 5) (base := w.heap.size + 3) (by simp) (by omega)) rfl hrx (by first | omega | (simp; omega)) (by first | (unfold maxLen; omega) | (simp [maxLen]; omega)) (by simp) ?_)
 intro v' w' ho' hg'
 have hblk (q : Nat) (ob : Obj) (hq : q < w.heap.size + 3) (h : (((w.alloc (.cells #[.int .i64 x.kind, .int .i64 x.ts, .int .i64 x.beta, .slice o x.hops.length cap] 78)).alloc (.cells #[.int .i64 0, .int .i64 0, .int .i64 0, .slice none 0 0] 78)).alloc (.cells #[.int .i64 x.kind, .int .i64 x.ts, .int .i64 x.beta, .slice o x.hops.length cap] 78)).heap[q]? = some ob) : w'.heap[q]? = some ob :=
  (hg'.block q (by simp; omega) (by simp [Value.ownBlock]; omega)).trans (Ext.block ((Ext.refl _).alloc _) h)
 have hb1 := hblk _ _ (by omega) HB.out.2.1
 have hb2 := hblk _ _ (by omega) HB.out.2.2
 have hx' : Ext w w' := (hx0.alloc _).grown hg' (fun k hk => by simp [Value.ownBlock] at hk; omega)
 have hsz : w.heap.size + 3 ≤ w'.heap.size := Nat.le_trans (by simp) hg'.size
 try rw [List.nil_append] at ho'
 clear hg' hblk
 obtain ⟨oo, co, rfl, _⟩ := (OwnF.rd (hf := Hop.flen) ho').shape
 have c1 := blk4 hb1
 have c2 := blk4 hb2
 have g0 := fr_of hb1 0
 have g1 := fr_of hb1 1
 have g2 := fr_of hb1 2
 have g3 := fr_of hb1 3
 have gg := fr_of hb2 3
 clear hb1 hb2
 go_wp2_with fail
 refine bodyPost_ret (v := .agg #[.int .i64 x.kind, .int .i64 x.ts, .int .i64 x.beta, .slice oo x.hops.length co]) (by simp [results, Try.results120, go_sem, c1]) rfl ⟨_, rfl, ?_, ?_⟩
 ·
  exact ((((ho'.set (by simp) _).set (by simp) _).set (by simp) _).set (by simp) _).set (by simp) _
 ·
  exact ((((hx'.setCell (by simp; omega) _).setCell (by simp) _).setCell (by simp) _).setCell (by simp) _).setCell (by simp) _
end
section
open Go.ChangeShapes Go.WideShapes Go.ChangeAt Go.RowKit Go.Deep
set_option maxHeartbeats 1000000 in
theorem s_l1Int (g : Nat) (l : List Int) (v : Value) (code : List Int) (w : World) (hc : Cur g v code w) (hl : 0 < l.length) (hm : l.length ≤ 1048576) :
  Calls Try.prog 117 #[.pointer (some ⟨g, 0, none⟩), .slice (some ⟨w.heap.size, 0, none⟩) l.length l.length] (w.alloc (.cells (l.flatMap intF).toArray 3)) fun e w' => ∃ r : Int, e = .returned (.int .i64 r) ∧ r ∈ l ∧ Cur g v code w' ∧ Chg (at1 g) w w' := by
 have ho := OwnF.lit intFlen w.heap.size 3 w l (Nat.le_refl _) (by unfold maxLen; omega)
 have hst : St g Rep.int _ _ l := St.ofF (hf := intFlen) ho hc.lt
 have hca := hc.ext ((Ext.refl w).alloc (.cells (l.flatMap intF).toArray 3))
 have hxa : Chg (at1 g) w (w.alloc (.cells (l.flatMap intF).toArray 3)) := Chg.ofExt ((Ext.refl w).alloc _)
 generalize w.alloc (.cells (l.flatMap intF).toArray 3) = wa at *
 clear ho
 generalize w.heap.size = ga at *
 go_enter Try.func117, Try.ntmps117
 go_wp2_with fail
 refine (s_l1Below g l.length v code _ hca).mono ?_
 rintro e w1 ⟨x, rfl, hx0, hx1, hc1, hz1⟩
 obtain ⟨k, rfl⟩ := Int.eq_ofNat_of_zero_le hx0
 have hk : k < l.length := by omega
 clear hx1
 obtain ⟨b, off, hbe, hcell⟩ := ints_at (hst.step hz1).rd k hk
 cases hbe
 rw [Nat.zero_add] at hcell
 go_wp2_with fail
 go_ret
 exact ⟨_, rfl, List.getElem_mem hk, hc1, hxa.trans hz1⟩
end
section
open Go.ChangeShapes Go.WideShapes Go.ChangeAt Go.RowKit Go.Deep
theorem blk_set4 {w : World} {b : Nat} {x0 x1 x2 x3 : Value} {t : TypeId} {f : Nat × Nat} (h : w.heap[b]? = some (.cells #[x0, x1, x2, x3] t f)) (y0 y1 y2 y3 : Value) :
  ((((w.setCell ⟨b, 0, none⟩ y0).setCell ⟨b, 1, none⟩ y1).setCell ⟨b, 2, none⟩ y2).setCell ⟨b, 3, none⟩ y3).heap[b]? = some (.cells #[y0, y1, y2, y3] t f) := by
 have := blk_set (blk_set (blk_set (blk_set h 0 y0) 1 y1) 2 y2) 3 y3
 simpa using this
theorem ext_set4 {a w : World} (h : Ext a w) {b : Nat} (hb : a.heap.size ≤ b) (y0 y1 y2 y3 : Value) : Ext a ((((w.setCell ⟨b, 0, none⟩ y0).setCell ⟨b, 1, none⟩ y1).setCell ⟨b, 2, none⟩ y2).setCell ⟨b, 3, none⟩ y3) :=
 (((h.setCell hb _).setCell hb _).setCell hb _).setCell hb _
end
section
open Go.ChangeShapes Go.WideShapes Go.ChangeAt Go.RowKit Go.Deep
section
variable {α : Type} {O : Own α} {a b : Nat} {w w' : World} {v : Value} {l : List α}
theorem Own.at1g {g : Nat} (h : O.own (rng a b) w v l) (c : Chg (at1 g) w w') (hg : g < a ∨ b ≤ g) : O.own (rng a b) w' v l :=
  O.kept h c (fun k hk e => by have e' : k = g := e; have h1 := hk.1; have h2 := hk.2; omega)
theorem Own.lo {a' : Nat} (h : O.own (rng a b) w v l) (ha : a' ≤ a) : O.own (rng a' b) w v l := O.mono h (fun _ hk => ⟨Nat.le_trans ha hk.1, hk.2⟩)
theorem Own.upTo {c : Nat} (h : O.own (rng a b) w v l) (hc : w.heap.size ≤ c) : O.own (rng a c) w v l := O.mono (O.inb h) (fun _ hk => ⟨hk.1.1, Nat.lt_of_lt_of_le hk.2 hc⟩)
theorem Own.stR {g : Nat} (h : O.own (rng a b) w v l) (hg : g < a ∨ b ≤ g) : St g O.rep w v l := fun _ c => O.rd (Own.at1g h c hg)
theorem Own.chgR {S : Nat → Prop} (h : O.own (rng a b) w v l) (c : Chg S w w') (hs : ∀ k, S k → k < a ∨ b ≤ k) : O.own (rng a b) w' v l :=
  O.kept h c (fun k hk e => by have h1 := hk.1; have h2 := hk.2; have := hs k e; omega)
end
/-- A row that is only read: it reads the same whatever becomes of the blocks beside its own. -/
def Own.keep {α : Type} (r : Rep α) : Own α where
  rep := r
  own S w v l := ∀ w', Chg (fun b => ¬ S b) w w' → RdS r w' v l
  rd h := h _ (Chg.refl _ _)
  mono h hs := fun w' c => h w' (c.mono (fun _ hk hS => hk (hs _ hS)))
  kept h c hs := fun w2 c2 => h w2 ((c.mono (fun b hb hS => hs b hS hb)).trans c2)
  nil _ := fun w' _ => RdS.nil _ w'
  inb h := fun w' c => h w' ⟨c.os, c.tape, c.output, c.size, fun k hk hn => c.block k hk (fun hh => hn (fun hS => hh ⟨hS, hk⟩))⟩
theorem Own.toKeep {α : Type} {O : Own α} {S : Nat → Prop} {w : World} {v : Value} {l : List α} (h : O.own S w v l) : (Own.keep O.rep).own S w v l := fun _ c => O.rd (O.kept h c (fun _ hb hn => hn hb))
theorem Own.ofFr {α : Type} {f : α → List Value} {n : Nat} {hf : ∀ a, (f a).length = n} {e : TypeId} {base m : Nat} {w : World} {v : Value} {l : List α} (h : OwnF f n base e w v l) (hm : w.heap.size ≤ m) : (Own.flat f n hf e).own (rng base m) w v l :=
  Own.mono _ (Own.ofF h) (fun _ hk => ⟨hk.1, Nat.lt_of_lt_of_le hk.2 hm⟩)
theorem Own.toF {α : Type} {f : α → List Value} {n : Nat} {hf : ∀ a, (f a).length = n} {e : TypeId} {a b : Nat} {w : World} {v : Value} {l : List α} (h : (Own.flat f n hf e).own (rng a b) w v l) : OwnF f n a e w v l := by
  obtain ⟨h1, h2⟩ := h
  obtain ⟨h3, h4⟩ := h1
  refine ⟨h3, ?_⟩
  rcases h4 with h4 | ⟨g, cap, cur, rfl, hb, hg, r⟩
  · exact .inl h4
  · exact .inr ⟨g, cap, cur, rfl, (h2 g rfl).1, hg, r⟩
section
variable {α β : Type} {n : Nat} {c : α → Value → List Value} {hc : ∀ a v, (c a v).length = n} {sub : α → List β} {e : TypeId} {I : Own β}
/-- A literal row whose elements hold slices. -/
theorem nest_lit {w : World} (qs : List (Cap α)) (lo : Nat) (hlo : lo ≤ w.heap.size) (hm : qs.length ≤ maxLen)
    (hq : ∀ q ∈ qs, I.own q.set w q.val (sub q.dat) ∧ ∀ b, q.set b → lo ≤ b ∧ b < w.heap.size) (hd : ∀ (i j : Nat) (hi : i < qs.length) (hj : j < qs.length), i ≠ j → ∀ b, qs[i].set b → ¬ qs[j].set b) :
    (Own.nest n c hc sub e I).own (rng lo (w.heap.size + 1)) (w.alloc (.cells (qs.flatMap (capF c)).toArray e)) (.slice (some ⟨w.heap.size, 0, none⟩) qs.length qs.length) (qs.map (·.dat)) := by
  have ho := OwnF.lit (f := capF c) (n := n) (fun q => hc q.dat q.val) 0 e w qs (Nat.zero_le _) hm
  refine ⟨qs, rfl, ho, fun k hk => ?_, fun q h => ⟨Own.ext (hq q h).1 ((Ext.refl w).alloc _), fun b hb => ?_⟩, hd⟩
  · cases hk; exact ⟨hlo, Nat.lt_succ_self _⟩
  · obtain ⟨h1, h2⟩ := (hq q h).2 b hb
    refine ⟨⟨h1, by omega⟩, fun e => ?_, by simp; omega⟩
    have : w.heap.size = b := by simpa [Value.ownBlock] using e
    omega
end
/-- What reads the same whatever becomes of the blocks of S. -/
def KS {α : Type} (S : Nat → Prop) (r : Rep α) (w : World) (v : Value) (l : List α) : Prop := ∀ w', Chg S w w' → RdS r w' v l
theorem KS.rd {α : Type} {S : Nat → Prop} {r : Rep α} {w : World} {v : Value} {l : List α} (h : KS S r w v l) : RdS r w v l := h w (Chg.refl _ _)
theorem KS.step {α : Type} {S T : Nat → Prop} {r : Rep α} {w w' : World} {v : Value} {l : List α} (h : KS S r w v l) (c : Chg T w w') (hs : ∀ b, T b → S b) : KS S r w' v l := fun w2 c2 => h w2 ((c.mono hs).trans c2)
theorem KS.ext {α : Type} {S : Nat → Prop} {r : Rep α} {w w' : World} {v : Value} {l : List α} (h : KS S r w v l) (c : Ext w w') : KS S r w' v l := fun w2 c2 => h w2 ((Chg.ofExt c).trans c2)
theorem KS.wide {α : Type} {S T : Nat → Prop} {r : Rep α} {w : World} {v : Value} {l : List α} (h : KS S r w v l) (hs : ∀ b, T b → S b ∨ w.heap.size ≤ b) : KS T r w v l :=
  fun w2 c => h w2 ⟨c.os, c.tape, c.output, c.size, fun k hk hn => c.block k hk (fun ht => by rcases hs k ht with h1 | h1; exact hn h1; omega)⟩
theorem KS.ofOwn {α : Type} {O : Own α} {S T : Nat → Prop} {w : World} {v : Value} {l : List α} (h : O.own S w v l) (hs : ∀ b, T b → ¬ S b) : KS T O.rep w v l := fun _ c => O.rd (O.kept h c (fun b hb ht => hs b ht hb))
theorem KS.ofF {α : Type} {n : Nat} {f : α → List Value} {hf : ∀ a, (f a).length = n} {base : Nat} {e : TypeId} {w : World} {v : Value} {l : List α} {T : Nat → Prop} (h : OwnF f n base e w v l) (hs : ∀ b, T b → b < base ∨ w.heap.size ≤ b) : KS T (Rep.flat n f hf) w v l :=
  fun _ c => OwnF.rd (h.chg c (fun k hk e => by have h1 := (h.block k hk).1; have h2 := (h.block k hk).2; rcases hs k e with h3 | h3 <;> omega))
theorem KS.st {α : Type} {S : Nat → Prop} {r : Rep α} {g : Nat} {w : World} {v : Value} {l : List α} (h : KS S r w v l) (hg : S g) : St g r w v l := fun w' c => h w' (c.mono (fun b hb => by have e : b = g := hb; rw [e]; exact hg))
end
section
open Go.ChangeShapes Go.WideShapes Go.ChangeAt Go.RowKit Go.Deep
section
variable {P : Program} {w : World} {ops : Array Oper} {rest : List Oper} {o : Oper} {a : Act} {Q : Exit → Act → World → Prop}
/-- append(out, src...), and where the new row lies; what the cells are is asked of src alone. -/
theorem appSp {t e : TypeId} {n bytes : Nat} (E : Elem P t e n bytes) {α : Type} {f : α → List Value} (hf : ∀ a, (f a).length = n) (hgd : o.guard = none) (s x : Operand)
    (ho : o.op = .call { callee := .builtin .append, args := #[s, x], argTypes := #[t, t] }) {base : Nat} {v vs : Value} {l : List α} (src : List α) (h1 : ∀ b ∈ src, ∀ u ∈ f b, u.oneCell' = true) (hs : a.eval s = v) (hown : OwnF f n base e w v l)
    (hx : a.eval x = vs) (hsrc : RdS (Rep.flat n f hf) w vs src)
    (hl : (l.length + src.length) * bytes ≤ 140737488355328) (hm : l.length + src.length ≤ maxLen) (hbase : base ≤ w.heap.size)
    (h : ∀ v' w', OwnF f n base e w' v' (l ++ src) → w.grownBy w' v.ownBlock → (v'.ownBlock = v.ownBlock ∨ v'.ownBlock = some w.heap.size) → wpList P ops Q rest (a.put o.dst v') w') : wpList P ops Q (o :: rest) a w := by
  obtain ⟨oa, cap, rfl, hc1, hc2, hn0, hel⟩ := hsrc
  cases oa with
  | none =>
    have hnil : src = [] := by
      cases src with
      | nil => rfl
      | cons b src => obtain ⟨_, _, _, he, _⟩ := hel 0 (by simp); cases he
    subst hnil
    obtain rfl := hn0 rfl
    refine wpList_append_own_none hgd s x t ho base e E.i n E.ht E.hi v l.length (l.flatMap f) hs hown hx ?_
    refine h v w ?_ (World.grownBy.refl _ _) (.inl rfl)
    rw [List.append_nil]
    exact hown
  | some ad =>
    refine wpList_append_own_at w hgd s x t ho base e E.i E.z n bytes E.ht E.hi E.hz E.hsize E.hby E.hzs E.hpos v l.length (l.flatMap f) hs hown ad src.length cap (src.flatMap f) hx (flatMap_len hf src) ?_ ?_ hm hl hbase ?_
    · intro j u hu
      have hjl : j < src.length * n := by rw [← flatMap_len hf src]; exact (List.getElem?_eq_some_iff.1 hu).1
      have hk : j / n < src.length := by rw [Nat.div_lt_iff_lt_mul E.hpos]; exact hjl
      have hr := Nat.mod_lt j E.hpos
      obtain ⟨b, off, cs, hb, hcell, rfl⟩ := hel (j / n) hk
      cases hb
      have hfm := flatMap_at hf src (j / n) hk (j % n) hr
      have hdm : j / n * n + j % n = j := by rw [Nat.mul_comm]; exact Nat.div_add_mod j n
      rw [hdm, hu] at hfm
      have := hcell (j % n) u hfm.symm
      have hadd : (⟨b, off, none⟩ : Addr).add j = ⟨b, off + j, none⟩ := by unfold Addr.add; split <;> simp_all
      rw [hadd]
      rw [← this]
      show _ = w.cell? ⟨b, off + j / n * n + j % n, none⟩
      rw [Nat.add_assoc, hdm]
    · intro u hu
      obtain ⟨b, hm', hb⟩ := List.mem_flatMap.1 hu
      exact h1 b hm' u hb
    · intro v' w' ho' hg _ hat
      refine h v' w' ?_ hg hat
      unfold OwnF
      rw [List.length_append, List.flatMap_append]
      exact ho'
variable {α β : Type} {n : Nat} {c : α → Value → List Value} {hc : ∀ a v, (c a v).length = n} {sub : α → List β} {e : TypeId} {I : Own β}
/-- append(out, x) where x holds a new slice and out owns S. -/
theorem appG {t : TypeId} {bytes : Nat} {S : Nat → Prop} (E : Elem P t e n bytes) (hgd : o.guard = none) (s x : Operand)
    (ho : o.op = .call { callee := .builtin .append, args := #[s, x], argTypes := #[t, t] }) {w0 : World} {v : Value} {l : List α} (b : α) (hv : Value) (T : Nat → Prop)
    (h1 : ∀ u ∈ c b hv, u.oneCell' = true) (hs : a.eval s = v) (hown : (Own.nest n c hc sub e I).own S w0 v l) (hx0 : Ext w0 w) (hi : I.own T w hv (sub b)) (hT : ∀ q, T q → w0.heap.size ≤ q ∧ q < w.heap.size)
    {g cp : Nat} (hx : a.eval x = .slice (some ⟨g, 0, none⟩) 1 cp) (hnews : ∀ j u, (c b hv)[j]? = some u → w.cell? ⟨g, j, none⟩ = some u)
    (hl : (l.length + 1) * bytes ≤ 140737488355328) (hm : l.length + 1 ≤ maxLen)
    (h : ∀ v' w', (Own.nest n c hc sub e I).own (fun q => S q ∨ (w0.heap.size ≤ q ∧ q < w'.heap.size)) w' v' (l ++ [b]) → w.grownBy w' v.ownBlock → (∀ q, v.ownBlock = some q → S q) → wpList P ops Q rest (a.put o.dst v') w') : wpList P ops Q (o :: rest) a w := by
  obtain ⟨qs, hq, hoq, hS, hqq, hd⟩ := hown
  have hlq : qs.length = l.length := by rw [← hq, List.length_map]
  refine app1p E (f := capF c) (fun q : Cap α => hc q.dat q.val) hgd s x ho (⟨b, hv, T⟩ : Cap α) h1 hs (hoq.ext hx0) hx hnews (by rw [hlq]; exact hl) (by rw [hlq]; exact hm) (Nat.zero_le _) ?_
  intro v' w' ho' hg hat
  refine h v' w' ?_ hg hS
  refine nest_push (S := S) (T := T) qs b hv hq hS hqq hd (fun k hk => (hoq.block k hk).2) hx0 hi (fun q hTq => ⟨.inr ⟨(hT q hTq).1, Nat.lt_of_lt_of_le (hT q hTq).2 hg.size⟩, (hT q hTq).1, (hT q hTq).2⟩) (fun q hq => .inl hq) hg ?_ ho'
  rcases hat with h2 | h2
  · exact .inl h2
  · exact .inr ⟨_, h2, Nat.le_refl _, .inr ⟨hx0.size, (ho'.block _ h2).2⟩⟩
/-- append(out, src...) where both rows hold slices; they share no block. -/
theorem appGS {t : TypeId} {bytes : Nat} {S S2 : Nat → Prop} (E : Elem P t e n bytes) (hgd : o.guard = none) (s x : Operand)
    (ho : o.op = .call { callee := .builtin .append, args := #[s, x], argTypes := #[t, t] }) {v vs : Value} {l src : List α}
    (h1 : ∀ (b : α) (oo : Option Addr) (m k : Nat), ∀ u ∈ c b (.slice oo m k), u.oneCell' = true) (hs : a.eval s = v) (hown : (Own.nest n c hc sub e I).own S w v l) (hx : a.eval x = vs) (hsrc : (Own.nest n c hc sub e I).own S2 w vs src) (hdis : ∀ b, S b → ¬ S2 b)
    (hl : (l.length + src.length) * bytes ≤ 140737488355328) (hm : l.length + src.length ≤ maxLen)
    (h : ∀ v' w', (Own.nest n c hc sub e I).own (fun q => (S q ∨ S2 q) ∨ (w.heap.size ≤ q ∧ q < w'.heap.size)) w' v' (l ++ src) → w.grownBy w' v.ownBlock → (∀ q, v.ownBlock = some q → S q) → wpList P ops Q rest (a.put o.dst v') w') : wpList P ops Q (o :: rest) a w := by
  obtain ⟨qs, hq, hoq, hS, hqq, hd⟩ := hown
  obtain ⟨qs2, hq2, hoq2, hS2, hqq2, hd2⟩ := hsrc
  have hlq : qs.length = l.length := by rw [← hq, List.length_map]
  have hlq2 : qs2.length = src.length := by rw [← hq2, List.length_map]
  have hf : ∀ q : Cap α, (capF c q).length = n := fun q : Cap α => hc q.dat q.val
  refine appSp E (f := capF c) hf hgd s x ho qs2 (fun q hqm u hu => ?_) hs hoq hx (OwnF.rd (hf := hf) hoq2) (by rw [hlq, hlq2]; exact hl) (by rw [hlq, hlq2]; exact hm) (Nat.zero_le _) ?_
  · obtain ⟨oo, k, hv, _⟩ := (I.rd (hqq2 q hqm).1).shape
    unfold capF at hu
    rw [hv] at hu
    exact h1 _ _ _ _ u hu
  intro v' w' ho' hg hat
  refine h v' w' ?_ hg hS
  have hch : Chg (fun b => v.ownBlock = some b) w w' := Chg.ofGrown hg (fun k hk => hk)
  have hne : ∀ b, b < w.heap.size → v.ownBlock ≠ some b → v'.ownBlock ≠ some b := by
    intro b hb hn
    rcases hat with h1 | h1
    · rw [h1]; exact hn
    · rw [h1]; intro e; cases e; omega
  have hn2 : ∀ b, S2 b → v.ownBlock ≠ some b := fun b hb e => hdis b (hS b e) hb
  refine ⟨qs ++ qs2, by rw [List.map_append, hq, hq2], ho', fun k hk => ?_, fun q hqm => ?_, fun i j hi' hj' hne' b hbi => ?_⟩
  · rcases hat with h1 | h1
    · rw [h1] at hk; exact .inl (.inl (hS k hk))
    · rw [h1] at hk; cases hk; exact .inr ⟨Nat.le_refl _, (ho'.block _ h1).2⟩
  · rcases List.mem_append.1 hqm with h1 | h1
    · obtain ⟨a1, a2⟩ := hqq q h1
      refine ⟨I.kept a1 hch (fun b hb => (a2 b hb).2.1), fun b hb => ?_⟩
      obtain ⟨x1, x2, x3⟩ := a2 b hb
      exact ⟨.inl (.inl x1), hne b x3 x2, Nat.lt_of_lt_of_le x3 hch.size⟩
    · obtain ⟨a1, a2⟩ := hqq2 q h1
      refine ⟨I.kept a1 hch (fun b hb => hn2 b (a2 b hb).1), fun b hb => ?_⟩
      obtain ⟨x1, x2, x3⟩ := a2 b hb
      exact ⟨.inl (.inr x1), hne b x3 (hn2 b x1), Nat.lt_of_lt_of_le x3 hch.size⟩
  · simp only [List.length_append] at hi' hj'
    rcases Nat.lt_or_ge i qs.length with e1 | e1
    · rw [List.getElem_append_left e1] at hbi
      rcases Nat.lt_or_ge j qs.length with e2 | e2
      · rw [List.getElem_append_left e2]; exact hd i j e1 e2 hne' b hbi
      · rw [List.getElem_append_right e2]
        intro h3
        exact hdis b ((hqq qs[i] (List.getElem_mem _)).2 b hbi).1 ((hqq2 _ (List.getElem_mem _)).2 b h3).1
    · rw [List.getElem_append_right e1] at hbi
      rcases Nat.lt_or_ge j qs.length with e2 | e2
      · rw [List.getElem_append_left e2]
        intro h3
        exact hdis b ((hqq qs[j] (List.getElem_mem _)).2 b h3).1 ((hqq2 _ (List.getElem_mem _)).2 b hbi).1
      · rw [List.getElem_append_right e2]
        exact hd2 _ _ (by omega) (by omega) (by omega) b hbi
end
end
section
open Go.ChangeShapes Go.WideShapes Go.ChangeAt Go.RowKit Go.Deep
section
variable {P : Program} {ops : Array Oper} {Q : Exit → Act → World → Prop} {C : World → Prop}
/-- Whatever order is picked: the world meets C behind each operation that X does not name. -/
def wpAnyX (P : Program) (ops : Array Oper) (Q : Exit → Act → World → Prop) (C : World → Prop) (X : Nat → Bool) : Nat → Array Bool → Act → World → Prop
  | 0, listed, a, w => Region.ready .any ops listed = [] ∧ Q .normal a w
  | fuel + 1, listed, a, w =>
    (Region.ready .any ops listed = [] → Q .normal a w) ∧
    ∀ i ∈ Region.ready .any ops listed, wpOp P ops Q i (fun a' w' => (X i = false → C w') ∧ wpAnyX P ops Q C X fuel (listed.setIfInBounds i true) a' w') a w
theorem wpAny_of_X {X : Nat → Bool} : ∀ (fuel : Nat) (listed : Array Bool) (a : Act) (w : World), wpAnyX P ops Q C X fuel listed a w → wpAny P .any ops Q fuel listed a w
  | 0, _, _, _, h => h
  | fuel + 1, _, _, _, h => ⟨h.1, fun i hi => wpOp_mono (fun a' w' h' => wpAny_of_X fuel _ a' w' h'.2) (h.2 i hi)⟩
theorem wpAnyX_first {X : Nat → Bool} {i : Nat} {oi : Oper} {v : Value} {n : Nat} (hi : ops[i]? = some oi) (hsel : ∀ (j : Nat) (o : Oper) cs b, ops[j]? = some o → o.op ≠ .select cs b)
    (hQ : ∀ c a w, Q (.panic c) (a.put oi.dst v) w → Q (.panic c) a w) :
    ∀ (fuel : Nat) (listed : Array Bool) (a : Act) (w : World), Closed ops listed →
      (∀ j oj, ops[j]? = some oj → j ≠ i → listed.getD j true = false → (∀ e ∈ oj.after, Region.binds .any e = true → e.on ≠ i) → oi.apart ops oj = true) →
      (∀ j oj, ops[j]? = some oj → j ≠ i → listed.getD j true = false → X j = false ∨ waitsT ops n j i = true) →
      i ∈ Region.ready .any ops listed → YieldsIf P ops C oi v a → C w →
      wpAnyX P ops Q C X fuel (listed.setIfInBounds i true) (a.put oi.dst v) w → wpAnyX P ops Q C X (fuel + 1) listed a w := by
  intro fuel
  induction fuel with
  | zero =>
    intro listed a w _ _ _ hr hy hC H
    refine ⟨fun h => (by rw [h] at hr; cases hr), fun j hj => ?_⟩
    by_cases hji : j = i
    · subst hji; exact hy.wpOp hi hC ⟨fun _ => hC, H⟩
    · have := ready_mono hj hji
      rw [H.1] at this
      cases this
  | succ fuel ih =>
    intro listed a w hc hfree hX hr hy hC H
    refine ⟨fun h => (by rw [h] at hr; cases hr), fun j hj => ?_⟩
    by_cases hji : j = i
    · subst hji; exact hy.wpOp hi hC ⟨fun _ => hC, H⟩
    · have h1 := H.2 j (ready_mono hj hji)
      obtain ⟨hjun, oj, hoj, hall⟩ := mem_ready.1 hj
      have h0 := (mem_ready.1 hr).1
      have hXj : X j = false := by
        rcases hX j oj hoj hji hjun with h4 | h4
        · exact h4
        · exact absurd hj (hc.not_ready h4 h0)
      have hnot : ∀ e ∈ oj.after, Region.binds .any e = true → e.on ≠ i := fun e he hb heq => by
        have h1 := hall e he hb
        rw [heq] at h1
        rcases Nat.lt_or_ge i listed.size with h' | h'
        · simp [h'] at h0 h1; rw [h0] at h1; cases h1
        · simp [Array.getElem?_eq_none h'] at h1
      have h2 := wpOp_putIf hoj (hfree j oj hoj hji hjun hnot) (fun cs b => hsel i oi cs b hi) (fun cs b => hsel j oj cs b hoj) hQ hy h1
      have hstep : ∀ k, (listed.setIfInBounds j true).getD k true = false → listed.getD k true = false := fun k hun => by
        by_cases hjk : j = k
        · subst hjk; exact hjun
        · rw [getD_set_ne true hjk] at hun; exact hun
      refine wpOp_mono (fun a' w' h3 => ⟨h3.2.1, ih (listed.setIfInBounds j true) a' w' (hc.set hj) (fun k ok hk hki hun hno => hfree k ok hk hki (hstep k hun) hno) (fun k ok hok hk hun => hX k ok hok hk (hstep k hun)) (ready_mono hr (Ne.symm hji)) h3.1 (h3.2.1 hXj) ?_⟩) h2
      rw [Array.setIfInBounds_comm _ _ hji]
      exact h3.2.2
theorem wpAnyX_done {X : Nat → Bool} {listed : Array Bool} {a : Act} {w : World} (hr : Region.ready .any ops listed = []) (h : Q .normal a w) : ∀ fuel, wpAnyX P ops Q C X fuel listed a w
  | 0 => ⟨hr, h⟩
  | _ + 1 => ⟨fun _ => h, by rw [hr]; simp⟩
/-- The last operations come up one by one. -/
def lastX (ops : Array Oper) : List Nat → Array Bool → Bool
  | [], listed => (Region.ready .any ops listed).isEmpty
  | i :: l, listed => (Region.ready .any ops listed == [i]) && lastX ops l (listed.setIfInBounds i true)
def plainX (ops : Array Oper) (xs : List Nat) (listed : Array Bool) (i : Nat) : Bool := (List.range ops.size).all fun j => j == i || listed.getD j true || !xs.contains j || waitsT ops ops.size j i
def schedX (ops : Array Oper) (xs : List Nat) : List (Nat × Bool) → Array Bool → Bool
  | [], listed => lastX ops xs listed
  | (i, true) :: rest, listed => ((ops[i]?).map fun o => plainOp o.op).getD false && (Region.ready .any ops listed).contains i && Region.free .any ops listed i && plainX ops xs listed i && schedX ops xs rest (listed.setIfInBounds i true)
  | (i, false) :: rest, listed => (Region.ready .any ops listed == [i]) && !xs.contains i && schedX ops xs rest (listed.setIfInBounds i true)
def wpSchedX (P : Program) (ops : Array Oper) (Q : Exit → Act → World → Prop) (C : World → Prop) (xs : List Nat) : List (Oper × Bool) → Act → World → Prop
  | [], a, w => wpList P ops Q (pickOps ops xs) a w
  | (o, true) :: rest, a, w => if Region.wanted o (yielded ops a.tmps) then o.quiet P a C (fun a' => wpSchedX P ops Q C xs rest a' w) else wpSchedX P ops Q C xs rest (a.put o.dst undef) w
  | (o, false) :: rest, a, w => wpList P ops (Exit.then (fun a' w' => C w' ∧ wpSchedX P ops Q C xs rest a' w') Q) [o] a w
theorem wpList_op {o : Oper} {l : List Oper} {a : Act} {w : World} {i : Nat} (ho : ops[i]? = some o) (h : wpList P ops Q (o :: l) a w) : wpOp P ops Q i (fun a' w' => wpList P ops Q l a' w') a w := by
  unfold wpOp
  simp only [ho]
  simp only [wpList] at h
  exact h
theorem wpAnyX_last {X : Nat → Bool} (hX : ∀ i, X i = false → C = C) (hall : ∀ i w, X i = true → (X i = false → C w)) :
    ∀ (xs : List Nat) (fuel : Nat) (listed : Array Bool) (a : Act) (w : World), (∀ i ∈ xs, X i = true) → xs.length ≤ fuel → lastX ops xs listed = true → wpList P ops Q (pickOps ops xs) a w → wpAnyX P ops Q C X fuel listed a w
  | [], fuel, listed, a, w, _, _, hB, h => wpAnyX_done (by simpa [lastX] using hB) (by simpa [pickOps, wpList] using h) fuel
  | i :: l, 0, _, _, _, _, hf, _, _ => absurd hf (by simp)
  | i :: l, fuel + 1, listed, a, w, hx, hf, hB, h => by
    simp only [lastX, Bool.and_eq_true] at hB
    obtain ⟨hr, hB'⟩ := hB
    have hr' : Region.ready .any ops listed = [i] := by simpa using hr
    have hm : i ∈ Region.ready .any ops listed := by rw [hr']; simp
    obtain ⟨_, oi, hoi, _⟩ := mem_ready.1 hm
    refine ⟨fun h0 => absurd (hr' ▸ h0) (by simp), fun j hj => ?_⟩
    obtain rfl : j = i := by rw [hr'] at hj; simpa using hj
    have hp : pickOps ops (j :: l) = oi :: pickOps ops l := by simp [pickOps, hoi]
    rw [hp] at h
    exact wpOp_mono (fun a' w' hh => ⟨hall j w' (hx j (by simp)), wpAnyX_last hX hall l fuel _ a' w' (fun k hk => hx k (by simp [hk])) (by simpa using hf) hB' hh⟩) (wpList_op hoi h)
theorem wpAnyX_sched (hs : Region.noSelect ops = true) (hQ : ∀ c (a : Act) d v w, Q (.panic c) (a.put d v) w → Q (.panic c) a w) (xs : List Nat) :
    ∀ (l : List (Nat × Bool)) (fuel : Nat) (listed : Array Bool) (a : Act) (w : World), l.length + xs.length ≤ fuel → Closed ops listed → schedX ops xs l listed = true → C w → wpSchedX P ops Q C xs (schedOps ops l) a w → wpAnyX P ops Q C (fun j => xs.contains j) fuel listed a w
  | [], fuel, listed, a, w, hf, _, hB, _, h => wpAnyX_last (fun _ _ => rfl) (fun i _ h1 h2 => by rw [h1] at h2; cases h2) xs fuel listed a w (fun i hi => by simpa using hi) (by simpa using hf) hB h
  | (i, t) :: rest, 0, _, _, _, hf, _, _, _, _ => absurd hf (by simp)
  | (i, true) :: rest, fuel + 1, listed, a, w, hf, hc, hB, hC, h => by
    simp only [schedX, Bool.and_eq_true] at hB
    obtain ⟨⟨⟨⟨hp, hr⟩, hfr⟩, hpx⟩, hB'⟩ := hB
    have hr2 : i ∈ Region.ready .any ops listed := by simpa using hr
    have hlx : ∀ j oj, ops[j]? = some oj → j ≠ i → listed.getD j true = false → xs.contains j = false ∨ waitsT ops ops.size j i = true := by
      intro j oj hoj hji hun
      unfold plainX at hpx
      have := List.all_eq_true.1 hpx j (List.mem_range.2 (Array.getElem?_eq_some_iff.1 hoj).1)
      simp only [Bool.or_eq_true, beq_iff_eq, Bool.not_eq_true'] at this
      rcases this with ((h1 | h1) | h1) | h1
      · exact absurd h1 hji
      · rw [h1] at hun; cases hun
      · exact .inl h1
      · exact .inr h1
    cases ho : ops[i]? with
    | none => simp [ho] at hp
    | some o =>
      have hp' : plainOp o.op = true := by simpa [ho] using hp
      have hso : schedOps ops ((i, true) :: rest) = (o, true) :: schedOps ops rest := by simp [schedOps, ho]
      rw [hso] at h
      simp only [wpSchedX] at h
      have hl : rest.length + xs.length ≤ fuel := by simp at hf; omega
      by_cases hw : Region.wanted o (yielded ops a.tmps) = true
      · rw [if_pos hw] at h
        obtain ⟨v, hv, hn⟩ := h
        exact wpAnyX_first ho (Region.noSelect_spec hs) (fun c a w => hQ c a _ _ w) fuel listed a w hc (Region.free_spec ho hfr) hlx hr2 (yieldsIf_of_quiet hp' hw hv) hC (wpAnyX_sched hs hQ xs rest fuel _ _ _ hl (hc.set hr2) hB' hC hn)
      · rw [if_neg hw] at h
        exact wpAnyX_first (v := undef) ho (Region.noSelect_spec hs) (fun c a w => hQ c a _ _ w) fuel listed a w hc (Region.free_spec ho hfr) hlx hr2 (.inr ⟨by simpa using hw, rfl⟩) hC (wpAnyX_sched hs hQ xs rest fuel _ _ _ hl (hc.set hr2) hB' hC h)
  | (i, false) :: rest, fuel + 1, listed, a, w, hf, hc, hB, hC, h => by
    simp only [schedX, Bool.and_eq_true] at hB
    obtain ⟨⟨hr, hx⟩, hB'⟩ := hB
    have hr' : Region.ready .any ops listed = [i] := by simpa using hr
    have hm : i ∈ Region.ready .any ops listed := by rw [hr']; simp
    obtain ⟨_, oi, hoi, _⟩ := mem_ready.1 hm
    have hso : schedOps ops ((i, false) :: rest) = (oi, false) :: schedOps ops rest := by simp [schedOps, hoi]
    rw [hso] at h
    simp only [wpSchedX] at h
    refine ⟨fun h0 => absurd (hr' ▸ h0) (by simp), fun j hj => ?_⟩
    obtain rfl : j = i := by rw [hr'] at hj; simpa using hj
    exact wpOp_mono (fun a' w' hh => ⟨fun _ => hh.1, wpAnyX_sched hs hQ xs rest fuel _ _ _ (by simp at hf; omega) (hc.set hm) hB' hh.1 hh.2⟩) (wpList_one hoi h)
/-- Blocks of plain operations, each with one that comes up alone; plain ones; then the last ones. -/
def wpBlocksX (P : Program) (ops : Array Oper) (Q : Exit → Act → World → Prop) (C : World → Prop) (xs : List Nat) : List (List Nat × Nat) → List Nat → Act → World → Prop
  | [], tail, a, w => wpQuiet P ops C (fun a' => wpList P ops Q (pickOps ops xs) a' w) (pickOps ops tail) a
  | (l1, s) :: bs, tail, a, w => wpQuiet P ops C (fun a' => wpList P ops (Exit.then (fun a2 w2 => C w2 ∧ wpBlocksX P ops Q C xs bs tail a2 w2) Q) (pickOps ops [s]) a' w) (pickOps ops l1) a
theorem wpSchedX_quiet {xs : List Nat} {rest : List (Oper × Bool)} {w : World} : ∀ (l1 : List Oper) (a : Act), wpQuiet P ops C (fun a' => wpSchedX P ops Q C xs rest a' w) l1 a → wpSchedX P ops Q C xs (l1.map (fun o => (o, true)) ++ rest) a w
  | [], _, h => h
  | o :: l1, a, h => by
    simp only [List.map_cons, List.cons_append, wpSchedX, wpQuiet] at h ⊢
    by_cases hw : Region.wanted o (yielded ops a.tmps) = true
    · rw [if_pos hw] at h ⊢
      obtain ⟨v, hv, hn⟩ := h
      exact ⟨v, hv, wpSchedX_quiet l1 _ hn⟩
    · rw [if_neg hw] at h ⊢
      exact wpSchedX_quiet l1 _ h
theorem wpSchedX_blocks {xs : List Nat} : ∀ (bs : List (List Nat × Nat)) (tail : List Nat), (∀ b ∈ bs, b.2 < ops.size) → ∀ (a : Act) (w : World), wpBlocksX P ops Q C xs bs tail a w → wpSchedX P ops Q C xs (schedOps ops (blocks bs tail)) a w
  | [], tail, _, a, w, h => by
    simp only [blocks, schedOps_plain]
    have := wpSchedX_quiet (Q := Q) (xs := xs) (rest := []) (w := w) (pickOps ops tail) a h
    simpa using this
  | (l1, s) :: bs, tail, hb, a, w, h => by
    have hs : s < ops.size := hb (l1, s) (by simp)
    have ho : ops[s]? = some ops[s] := by simp [hs]
    have hso : schedOps ops ((s, false) :: blocks bs tail) = (ops[s], false) :: schedOps ops (blocks bs tail) := by simp [schedOps, ho]
    have hps : pickOps ops [s] = [ops[s]] := by simp [pickOps, ho]
    simp only [blocks, schedOps_append, schedOps_plain, hso]
    refine wpSchedX_quiet (pickOps ops l1) a (wpQuiet_mono (fun a' h' => ?_) _ _ h)
    rw [hps] at h'
    have hm : ∀ e a2 w2, Exit.then (fun a2 w2 => C w2 ∧ wpBlocksX P ops Q C xs bs tail a2 w2) Q e a2 w2 → Exit.then (fun a2 w2 => C w2 ∧ wpSchedX P ops Q C xs (schedOps ops (blocks bs tail)) a2 w2) Q e a2 w2 := by
      intro e a2 w2 hh
      cases e with
      | normal => exact ⟨hh.1, wpSchedX_blocks bs tail (fun b hbm => hb b (by simp [hbm])) a2 w2 hh.2⟩
      | _ => exact hh
    exact wpList_mono hm h'
/-- The region: worlds that differ from its own at blocks of S alone, until the last operations. -/
theorem wp_region_fin {id : Nat} {a : Act} {w : World} (S : Nat → Prop) (bs : List (List Nat × Nat)) (tail xs : List Nat) (hm : P.follows .mixedOrders = true) (hs : Region.noSelect ops = true)
    (hB : (decide ((blocks bs tail).length + xs.length ≤ ops.size) && bs.all (fun b => decide (b.2 < ops.size)) && schedX ops xs (blocks bs tail) (Array.replicate ops.size false)) = true)
    (h : wpBlocksX P ops (NoPanic Q) (fun w1 => ∃ x : ChgSW S w, w1 = x.w') xs bs tail a w.drew) : (Code.region id ops true).wp P Q a w := by
  simp only [Bool.and_eq_true, List.all_eq_true] at hB
  obtain ⟨⟨h1, h2⟩, h3⟩ := hB
  refine wp_region_noPanic ?_
  exact wp_region_any hm (wpAny_of_X _ _ _ _ (wpAnyX_sched (C := fun w1 => ∃ x : ChgSW S w, w1 = x.w') hs (fun _ _ _ _ _ h => h) xs (blocks bs tail) _ _ _ _ (of_decide_eq_true h1) (Closed.start _) h3 ⟨⟨_, Chg.ofExt (Ext.refl w).drew⟩, rfl⟩ (wpSchedX_blocks bs tail (fun b hb => of_decide_eq_true (h2 b hb)) a w.drew h)))
end
end
section
open Go.ChangeShapes Go.WideShapes Go.ChangeAt Go.RowKit Go.Deep
set_option maxRecDepth 100000 in
set_option maxHeartbeats 2000000 in
theorem s_l3Word (g : Nat)  (cv : Value) (cd : List Int) (w : World) (hc : Cur g cv cd w) :
  Calls Try.prog 187 #[.pointer (some ⟨g, 0, none⟩)] w fun e w' => ∃ r : Int, e = .returned (.int .i64 r) ∧ -1 ≤ r ∧ r ≤ 2147483648 ∧ Cur g cv cd w' ∧ Chg (at1 g) w w' := by
 go_enter Try.func187, Try.ntmps187
 go_wp2_with fail
 refine (s_l1Once g (10) _ _ _ hc).mono ?_
 rintro e w1 ⟨b, rfl, hc1, hz1⟩
 cases b
 case true =>
  go_wp2_with fail
  refine (s_l1Int g [-1, 2147483647, 2147483648] _ _ _ hc1 (by decide) (by decide)).mono ?_
  rintro e w2 ⟨r, rfl, hmr, hc2, hz2⟩
  have hbr : -1 ≤ r ∧ r ≤ 2147483648 := by simp at hmr; omega
  obtain ⟨hr0, hr1⟩ := hbr
  clear hmr
  go_wp2_with fail
  go_ret
  exact ⟨r, rfl, by omega, by omega, hc2, (hz1.trans hz2)⟩
 case false =>
  go_wp2_with fail
  refine (s_l1Once g (4) _ _ _ hc1).mono ?_
  rintro e w3 ⟨b2, rfl, hc3, hz3⟩
  cases b2
  case true =>
   go_wp2_with fail
   refine (s_l1Int g [0, 1, 2147483646] _ _ _ hc3 (by decide) (by decide)).mono ?_
   rintro e w4 ⟨r, rfl, hmr, hc4, hz4⟩
   have hbr : 0 ≤ r ∧ r ≤ 2147483646 := by simp at hmr; omega
   obtain ⟨hr0, hr1⟩ := hbr
   clear hmr
   go_wp2_with fail
   go_ret
   exact ⟨r, rfl, by omega, by omega, hc4, ((hz1.trans hz3).trans hz4)⟩
  case false =>
   go_wp2_with fail
   refine (s_l1Below g (1000000) _ _ _ hc3).mono ?_
   rintro e w5 ⟨x, rfl, hx0, hx1, hc5, hz5⟩
   have hx2 : x < 1000000 := by omega
   clear hx1
   go_wp2_with fail
   refine (s_l1Below g (2000) _ _ _ hc5).mono ?_
   rintro e w6 ⟨y, rfl, hy0, hy1, hc6, hz6⟩
   have hy2 : y < 2000 := by omega
   clear hy1
   have hp0 : 0 ≤ x * y := Int.mul_nonneg hx0 hy0
   have hp1 : x * y ≤ 999999 * 1999 := Int.mul_le_mul (by omega) (by omega) hy0 (by decide)
   go_wp2_with fail
   go_ret
   exact ⟨_, rfl, by omega, by omega, hc6, (((hz1.trans hz3).trans hz5).trans hz6)⟩
end
section
open Go.ChangeShapes Go.WideShapes Go.ChangeAt Go.RowKit Go.Deep
def revParts (l : List Part) : List Part := (l.map revPart).reverse
def revPath (x : Pth) : Pth := ⟨revParts x.parts⟩
theorem revParts_len (l : List Part) : (revParts l).length = l.length := by simp [revParts]
end
end Go.Proofs.Ytikbeiafobnblaa
