/- Contracts of copying hops, parts and paths, program and reference. No condition but the bounds that each theorem names. -/
import Derived.Test.YtkolfiedakojoaaW30r
import Derived.Test.YtkolfiedakojoaaAppN
import Derived.Test.YtkolfiedakojoaaTyPkt
namespace Go.Proofs.Ytkolfiedakojoaa
open Go.ChangeShapes Go.WideShapes Go.ChangeAt Go.RowKit Go.Deep

theorem elemPartC : Nonempty (Elem Try.prog 25 95 4 48) := Elem.mk' Try.underlying25 Try.infoPart rfl (by decide)
theorem part_oneC (x : Part) (o : Option Addr) (n c : Nat) : ∀ u ∈ Part.c x (.slice o n c), u.oneCell' = true := by
  intro u hu
  simp only [Part.c, List.mem_cons, List.not_mem_nil, or_false] at hu
  rcases hu with rfl | rfl | rfl | rfl <;> rfl
theorem take_snocE {α : Type} {l : List α} {k : Nat} (hk : k < l.length) : l.take k ++ [l[k]] = l.take (k + 1) := (List.take_succ_eq_append_getElem hk).symm
set_option maxHeartbeats 400000 in
theorem i_copyHops (l : List Hop) (v : Value) (w : World) (hv : RdS Hop.rep w v l) (hl : l.length ≤ 1048576) :
    Calls Try.prog 113 #[v] w fun e w' => ∃ v', e = .returned v' ∧ OwnF Hop.f 5 w.heap.size 73 w' v' l ∧ Ext w w' := by
  obtain ⟨E⟩ := elemHop
  go_enter Try.func113, Try.ntmps113
  go_wp2_with (at_builtin; refine appS E Hop.flen Hop.one rfl _ _ rfl l rfl (OwnF.empty Hop.f 5 w.heap.size _ w (Nat.le_refl _)) rfl (hv.ext ((Ext.refl _).alloc _)) (by first | omega | (simp; omega)) (by first | (unfold maxLen; omega) | (simp [maxLen]; omega)) (by simp) ?_)
  intro v' w' ho' hg'
  have hx' : Ext w w' := ((Ext.refl w).alloc _).app hg' (OwnF.empty Hop.f 5 w.heap.size 73 w (Nat.le_refl _)) (Nat.le_refl _)
  try rw [List.nil_append] at ho'
  clear hg'
  go_wp2
  go_ret
  exact ⟨_, rfl, ho', hx'⟩

set_option maxRecDepth 100000 in
set_option maxHeartbeats 2000000 in
theorem s_l21Copy (x : Part) (v : Value) (w : World) (r : RdS Hop.rep w v x.hops) (hl : x.hops.length ≤ 1048576) :
    Calls Try.prog 149 #[.agg #[.int .i64 x.kind, .int .i64 x.ts, .int .i64 x.beta, v]] w fun e w' => ∃ u, e = .returned (.agg #[.int .i64 x.kind, .int .i64 x.ts, .int .i64 x.beta, u]) ∧ OwnF Hop.f 5 (w.heap.size + 3) 73 w' u x.hops ∧ Ext w w' := by
  obtain ⟨E⟩ := elemHop
  obtain ⟨o, cap, rfl, hsm⟩ := r.shape
  have hx0 := (ext3 w (.cells #[.int .i64 x.kind, .int .i64 x.ts, .int .i64 x.beta, .slice o x.hops.length cap] 95) (.cells #[.int .i64 0, .int .i64 0, .int .i64 0, .slice none 0 0] 95) (.cells #[.int .i64 x.kind, .int .i64 x.ts, .int .i64 x.beta, .slice o x.hops.length cap] 95))
  have hB := al3 w (.cells #[.int .i64 x.kind, .int .i64 x.ts, .int .i64 x.beta, .slice o x.hops.length cap] 95) (.cells #[.int .i64 0, .int .i64 0, .int .i64 0, .slice none 0 0] 95) (.cells #[.int .i64 x.kind, .int .i64 x.ts, .int .i64 x.beta, .slice o x.hops.length cap] 95)
  have HB := Lib.hid hB; clear hB
  have hrx := r.ext (hx0.alloc (.cells #[] 73))
  go_enter Try.func149, Try.ntmps149
  go_wp2_with (at_builtin; refine appS (v := .slice (some ⟨w.heap.size + 1 + 1 + 1, 0, none⟩) 0 0) (l := []) E Hop.flen Hop.one rfl _ _ rfl x.hops rfl (OwnF.emptyAt (f := Hop.f) (n := 5) (base := w.heap.size + 3) (by simp) (by omega)) rfl hrx (by first | omega | (simp; omega)) (by first | (unfold maxLen; omega) | (simp [maxLen]; omega)) (by simp) ?_)
  intro v' w' ho' hg'
  have hblk (q : Nat) (ob : Obj) (hq : q < w.heap.size + 3) (h : (((w.alloc (.cells #[.int .i64 x.kind, .int .i64 x.ts, .int .i64 x.beta, .slice o x.hops.length cap] 95)).alloc (.cells #[.int .i64 0, .int .i64 0, .int .i64 0, .slice none 0 0] 95)).alloc (.cells #[.int .i64 x.kind, .int .i64 x.ts, .int .i64 x.beta, .slice o x.hops.length cap] 95)).heap[q]? = some ob) : w'.heap[q]? = some ob :=
    (hg'.block q (by simp; omega) (by simp [Value.ownBlock]; omega)).trans (Ext.block ((Ext.refl _).alloc _) h)
  have hb1 := hblk _ _ (by omega) HB.out.2.1
  have hb2 := hblk _ _ (by omega) HB.out.2.2
  have hx' : Ext w w' := (hx0.alloc _).grown hg' (fun k hk => by simp [Value.ownBlock] at hk; omega)
  have hsz : w.heap.size + 3 ≤ w'.heap.size := Nat.le_trans (by simp) hg'.size
  try rw [List.nil_append] at ho'
  clear hg' hblk
  obtain ⟨oo, co, rfl, _⟩ := (OwnF.rd (hf := Hop.flen) ho').shape
  have c1 := blk4 hb1
  have c2 := blk4 hb2
  have g0 := fr_of hb1 0
  have g1 := fr_of hb1 1
  have g2 := fr_of hb1 2
  have g3 := fr_of hb1 3
  have gg := fr_of hb2 3
  clear hb1 hb2
  go_wp2_with fail
  refine bodyPost_ret (v := .agg #[.int .i64 x.kind, .int .i64 x.ts, .int .i64 x.beta, .slice oo x.hops.length co]) (by simp [results, Try.results149, go_sem, c1]) rfl ⟨_, rfl, ?_, ?_⟩
  · exact ((((ho'.set (by simp) _).set (by simp) _).set (by simp) _).set (by simp) _).set (by simp) _
  · exact ((((hx'.setCell (by simp; omega) _).setCell (by simp) _).setCell (by simp) _).setCell (by simp) _).setCell (by simp) _



end Go.Proofs.Ytkolfiedakojoaa
