/- What these laws need: FnFlips, FnForwards, FnReplies: Appending one datum to a row of the call's own. Contracts of the functions on parts and paths, program and reference. Contracts of the arithmetic modulo the prime, program and reference. Marking and holding parts and paths: the contracts of the laws' helper functions. -/
import Derived.Deep.RegionHeld3
import Derived.Deep.AppendLies
import Derived.Laws.AppendOwnNone
import Derived.Deep.DeepCutAuto
import Derived.Deep.LoopGhost
import Derived.IntWalk
import Derived.Test.YtikbeiafobnblaaGreatKR3
namespace Go.Proofs.YtikbeiafobnblaaGreat
section
open Go.ChangeShapes Go.WideShapes Go.ChangeAt Go.RowKit Go.Deep
section
variable {P : Program} {w : World} {ops : Array Oper} {rest : List Oper} {o : Oper} {a : Act} {Q : Exit → Act → World → Prop}
/-- The same inside a region that draws its order. -/
theorem stepApp1 {t e : TypeId} {n bytes : Nat} (E : Elem P t e n bytes) {α : Type} {f : α → List Value} (hf : ∀ a, (f a).length = n) (h1 : ∀ b, ∀ u ∈ f b, u.oneCell' = true) {K : Act → World → Prop} {Ep : Prop} (hgd : o.guard = none) (s x : Operand)
    (ho : o.op = .call { callee := .builtin .append, args := #[s, x], argTypes := #[t, t] }) {base : Nat} {v : Value} {l : List α} (b : α) (hs : a.eval s = v) (hown : OwnF f n base e w v l)
    {g c : Nat} (hx : a.eval x = .slice (some ⟨g, 0, none⟩) 1 c) (hnews : ∀ j u, (f b)[j]? = some u → w.cell? ⟨g, j, none⟩ = some u)
    (hl : (l.length + 1) * bytes ≤ 140737488355328) (hm : l.length + 1 ≤ maxLen) (hbase : base ≤ w.heap.size)
    (h : ∀ v' w', OwnF f n base e w' v' (l ++ [b]) → w.grownBy w' v.ownBlock → K (a.put o.dst v') w') :
    if Region.wanted o (yielded ops a.tmps) = true then Oper.wp P o a w K Q else Ep := by
  have hw : Region.wanted o (yielded ops a.tmps) = true := by simp [Region.wanted, hgd]
  rw [if_pos hw]
  refine wp_append_own w s x t ho base e E.i E.z n bytes E.ht E.hi E.hz E.hsize E.hby E.hzs E.hpos v l.length (l.flatMap f) hs hown ⟨g, 0, none⟩ 1 c (f b) hx (by rw [hf, Nat.one_mul]) ?_ (h1 b) hm hl hbase ?_
  · intro j u hu
    have hadd : (⟨g, 0, none⟩ : Addr).add j = ⟨g, j, none⟩ := by unfold Addr.add; split <;> simp_all
    rw [hadd]
    exact hnews j u hu
  · intro v' w' ho' hg _
    refine h v' w' ?_ hg
    unfold OwnF
    rw [List.length_append, List.flatMap_append, List.flatMap_cons, List.flatMap_nil, List.append_nil]
    exact ho'
end
end
section
open Go.ChangeShapes Go.WideShapes Go.ChangeAt Go.RowKit Go.Deep
set_option maxHeartbeats 1000000 in
theorem i_PartIngress (x : Part) (v : Value) (i : Int) (w : World) (r : RdS Hop.rep w v x.hops) :
  Calls Tryz.prog 156 #[.agg #[.int .i64 x.kind, .int .i64 x.ts, .int .i64 x.beta, v], .int .i64 i] w fun e w' => e = .returned (.int .i64 (partIn x i)) ∧ Ext w w' := by
 obtain ⟨o, cap, rfl, hsm⟩ := r.shape
 have hx0 : Ext w (w.alloc (.cells #[.int .i64 x.kind, .int .i64 x.ts, .int .i64 x.beta, .slice o x.hops.length cap] 47)) := (Ext.refl _).alloc _
 go_enter Tryz.func156, Tryz.ntmps156
 go_wp2_with fail
 refine (i_InRange _ _ _ _).mono ?_
 rintro e w1 ⟨rfl, rfl⟩
 cases hin : inR i 0 (x.hops.length - 1)
 ·
  have he : partIn x i = 0 := by unfold partIn; rw [if_neg (inR_false.1 hin)]
  have HE := Lib.hid he; clear he
  go_wp2_with fail
  go_ret
  exact ⟨ret_int HE.out.symm, hx0⟩
 ·
  obtain ⟨h1, h2⟩ := inR_true.1 hin
  obtain ⟨k, rfl⟩ := Int.eq_ofNat_of_zero_le h1
  have hk : k < x.hops.length := by omega
  have he := partIn_at hk
  have HE := Lib.hid he; clear he
  obtain ⟨b, off, rfl, hc⟩ := Hop.at (r.ext hx0) k hk
  go_wp2_with fail
  refine (i_IsReversed _ _).mono ?_
  rintro e w1 ⟨rfl, rfl⟩
  cases hrv : isRev x.kind
  ·
   have hh : hopIn x.kind x.hops[k] = x.hops[k].ing := by simp [hopIn, hrv]
   have HH := Lib.hid (HE.out.trans hh); clear hh
   go_wp2_with fail
   go_ret
   exact ⟨ret_int HH.out.symm, hx0⟩
  ·
   have hh : hopIn x.kind x.hops[k] = x.hops[k].eg := by simp [hopIn, hrv]
   have HH := Lib.hid (HE.out.trans hh); clear hh
   go_wp2_with fail
   go_ret
   exact ⟨ret_int HH.out.symm, hx0⟩
set_option maxHeartbeats 1000000 in
theorem i_PartEgress (x : Part) (v : Value) (i : Int) (w : World) (r : RdS Hop.rep w v x.hops) :
  Calls Tryz.prog 155 #[.agg #[.int .i64 x.kind, .int .i64 x.ts, .int .i64 x.beta, v], .int .i64 i] w fun e w' => e = .returned (.int .i64 (partEg x i)) ∧ Ext w w' := by
 obtain ⟨o, cap, rfl, hsm⟩ := r.shape
 have hx0 : Ext w (w.alloc (.cells #[.int .i64 x.kind, .int .i64 x.ts, .int .i64 x.beta, .slice o x.hops.length cap] 47)) := (Ext.refl _).alloc _
 go_enter Tryz.func155, Tryz.ntmps155
 go_wp2_with fail
 refine (i_InRange _ _ _ _).mono ?_
 rintro e w1 ⟨rfl, rfl⟩
 cases hin : inR i 0 (x.hops.length - 1)
 ·
  have he : partEg x i = 0 := by unfold partEg; rw [if_neg (inR_false.1 hin)]
  have HE := Lib.hid he; clear he
  go_wp2_with fail
  go_ret
  exact ⟨ret_int HE.out.symm, hx0⟩
 ·
  obtain ⟨h1, h2⟩ := inR_true.1 hin
  obtain ⟨k, rfl⟩ := Int.eq_ofNat_of_zero_le h1
  have hk : k < x.hops.length := by omega
  have he := partEg_at hk
  have HE := Lib.hid he; clear he
  obtain ⟨b, off, rfl, hc⟩ := Hop.at (r.ext hx0) k hk
  go_wp2_with fail
  refine (i_IsReversed _ _).mono ?_
  rintro e w1 ⟨rfl, rfl⟩
  cases hrv : isRev x.kind
  ·
   have hh : hopEg x.kind x.hops[k] = x.hops[k].eg := by simp [hopEg, hrv]
   have HH := Lib.hid (HE.out.trans hh); clear hh
   go_wp2_with fail
   go_ret
   exact ⟨ret_int HH.out.symm, hx0⟩
  ·
   have hh : hopEg x.kind x.hops[k] = x.hops[k].ing := by simp [hopEg, hrv]
   have HH := Lib.hid (HE.out.trans hh); clear hh
   go_wp2_with fail
   go_ret
   exact ⟨ret_int HH.out.symm, hx0⟩
end
section
open Go.ChangeShapes Go.WideShapes Go.ChangeAt Go.RowKit Go.Deep
theorem subMod_res (b s : Int) : isRes (subMod b s) = true := by
 rw [isRes_true]; unfold subMod; split <;> omega
end
section
open Go.ChangeShapes Go.WideShapes Go.ChangeAt Go.RowKit Go.Deep
theorem hopsN_cons (x : Part) (l : List Part) : hopsN (x :: l) = x.hops.length + hopsN l := by simp [hopsN, Part.size]
end
end Go.Proofs.YtikbeiafobnblaaGreat
