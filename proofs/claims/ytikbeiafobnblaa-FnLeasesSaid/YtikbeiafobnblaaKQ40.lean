/- What these laws need: FnLeases: Contracts of the rates along paths, program and reference. Contracts of reserving along a path, program and reference. -/
import Derived.Test.YtikbeiafobnblaaKQ38
namespace Go.Proofs.Ytikbeiafobnblaa
section
open Go.ChangeShapes Go.WideShapes Go.ChangeAt Go.RowKit Go.Deep
section
variable {P : Program} {w : World} {ops : Array Oper} {rest : List Oper} {o : Oper} {a : Act} {Q : Exit → Act → World → Prop}
/-- append(out, x), and where the new row lies. -/
theorem app1at {t e : TypeId} {n bytes : Nat} (E : Elem P t e n bytes) {α : Type} {f : α → List Value} (hf : ∀ a, (f a).length = n) (h1 : ∀ b, ∀ u ∈ f b, u.oneCell' = true) (hgd : o.guard = none) (s x : Operand)
  (ho : o.op = .call { callee := .builtin .append, args := #[s, x], argTypes := #[t, t] }) {base : Nat} {v : Value} {l : List α} (b : α) (hs : a.eval s = v) (hown : OwnF f n base e w v l)
  {g c : Nat} (hx : a.eval x = .slice (some ⟨g, 0, none⟩) 1 c) (hnews : ∀ j u, (f b)[j]? = some u → w.cell? ⟨g, j, none⟩ = some u)
  (hl : (l.length + 1) * bytes ≤ 140737488355328) (hm : l.length + 1 ≤ maxLen) (hbase : base ≤ w.heap.size)
  (h : ∀ v' w', OwnF f n base e w' v' (l ++ [b]) → w.grownBy w' v.ownBlock → (v'.ownBlock = v.ownBlock ∨ v'.ownBlock = some w.heap.size) → wpList P ops Q rest (a.put o.dst v') w') : wpList P ops Q (o :: rest) a w := by
 refine wpList_append_own_at w hgd s x t ho base e E.i E.z n bytes E.ht E.hi E.hz E.hsize E.hby E.hzs E.hpos v l.length (l.flatMap f) hs hown ⟨g, 0, none⟩ 1 c (f b) hx (by rw [hf, Nat.one_mul]) ?_ (h1 b) hm hl hbase ?_
 ·
  intro j u hu
  have hadd : (⟨g, 0, none⟩ : Addr).add j = ⟨g, j, none⟩ := by unfold Addr.add; split <;> simp_all
  rw [hadd]
  exact hnews j u hu
 ·
  intro v' w' ho' hg _ hat
  refine h v' w' ?_ hg hat
  unfold OwnF
  rw [List.length_append, List.flatMap_append, List.flatMap_cons, List.flatMap_nil, List.append_nil]
  exact ho'
end
/-- Two rows that share no block: what an append leaves of it. -/
theorem apart_app {v v' u : Value} {N : Nat} (h : ∀ q, v.ownBlock = some q → u.ownBlock ≠ some q) (hu : ∀ q, u.ownBlock = some q → q < N) (hat : v'.ownBlock = v.ownBlock ∨ v'.ownBlock = some N) : ∀ q, v'.ownBlock = some q → u.ownBlock ≠ some q := by
 intro q hq e
 rcases hat with h1 | h1
 ·
  rw [h1] at hq; exact h q hq e
 ·
  rw [h1] at hq; cases hq; exact absurd (hu _ e) (Nat.lt_irrefl _)
theorem OwnF.keptA {α β : Type} {n m : Nat} {f : α → List Value} {f' : β → List Value} {base base' : Nat} {e e' : TypeId} {w w' : World} {v u : Value} {l : List α} {l' : List β} (h' : OwnF f' m base' e' w u l') (_ : OwnF f n base e w v l) (hne : ∀ q, v.ownBlock = some q → u.ownBlock ≠ some q) (hg : w.grownBy w' v.ownBlock) : OwnF f' m base' e' w' u l' :=
 h'.chg (Chg.ofGrown (S := fun q => v.ownBlock = some q) hg (fun _ h => h)) (fun q hq h2 => hne q h2 hq)
theorem al4 (w : World) (o1 o2 o3 o4 : Obj) : ((((w.alloc o1).alloc o2).alloc o3).alloc o4).heap[w.heap.size]? = some o1 ∧ ((((w.alloc o1).alloc o2).alloc o3).alloc o4).heap[w.heap.size + 1]? = some o2 ∧ ((((w.alloc o1).alloc o2).alloc o3).alloc o4).heap[w.heap.size + 1 + 1]? = some o3 ∧ ((((w.alloc o1).alloc o2).alloc o3).alloc o4).heap[w.heap.size + 1 + 1 + 1]? = some o4 := by
 have h := al3 w o1 o2 o3
 refine ⟨Ext.block ((Ext.refl _).alloc o4) h.1, Ext.block ((Ext.refl _).alloc o4) h.2.1, Ext.block ((Ext.refl _).alloc o4) h.2.2, ?_⟩
 have := blk_new (((w.alloc o1).alloc o2).alloc o3) o4
 rwa [nblk_alloc, nblk_alloc, nblk_alloc] at this
def egSteps (l : List Step) : List Step := l.filter (fun s => s.eg != 0)
theorem egSteps_len (l : List Step) : (egSteps l).length ≤ l.length := List.length_filter_le _ _
def pathResvd (rs : List Resv) (id : Int) (y : Pth) (now : Int) : Bool := ((egSteps (pathSteps y.parts)).all fun s => !(resvRate rs id s.asn s.eg now == 0)) && decide (0 < (egSteps (pathSteps y.parts)).length)
def leastTo (f : Step → Int) (l : List Step) : Nat → Int
 | 0 => 0
 | k + 1 => match l[k]? with
  | some s => if k == 0 || decide (f s < leastTo f l k) then f s else leastTo f l k
  | none => leastTo f l k
theorem leastTo_succ {f : Step → Int} {l : List Step} {k : Nat} (h : k < l.length) : leastTo f l (k + 1) = if k == 0 || decide (f l[k] < leastTo f l k) then f l[k] else leastTo f l k := by
 simp [leastTo, h]
def pathRate (rs : List Resv) (id : Int) (y : Pth) (now : Int) : Int := leastTo (fun s => resvRate rs id s.asn s.eg now) (egSteps (pathSteps y.parts)) (egSteps (pathSteps y.parts)).length
def availRate (rs : List Resv) (y : Pth) (c now : Int) : Int := leastTo (fun s => freeRate rs c s.asn s.eg now) (egSteps (pathSteps y.parts)) (egSteps (pathSteps y.parts)).length
theorem all_snoc {α : Type} (p : α → Bool) {l : List α} {k : Nat} (hk : k < l.length) : (l.take (k + 1)).all p = ((l.take k).all p && p l[k]) := by
 rw [List.take_succ_eq_append_getElem hk, List.all_append]; simp
theorem all_miss {α : Type} (p : α → Bool) {l : List α} {k : Nat} (hk : k < l.length) (h : p l[k] = false) : l.all p = false := List.all_eq_false.2 ⟨l[k], List.getElem_mem _, by simp [h]⟩
set_option maxHeartbeats 2000000 in
theorem i_EgressSteps (x : Pth) (v : Value) (w : World) (r : RdS Part.rep w v x.parts) (hl : x.size ≤ 1048576) :
  Calls Try.prog 68 #[.agg #[v]] w fun e w' => ∃ v', e = .returned v' ∧ OwnF Step.f 3 w.heap.size 120 w' v' (egSteps (pathSteps x.parts)) ∧ Ext w w' := by
 obtain ⟨E⟩ := elemStp
 have hps := pathSteps_len x.parts
 have hlS : (pathSteps x.parts).length ≤ 1048576 := by unfold Pth.size at hl; omega
 have hx0 : Ext w (w.alloc (.cells #[v] 46)) := (Ext.refl _).alloc _
 have ho0 := OwnF.nil Step.f 3 w.heap.size 120 (w.alloc (.cells #[v] 46))
 go_enter Try.func68, Try.ntmps68
 go_wp2_with fail
 refine (i_PathSteps x _ _ (r.ext hx0) hl).mono ?_
 rintro e w1 ⟨v1, rfl, o1, h1⟩
 have hx1 := hx0.trans h1
 have ho1 := ho0.ext h1
 clear hps
 obtain ⟨o, cap, rfl, hsm⟩ := (OwnF.rd (hf := Step.flen) o1).shape
 have HN := Lib.hid (show ∀ q, (.slice none 0 0 : Value).ownBlock = some q → (Value.slice o (pathSteps x.parts).length cap).ownBlock ≠ some q from fun q hq e => by cases hq)
 generalize hL : pathSteps x.parts = l at *
 have HL := Lib.hid hL; clear hL
 go_wp2
 go_loopg [3, 9] l.length (fun gk out i wr => ∃ k : Nat, gk + k = l.length ∧ i = .int .i64 k ∧ OwnF Step.f 3 w.heap.size 120 wr out (egSteps (l.take k)) ∧ Hid (∀ q, out.ownBlock = some q → (Value.slice o l.length cap).ownBlock ≠ some q) ∧ OwnF Step.f 3 0 120 wr (.slice o l.length cap) l ∧ Ext w wr)
 case atStart => exact ⟨0, rfl, rfl, ho1, HN, o1.mono (Nat.zero_le _), hx1⟩
 case round =>
  obtain ⟨k, hgk, rfl, hown, HNE, hos, hx⟩ := hrel
  have hln : (egSteps (l.take k)).length ≤ k := Nat.le_trans (egSteps_len _) (List.length_take_le _ _)
  by_cases hlt : k < l.length
  ·
   obtain ⟨g, cap', hv', _, _⟩ := hos.some_shape (by omega)
   cases hv'
   have hc := Step.own_at hos k hlt
   have hg' : gk - 1 + (k + 1) = l.length ∧ gk - 1 < gk := by omega
   have HG := Lib.hid hg'; clear hg' hgk
   cases h1 : (l[k].eg != 0)
   ·
    have hnext : egSteps (l.take k) = egSteps (l.take (k + 1)) := filter_neg (α := Step) (fun s => s.eg != 0) hlt (by simp [h1])
    have HE := Lib.hid hnext; clear hnext
    go_wp2_with fail
    go_roundg (gk - 1)
    case measure => exact HG.out.2
    case rel => exact ⟨k + 1, HG.out.1, by go_num, by rw [← HE.out]; exact hown.ext ((Ext.refl _).alloc _), HNE, hos.ext ((Ext.refl _).alloc _), hx.alloc _⟩
   ·
    have hnext : egSteps (l.take k) ++ [l[k]] = egSteps (l.take (k + 1)) := filter_pos (α := Step) (fun s => s.eg != 0) hlt h1
    have HE := Lib.hid hnext; clear hnext
    generalize egSteps (l.take k) = out at *
    go_wp2_with (at_builtin; refine app1at E Step.flen Step.one rfl _ _ rfl l[k] rfl (OwnF.ext hown (((Ext.refl _).alloc _).alloc _)) rfl (by exact blk_list l[k].f (blk_new2 wr _ _)) (by omega) (by unfold maxLen; omega) (by exact ((hx.alloc _).alloc _).size) ?_)
    intro v' w' ho' hg' hat
    have hx' : Ext w w' := ((hx.alloc _).alloc _).app hg' hown (Nat.le_refl _)
    have hos' := OwnF.keptA (OwnF.ext hos (((Ext.refl _).alloc _).alloc _)) (OwnF.ext hown (((Ext.refl _).alloc _).alloc _)) HNE.out hg'
    have HNE' := Lib.hid (apart_app HNE.out (fun q hq => by have := (hos.block q hq).2; omega) hat)
    rw [HE.out] at ho'
    clear hg' hat
    go_wp2_with fail
    go_roundg (gk - 1)
    case measure => exact HG.out.2
    case rel => exact ⟨k + 1, HG.out.1, by go_num, ho', HNE', hos', hx'⟩
  ·
   rw [List.take_of_length_le (by omega)] at hown
   go_wp2
   go_ret
   rw [HL.out]
   exact ⟨_, rfl, hown, hx⟩
set_option maxHeartbeats 2000000 in
theorem s_EgressSteps (x : Pth) (v : Value) (w : World) (r : RdS Part.rep w v x.parts) (hl : x.size ≤ 1048576) :
  Calls Try.prog 69 #[.agg #[v]] w fun e w' => ∃ v', e = .returned v' ∧ OwnF Step.f 3 w.heap.size 120 w' v' (egSteps (pathSteps x.parts)) ∧ Ext w w' := by
 obtain ⟨E⟩ := elemStp
 have hps := pathSteps_len x.parts
 have hlS : (pathSteps x.parts).length ≤ 1048576 := by unfold Pth.size at hl; omega
 have hx0 : Ext w ((w.alloc (.cells #[v] 46)).alloc (.cells #[] 120)) := ((Ext.refl _).alloc _).alloc _
 have ho0 := (OwnF.empty Step.f 3 (w.alloc (.cells #[v] 46)).heap.size 120 (w.alloc (.cells #[v] 46)) (Nat.le_refl _)).mono ((Ext.refl w).alloc (.cells #[v] 46)).size
 simp only [nblk_alloc] at ho0
 go_enter Try.func69, Try.ntmps69
 go_wp2_with fail
 refine (s_PathSteps x _ _ (r.ext hx0) hl).mono ?_
 rintro e w1 ⟨v1, rfl, o1, h1⟩
 have hx1 := hx0.trans h1
 have ho1 := ho0.ext h1
 clear hps
 obtain ⟨o, cap, rfl, hsm⟩ := (OwnF.rd (hf := Step.flen) o1).shape
 have HN := Lib.hid (show ∀ q, (.slice (some ⟨w.heap.size + 1, 0, none⟩) 0 0 : Value).ownBlock = some q → (Value.slice o (pathSteps x.parts).length cap).ownBlock ≠ some q from fun q hq e => by have h3 := (o1.block q e).1; have h4 := (ho0.block q hq).2; omega)
 generalize hL : pathSteps x.parts = l at *
 have HL := Lib.hid hL; clear hL
 go_wp2
 go_loopg [3, 5] l.length (fun gk out i wr => ∃ k : Nat, gk + k = l.length ∧ i = .int .i64 k ∧ OwnF Step.f 3 w.heap.size 120 wr out (egSteps (l.take k)) ∧ Hid (∀ q, out.ownBlock = some q → (Value.slice o l.length cap).ownBlock ≠ some q) ∧ OwnF Step.f 3 0 120 wr (.slice o l.length cap) l ∧ Ext w wr)
 case atStart => exact ⟨0, rfl, rfl, ho1, HN, o1.mono (Nat.zero_le _), hx1⟩
 case round =>
  obtain ⟨k, hgk, rfl, hown, HNE, hos, hx⟩ := hrel
  have hln : (egSteps (l.take k)).length ≤ k := Nat.le_trans (egSteps_len _) (List.length_take_le _ _)
  by_cases hlt : k < l.length
  ·
   obtain ⟨g, cap', hv', _, _⟩ := hos.some_shape (by omega)
   cases hv'
   have hc := Step.own_at hos k hlt
   have hg' : gk - 1 + (k + 1) = l.length ∧ gk - 1 < gk := by omega
   have HG := Lib.hid hg'; clear hg' hgk
   cases h1 : (l[k].eg != 0)
   ·
    have hnext : egSteps (l.take k) = egSteps (l.take (k + 1)) := filter_neg (α := Step) (fun s => s.eg != 0) hlt (by simp [h1])
    have HE := Lib.hid hnext; clear hnext
    go_wp2_with fail
    go_roundg (gk - 1)
    case measure => exact HG.out.2
    case rel => exact ⟨k + 1, HG.out.1, by go_num, by rw [← HE.out]; exact hown, HNE, hos, hx⟩
   ·
    have hnext : egSteps (l.take k) ++ [l[k]] = egSteps (l.take (k + 1)) := filter_pos (α := Step) (fun s => s.eg != 0) hlt h1
    have HE := Lib.hid hnext; clear hnext
    generalize egSteps (l.take k) = out at *
    go_wp2_with (at_builtin; refine app1at E Step.flen Step.one rfl _ _ rfl l[k] rfl (OwnF.ext hown ((Ext.refl _).alloc _)) rfl (by exact blk_list l[k].f (blk_new wr _)) (by omega) (by unfold maxLen; omega) (by exact (hx.alloc _).size) ?_)
    intro v' w' ho' hg' hat
    have hx' : Ext w w' := (hx.alloc _).app hg' hown (Nat.le_refl _)
    have hos' := OwnF.keptA (OwnF.ext hos ((Ext.refl _).alloc _)) (OwnF.ext hown ((Ext.refl _).alloc _)) HNE.out hg'
    have HNE' := Lib.hid (apart_app HNE.out (fun q hq => by have := (hos.block q hq).2; omega) hat)
    rw [HE.out] at ho'
    clear hg' hat
    go_wp2_with fail
    go_roundg (gk - 1)
    case measure => exact HG.out.2
    case rel => exact ⟨k + 1, HG.out.1, by go_num, ho', HNE', hos', hx'⟩
  ·
   rw [List.take_of_length_le (by omega)] at hown
   go_wp2
   go_ret
   rw [HL.out]
   exact ⟨_, rfl, hown, hx⟩
set_option maxHeartbeats 2000000 in
theorem i_PathReserved (rs : List Resv) (u : Value) (id : Int) (y : Pth) (v : Value) (now : Int) (w : World) (ru : RdS Resv.rep w u rs) (r : RdS Part.rep w v y.parts) (hl : y.size ≤ 1048576) :
  Calls Try.prog 57 #[u, .int .i64 id, .agg #[v], .int .i64 now] w fun e w' => e = .returned (.bool (pathResvd rs id y now)) ∧ Ext w w' := by
 obtain ⟨ou, cu, rfl, _⟩ := ru.shape
 obtain ⟨ov, cv, rfl, _⟩ := r.shape
 have hx0 : Ext w (w.alloc (.cells #[.slice ov y.parts.length cv] 46)) := (Ext.refl _).alloc _
 go_enter Try.func57, Try.ntmps57
 go_wp2_with fail
 refine (i_EgressSteps y _ _ (r.ext hx0) hl).mono ?_
 rintro e w1 ⟨v1, rfl, o1, hx1⟩
 have hrv : pathResvd rs id y now = (((egSteps (pathSteps y.parts)).all fun s => !(resvRate rs id s.asn s.eg now == 0)) && decide (0 < (egSteps (pathSteps y.parts)).length)) := rfl
 have HR := Lib.hid hrv; clear hrv
 generalize egSteps (pathSteps y.parts) = l at *
 obtain ⟨oa, ca, rfl, hsa⟩ := (OwnF.rd (hf := Step.flen) o1).shape
 go_wp2
 go_loopg [16] l.length (fun gk i wr => ∃ k : Nat, gk + k = l.length ∧ i = .int .i64 k ∧ ((l.take k).all fun s => !(resvRate rs id s.asn s.eg now == 0)) = true ∧ Ext w1 wr)
 case atStart => exact ⟨0, rfl, rfl, rfl, Ext.refl _⟩
 case round =>
  obtain ⟨k, hgk, rfl, hno, hx⟩ := hrel
  have HN := Lib.hid hno; clear hno
  by_cases hlt : k < l.length
  ·
   obtain ⟨b, off, rfl, hc⟩ := Step.at ((OwnF.rd (hf := Step.flen) o1).ext hx) k hlt
   have hg' : gk - 1 + (k + 1) = l.length ∧ gk - 1 < gk := by omega
   have HG := Lib.hid hg'; clear hg' hgk
   go_wp2_with fail

   refine (i_ReservationRate rs _ id l[k].asn l[k].eg now _ (ru.ext ((hx0.trans hx1).trans hx |>.alloc _))).mono ?_
   rintro e w2 ⟨rfl, h2⟩
   have hx2 := (hx.alloc _).trans h2

   cases haf : (resvRate rs id l[k].asn l[k].eg now == 0)
   ·
    have hn2 : ((l.take (k + 1)).all fun s => !(resvRate rs id s.asn s.eg now == 0)) = true := by rw [all_snoc _ hlt, haf]; simp only [Bool.not_false, Bool.and_true]; exact HN.out
    have HN2 := Lib.hid hn2; clear hn2
    go_wp2_with fail

    go_roundg (gk - 1)
    case measure => exact HG.out.2
    case rel => exact ⟨k + 1, HG.out.1, by go_num, HN2.out, hx2⟩
   ·
    have hy : pathResvd rs id y now = false := by rw [HR.out, all_miss _ hlt (by rw [haf]; rfl)]; rfl
    have HY := Lib.hid hy; clear hy
    go_wp2_with fail

    go_ret
    exact ⟨ret_bool HY.out.symm, (hx0.trans hx1).trans hx2⟩
  ·
   have hy : pathResvd rs id y now = decide (0 < l.length) := by
    have := HN.out
    rw [List.take_of_length_le (by omega)] at this
    rw [HR.out, this, Bool.true_and]
   have HY := Lib.hid hy; clear hy
   by_cases h0 : 0 < l.length
   ·
    have HY2 := Lib.hid (HY.out.trans (decide_eq_true h0))
    have q0 : (0 : Int) < (l.length : Int) := by omega
    go_wp2
    go_ret
    exact ⟨ret_bool HY2.out.symm, (hx0.trans hx1).trans hx⟩
   ·
    have HY2 := Lib.hid (HY.out.trans (decide_eq_false h0))
    have q0 : ¬ (0 : Int) < (l.length : Int) := by omega
    go_wp2
    go_ret
    exact ⟨ret_bool HY2.out.symm, (hx0.trans hx1).trans hx⟩
set_option maxHeartbeats 2000000 in
theorem s_PathReserved (rs : List Resv) (u : Value) (id : Int) (y : Pth) (v : Value) (now : Int) (w : World) (ru : RdS Resv.rep w u rs) (r : RdS Part.rep w v y.parts) (hl : y.size ≤ 1048576) :
  Calls Try.prog 58 #[u, .int .i64 id, .agg #[v], .int .i64 now] w fun e w' => e = .returned (.bool (pathResvd rs id y now)) ∧ Ext w w' := by
 obtain ⟨ou, cu, rfl, _⟩ := ru.shape
 obtain ⟨ov, cv, rfl, _⟩ := r.shape
 have hx0 : Ext w (w.alloc (.cells #[.slice ov y.parts.length cv] 46)) := (Ext.refl _).alloc _
 go_enter Try.func58, Try.ntmps58
 go_wp2_with fail
 refine (s_EgressSteps y _ _ (r.ext hx0) hl).mono ?_
 rintro e w1 ⟨v1, rfl, o1, hx1⟩
 have hrv : pathResvd rs id y now = (((egSteps (pathSteps y.parts)).all fun s => !(resvRate rs id s.asn s.eg now == 0)) && decide (0 < (egSteps (pathSteps y.parts)).length)) := rfl
 have HR := Lib.hid hrv; clear hrv
 generalize egSteps (pathSteps y.parts) = l at *
 obtain ⟨oa, ca, rfl, hsa⟩ := (OwnF.rd (hf := Step.flen) o1).shape
 go_wp2
 go_loopg [10] l.length (fun gk i wr => ∃ k : Nat, gk + k = l.length ∧ i = .int .i64 k ∧ ((l.take k).all fun s => !(resvRate rs id s.asn s.eg now == 0)) = true ∧ Ext w1 wr)
 case atStart => exact ⟨0, rfl, rfl, rfl, Ext.refl _⟩
 case round =>
  obtain ⟨k, hgk, rfl, hno, hx⟩ := hrel
  have HN := Lib.hid hno; clear hno
  by_cases hlt : k < l.length
  ·
   obtain ⟨b, off, rfl, hc⟩ := Step.at ((OwnF.rd (hf := Step.flen) o1).ext hx) k hlt
   have hg' : gk - 1 + (k + 1) = l.length ∧ gk - 1 < gk := by omega
   have HG := Lib.hid hg'; clear hg' hgk
   go_wp2_with fail
   refine planStep (.blk [0, 1, 2, 3, 4, 5, 6, 7, 8, 9, 10, 11, 12] (.one 13 (.blk [14] .done))) [] (by kernel_rfl) (by kernel_rfl) ?_
   refine blkStep (fun K HK => ?_)
   simp only [PK]
   go_wp2_with fail
   refine HK.out _ _ ?_
   clear HK K
   refine oneStep (fun K HK => ?_)
   simp only [PK]
   go_wp2_with fail

   refine (s_ReservationRate rs _ id l[k].asn l[k].eg now _ (ru.ext ((hx0.trans hx1).trans hx).drew)).mono ?_
   rintro e w2 ⟨rfl, h2⟩
   have hx2 := hx.drew.trans h2

   cases haf : (resvRate rs id l[k].asn l[k].eg now == 0)
   ·
    have hn2 : ((l.take (k + 1)).all fun s => !(resvRate rs id s.asn s.eg now == 0)) = true := by rw [all_snoc _ hlt, haf]; simp only [Bool.not_false, Bool.and_true]; exact HN.out
    have HN2 := Lib.hid hn2; clear hn2
    go_wp2_with fail
    refine HK.out _ _ (h2) ?_
    clear HK K
    refine blkStep (fun K HK => ?_)
    simp only [PK]
    go_wp2_with fail
    refine HK.out _ _ ?_
    clear HK K
    refine doneStep (by kernel_rfl) ?_
    go_wp2_with fail

    go_roundg (gk - 1)
    case measure => exact HG.out.2
    case rel => exact ⟨k + 1, HG.out.1, by go_num, HN2.out, hx2⟩
   ·
    have hy : pathResvd rs id y now = false := by rw [HR.out, all_miss _ hlt (by rw [haf]; rfl)]; rfl
    have HY := Lib.hid hy; clear hy
    go_wp2_with fail
    refine HK.out _ _ (h2) ?_
    clear HK K
    refine blkStep (fun K HK => ?_)
    simp only [PK]
    go_wp2_with fail
    refine HK.out _ _ ?_
    clear HK K
    refine doneStep (by kernel_rfl) ?_
    go_wp2_with fail

    go_ret
    exact ⟨ret_bool HY.out.symm, (hx0.trans hx1).trans hx2⟩
  ·
   have hy : pathResvd rs id y now = decide (0 < l.length) := by
    have := HN.out
    rw [List.take_of_length_le (by omega)] at this
    rw [HR.out, this, Bool.true_and]
   have HY := Lib.hid hy; clear hy
   by_cases h0 : 0 < l.length
   ·
    have HY2 := Lib.hid (HY.out.trans (decide_eq_true h0))
    have q0 : (0 : Int) < (l.length : Int) := by omega
    go_wp2
    go_ret
    exact ⟨ret_bool HY2.out.symm, (hx0.trans hx1).trans hx⟩
   ·
    have HY2 := Lib.hid (HY.out.trans (decide_eq_false h0))
    have q0 : ¬ (0 : Int) < (l.length : Int) := by omega
    go_wp2
    go_ret
    exact ⟨ret_bool HY2.out.symm, (hx0.trans hx1).trans hx⟩
set_option maxHeartbeats 2000000 in
theorem s_PathRate (rs : List Resv) (u : Value) (id : Int) (y : Pth) (v : Value) (now : Int) (w : World) (ru : RdS Resv.rep w u rs) (r : RdS Part.rep w v y.parts) (hl : y.size ≤ 1048576) :
  Calls Try.prog 60 #[u, .int .i64 id, .agg #[v], .int .i64 now] w fun e w' => e = .returned (.int .i64 (pathRate rs id y now)) ∧ Ext w w' := by
 obtain ⟨ou, cu, rfl, _⟩ := ru.shape
 obtain ⟨ov, cv, rfl, _⟩ := r.shape
 have hx0 : Ext w (w.alloc (.cells #[.slice ov y.parts.length cv] 46)) := (Ext.refl _).alloc _
 go_enter Try.func60, Try.ntmps60
 go_wp2_with fail
 refine (s_EgressSteps y _ _ (r.ext hx0) hl).mono ?_
 rintro e w1 ⟨v1, rfl, o1, hx1⟩
 have hrv : pathRate rs id y now = leastTo (fun s => resvRate rs id s.asn s.eg now) (egSteps (pathSteps y.parts)) (egSteps (pathSteps y.parts)).length := rfl
 have HR := Lib.hid hrv; clear hrv
 generalize egSteps (pathSteps y.parts) = l at *
 obtain ⟨oa, ca, rfl, hsa⟩ := (OwnF.rd (hf := Step.flen) o1).shape
 go_wp2
 go_loopg [10, 11] l.length (fun gk t i wr => ∃ k : Nat, gk + k = l.length ∧ i = .int .i64 k ∧ t = .int .i64 (leastTo (fun s => resvRate rs id s.asn s.eg now) l k) ∧ Ext w1 wr)
 case atStart => exact ⟨0, rfl, rfl, rfl, Ext.refl _⟩
 case round =>
  obtain ⟨k, hgk, rfl, rfl, hx⟩ := hrel
  by_cases hlt : k < l.length
  ·
   obtain ⟨b, off, rfl, hc⟩ := Step.at ((OwnF.rd (hf := Step.flen) o1).ext hx) k hlt
   have hg' : gk - 1 + (k + 1) = l.length ∧ gk - 1 < gk := by omega
   have HG := Lib.hid hg'; clear hg' hgk
   have HS := Lib.hid (leastTo_succ (f := fun s => resvRate rs id s.asn s.eg now) hlt)
   generalize leastTo (fun s => resvRate rs id s.asn s.eg now) l k = t0 at *
   go_wp2_with fail
   refine planStep (.blk [0, 1, 2, 3, 4, 5, 6, 7, 8, 9, 10, 11, 12] (.one 13 (.blk [14] .done))) [] (by kernel_rfl) (by kernel_rfl) ?_

   refine blkStep (fun K HK => ?_)
   simp only [PK]
   go_wp2_with fail
   refine HK.out _ _ ?_
   clear HK K

   refine oneStep (fun K HK => ?_)
   simp only [PK]
   go_wp2_with fail

   refine (s_ReservationRate rs _ id l[k].asn l[k].eg now _ (ru.ext ((hx0.trans hx1).trans hx).drew)).mono ?_
   rintro e w2 ⟨rfl, h2⟩
   have hx2 := hx.drew.trans h2
   generalize resvRate rs id l[k].asn l[k].eg now = n0 at *
   go_wp2_with fail
   refine HK.out _ _ (h2) ?_
   clear HK K
   refine blkStep (fun K HK => ?_)
   simp only [PK]
   go_wp2_with fail
   refine HK.out _ _ ?_
   clear HK K
   refine doneStep (by kernel_rfl) ?_

   cases h0 : ((k : Int) == 0)
   ·
    have h0' : (k == 0) = false := by
     rw [beq_eq_false_iff_ne] at h0 ⊢; omega
    rw [h0', Bool.false_or] at HS
    by_cases h1 : n0 < t0
    ·
     have HS2 := Lib.hid (HS.out.trans (by rw [decide_eq_true h1]; rfl) : _ = n0)
     go_wp2_with fail
     go_roundg (gk - 1)
     case measure => exact HG.out.2
     case rel => exact ⟨k + 1, HG.out.1, by go_num, by rw [HS2.out], hx2⟩
    ·
     have HS2 := Lib.hid (HS.out.trans (by rw [decide_eq_false h1]; rfl) : _ = t0)
     go_wp2_with fail
     go_roundg (gk - 1)
     case measure => exact HG.out.2
     case rel => exact ⟨k + 1, HG.out.1, by go_num, by rw [HS2.out], hx2⟩
   ·
    have h0' : (k == 0) = true := by
     rw [beq_iff_eq] at h0 ⊢; omega
    rw [h0', Bool.true_or] at HS
    have HS2 := Lib.hid (HS.out.trans rfl : _ = n0)
    have HK0 := Lib.hid h0'; clear h0'
    go_wp2_with fail
    go_roundg (gk - 1)
    case measure => exact HG.out.2
    case rel => exact ⟨k + 1, HG.out.1, by go_num, by rw [HS2.out], hx2⟩
  ·
   obtain rfl : k = l.length := by omega
   go_wp2
   go_ret
   exact ⟨ret_int HR.out.symm, (hx0.trans hx1).trans hx⟩
set_option maxHeartbeats 2000000 in
theorem s_AvailableRate (rs : List Resv) (u : Value) (y : Pth) (v : Value) (c now : Int) (w : World) (ru : RdS Resv.rep w u rs) (r : RdS Part.rep w v y.parts) (hl : y.size ≤ 1048576) :
  Calls Try.prog 62 #[u, .agg #[v], .int .i64 c, .int .i64 now] w fun e w' => e = .returned (.int .i64 (availRate rs y c now)) ∧ Ext w w' := by
 obtain ⟨ou, cu, rfl, _⟩ := ru.shape
 obtain ⟨ov, cv, rfl, _⟩ := r.shape
 have hx0 : Ext w (w.alloc (.cells #[.slice ov y.parts.length cv] 46)) := (Ext.refl _).alloc _
 go_enter Try.func62, Try.ntmps62
 go_wp2_with fail
 refine (s_EgressSteps y _ _ (r.ext hx0) hl).mono ?_
 rintro e w1 ⟨v1, rfl, o1, hx1⟩
 have hrv : availRate rs y c now = leastTo (fun s => freeRate rs c s.asn s.eg now) (egSteps (pathSteps y.parts)) (egSteps (pathSteps y.parts)).length := rfl
 have HR := Lib.hid hrv; clear hrv
 generalize egSteps (pathSteps y.parts) = l at *
 obtain ⟨oa, ca, rfl, hsa⟩ := (OwnF.rd (hf := Step.flen) o1).shape
 go_wp2
 go_loopg [10, 11] l.length (fun gk t i wr => ∃ k : Nat, gk + k = l.length ∧ i = .int .i64 k ∧ t = .int .i64 (leastTo (fun s => freeRate rs c s.asn s.eg now) l k) ∧ Ext w1 wr)
 case atStart => exact ⟨0, rfl, rfl, rfl, Ext.refl _⟩
 case round =>
  obtain ⟨k, hgk, rfl, rfl, hx⟩ := hrel
  by_cases hlt : k < l.length
  ·
   obtain ⟨b, off, rfl, hc⟩ := Step.at ((OwnF.rd (hf := Step.flen) o1).ext hx) k hlt
   have hg' : gk - 1 + (k + 1) = l.length ∧ gk - 1 < gk := by omega
   have HG := Lib.hid hg'; clear hg' hgk
   have HS := Lib.hid (leastTo_succ (f := fun s => freeRate rs c s.asn s.eg now) hlt)
   generalize leastTo (fun s => freeRate rs c s.asn s.eg now) l k = t0 at *
   go_wp2_with fail
   refine planStep (.blk [0, 1, 2, 3, 4, 5, 6, 7, 8, 9, 10, 11, 12] (.one 13 (.blk [14] .done))) [] (by kernel_rfl) (by kernel_rfl) ?_

   refine blkStep (fun K HK => ?_)
   simp only [PK]
   go_wp2_with fail
   refine HK.out _ _ ?_
   clear HK K

   refine oneStep (fun K HK => ?_)
   simp only [PK]
   go_wp2_with fail

   refine (s_FreeRate rs _ c l[k].asn l[k].eg now _ (ru.ext ((hx0.trans hx1).trans hx).drew)).mono ?_
   rintro e w2 ⟨rfl, h2⟩
   have hx2 := hx.drew.trans h2
   generalize freeRate rs c l[k].asn l[k].eg now = n0 at *
   go_wp2_with fail
   refine HK.out _ _ (h2) ?_
   clear HK K
   refine blkStep (fun K HK => ?_)
   simp only [PK]
   go_wp2_with fail
   refine HK.out _ _ ?_
   clear HK K
   refine doneStep (by kernel_rfl) ?_

   cases h0 : ((k : Int) == 0)
   ·
    have h0' : (k == 0) = false := by
     rw [beq_eq_false_iff_ne] at h0 ⊢; omega
    rw [h0', Bool.false_or] at HS
    by_cases h1 : n0 < t0
    ·
     have HS2 := Lib.hid (HS.out.trans (by rw [decide_eq_true h1]; rfl) : _ = n0)
     go_wp2_with fail
     go_roundg (gk - 1)
     case measure => exact HG.out.2
     case rel => exact ⟨k + 1, HG.out.1, by go_num, by rw [HS2.out], hx2⟩
    ·
     have HS2 := Lib.hid (HS.out.trans (by rw [decide_eq_false h1]; rfl) : _ = t0)
     go_wp2_with fail
     go_roundg (gk - 1)
     case measure => exact HG.out.2
     case rel => exact ⟨k + 1, HG.out.1, by go_num, by rw [HS2.out], hx2⟩
   ·
    have h0' : (k == 0) = true := by
     rw [beq_iff_eq] at h0 ⊢; omega
    rw [h0', Bool.true_or] at HS
    have HS2 := Lib.hid (HS.out.trans rfl : _ = n0)
    have HK0 := Lib.hid h0'; clear h0'
    go_wp2_with fail
    go_roundg (gk - 1)
    case measure => exact HG.out.2
    case rel => exact ⟨k + 1, HG.out.1, by go_num, by rw [HS2.out], hx2⟩
  ·
   obtain rfl : k = l.length := by omega
   go_wp2
   go_ret
   exact ⟨ret_int HR.out.symm, (hx0.trans hx1).trans hx⟩
set_option maxHeartbeats 1000000 in
theorem i_PathRate1 (s : Step) (rs : List Resv) (u : Value) (id now : Int) (b1 b2 b3 : Nat) (w : World) (h1 : w.cell? ⟨b1, 0, none⟩ = some u) (h2 : w.cell? ⟨b2, 0, none⟩ = some (.int .i64 id)) (h3 : w.cell? ⟨b3, 0, none⟩ = some (.int .i64 now)) (ru : RdS Resv.rep w u rs) :
  Calls Try.prog 148 #[.agg #[.int .i64 s.asn, .int .i64 s.ing, .int .i64 s.eg], .pointer (some ⟨b1, 0, none⟩), .pointer (some ⟨b2, 0, none⟩), .pointer (some ⟨b3, 0, none⟩)] w fun e w' => e = .returned (.int .i64 (resvRate rs id s.asn s.eg now)) ∧ Ext w w' := by
 obtain ⟨ou, cu, rfl, _⟩ := ru.shape
 have hx0 : Ext w (w.alloc (.cells #[.int .i64 s.asn, .int .i64 s.ing, .int .i64 s.eg] 120)) := (Ext.refl _).alloc _
 have e1 := hx0.cell h1
 have e2 := hx0.cell h2
 have e3 := hx0.cell h3
 go_enter Try.func148, Try.ntmps148
 go_wp2_with fail
 refine (i_ReservationRate rs _ id s.asn s.eg now _ (ru.ext hx0)).mono ?_
 rintro e w2 ⟨rfl, hx2⟩
 go_wp2_with fail
 go_ret
 exact ⟨rfl, hx0.trans hx2⟩
set_option maxHeartbeats 1000000 in
theorem i_AvailableRate1 (s : Step) (rs : List Resv) (u : Value) (c now : Int) (b1 b2 b3 : Nat) (w : World) (h1 : w.cell? ⟨b1, 0, none⟩ = some u) (h2 : w.cell? ⟨b2, 0, none⟩ = some (.int .i64 c)) (h3 : w.cell? ⟨b3, 0, none⟩ = some (.int .i64 now)) (ru : RdS Resv.rep w u rs) :
  Calls Try.prog 149 #[.agg #[.int .i64 s.asn, .int .i64 s.ing, .int .i64 s.eg], .pointer (some ⟨b1, 0, none⟩), .pointer (some ⟨b2, 0, none⟩), .pointer (some ⟨b3, 0, none⟩)] w fun e w' => e = .returned (.int .i64 (freeRate rs c s.asn s.eg now)) ∧ Ext w w' := by
 obtain ⟨ou, cu, rfl, _⟩ := ru.shape
 have hx0 : Ext w (w.alloc (.cells #[.int .i64 s.asn, .int .i64 s.ing, .int .i64 s.eg] 120)) := (Ext.refl _).alloc _
 have e1 := hx0.cell h1
 have e2 := hx0.cell h2
 have e3 := hx0.cell h3
 go_enter Try.func149, Try.ntmps149
 go_wp2_with fail
 refine (i_FreeRate rs _ c s.asn s.eg now _ (ru.ext hx0)).mono ?_
 rintro e w2 ⟨rfl, hx2⟩
 go_wp2_with fail
 go_ret
 exact ⟨rfl, hx0.trans hx2⟩
set_option maxRecDepth 100000 in
set_option maxHeartbeats 2000000 in
theorem i_leastPathRate (f : Step → Int) (c1 c2 c3 : Value) (l : List Step) (vl : Value) (w : World) (hv : RdS Step.rep w vl l)
  (H : ∀ (s : Step) (w' : World), Ext w w' → Calls Try.prog 148 #[.agg #[.int .i64 s.asn, .int .i64 s.ing, .int .i64 s.eg], c1, c2, c3] w' fun e w'' => e = .returned (.int .i64 (f s)) ∧ Ext w' w'') :
  Calls Try.prog 147 #[vl, .func (Fn.func 148) #[] #[c1, c2, c3]] w fun e w' => e = .returned (.int .i64 (leastTo f l l.length)) ∧ Ext w w' := by
 have HH := Lib.hid H; clear H
 obtain ⟨oa, ca, rfl, hsa⟩ := hv.shape
 go_enter Try.func147, Try.ntmps147
 go_wp2
 go_loopg [5, 11] l.length (fun gk t i wr => ∃ k : Nat, gk + k = l.length ∧ i = .int .i64 k ∧ t = .int .i64 (leastTo f l k) ∧ Ext w wr)
 case atStart => exact ⟨0, rfl, rfl, rfl, Ext.refl _⟩
 case round =>
  obtain ⟨k, hgk, rfl, rfl, hx⟩ := hrel
  by_cases hlt : k < l.length
  ·
   obtain ⟨b, off, rfl, hc⟩ := Step.at (hv.ext hx) k hlt
   have hg' : gk - 1 + (k + 1) = l.length ∧ gk - 1 < gk := by omega
   have HG := Lib.hid hg'; clear hg' hgk
   have HS := Lib.hid (leastTo_succ (f := f) hlt)
   generalize leastTo f l k = t0 at *
   go_wp2_with fail
   refine (HH.out l[k] _ (hx.alloc _)).mono ?_
   rintro e w2 ⟨rfl, h2⟩
   have hx2 := (hx.alloc _).trans h2
   generalize f l[k] = n0 at *
   cases h0 : ((k : Int) == 0)
   ·
    have h0' : (k == 0) = false := by
     rw [beq_eq_false_iff_ne] at h0 ⊢; omega
    rw [h0', Bool.false_or] at HS
    by_cases h1 : n0 < t0
    ·
     have HS2 := Lib.hid (HS.out.trans (by rw [decide_eq_true h1]; rfl) : _ = n0)
     go_wp2_with fail
     go_roundg (gk - 1)
     case measure => exact HG.out.2
     case rel => exact ⟨k + 1, HG.out.1, by go_num, by rw [HS2.out], hx2⟩
    ·
     have HS2 := Lib.hid (HS.out.trans (by rw [decide_eq_false h1]; rfl) : _ = t0)
     go_wp2_with fail
     go_roundg (gk - 1)
     case measure => exact HG.out.2
     case rel => exact ⟨k + 1, HG.out.1, by go_num, by rw [HS2.out], hx2⟩
   ·
    have h0' : (k == 0) = true := by
     rw [beq_iff_eq] at h0 ⊢; omega
    rw [h0', Bool.true_or] at HS
    have HS2 := Lib.hid (HS.out.trans rfl : _ = n0)
    have HK0 := Lib.hid h0'; clear h0'
    go_wp2_with fail
    go_roundg (gk - 1)
    case measure => exact HG.out.2
    case rel => exact ⟨k + 1, HG.out.1, by go_num, by rw [HS2.out], hx2⟩
  ·
   obtain rfl : k = l.length := by omega
   go_wp2
   go_ret
   exact ⟨rfl, hx⟩
set_option maxRecDepth 100000 in
set_option maxHeartbeats 2000000 in
theorem i_leastAvailableRate (f : Step → Int) (c1 c2 c3 : Value) (l : List Step) (vl : Value) (w : World) (hv : RdS Step.rep w vl l)
  (H : ∀ (s : Step) (w' : World), Ext w w' → Calls Try.prog 149 #[.agg #[.int .i64 s.asn, .int .i64 s.ing, .int .i64 s.eg], c1, c2, c3] w' fun e w'' => e = .returned (.int .i64 (f s)) ∧ Ext w' w'') :
  Calls Try.prog 147 #[vl, .func (Fn.func 149) #[] #[c1, c2, c3]] w fun e w' => e = .returned (.int .i64 (leastTo f l l.length)) ∧ Ext w w' := by
 have HH := Lib.hid H; clear H
 obtain ⟨oa, ca, rfl, hsa⟩ := hv.shape
 go_enter Try.func147, Try.ntmps147
 go_wp2
 go_loopg [5, 11] l.length (fun gk t i wr => ∃ k : Nat, gk + k = l.length ∧ i = .int .i64 k ∧ t = .int .i64 (leastTo f l k) ∧ Ext w wr)
 case atStart => exact ⟨0, rfl, rfl, rfl, Ext.refl _⟩
 case round =>
  obtain ⟨k, hgk, rfl, rfl, hx⟩ := hrel
  by_cases hlt : k < l.length
  ·
   obtain ⟨b, off, rfl, hc⟩ := Step.at (hv.ext hx) k hlt
   have hg' : gk - 1 + (k + 1) = l.length ∧ gk - 1 < gk := by omega
   have HG := Lib.hid hg'; clear hg' hgk
   have HS := Lib.hid (leastTo_succ (f := f) hlt)
   generalize leastTo f l k = t0 at *
   go_wp2_with fail
   refine (HH.out l[k] _ (hx.alloc _)).mono ?_
   rintro e w2 ⟨rfl, h2⟩
   have hx2 := (hx.alloc _).trans h2
   generalize f l[k] = n0 at *
   cases h0 : ((k : Int) == 0)
   ·
    have h0' : (k == 0) = false := by
     rw [beq_eq_false_iff_ne] at h0 ⊢; omega
    rw [h0', Bool.false_or] at HS
    by_cases h1 : n0 < t0
    ·
     have HS2 := Lib.hid (HS.out.trans (by rw [decide_eq_true h1]; rfl) : _ = n0)
     go_wp2_with fail
     go_roundg (gk - 1)
     case measure => exact HG.out.2
     case rel => exact ⟨k + 1, HG.out.1, by go_num, by rw [HS2.out], hx2⟩
    ·
     have HS2 := Lib.hid (HS.out.trans (by rw [decide_eq_false h1]; rfl) : _ = t0)
     go_wp2_with fail
     go_roundg (gk - 1)
     case measure => exact HG.out.2
     case rel => exact ⟨k + 1, HG.out.1, by go_num, by rw [HS2.out], hx2⟩
   ·
    have h0' : (k == 0) = true := by
     rw [beq_iff_eq] at h0 ⊢; omega
    rw [h0', Bool.true_or] at HS
    have HS2 := Lib.hid (HS.out.trans rfl : _ = n0)
    have HK0 := Lib.hid h0'; clear h0'
    go_wp2_with fail
    go_roundg (gk - 1)
    case measure => exact HG.out.2
    case rel => exact ⟨k + 1, HG.out.1, by go_num, by rw [HS2.out], hx2⟩
  ·
   obtain rfl : k = l.length := by omega
   go_wp2
   go_ret
   exact ⟨rfl, hx⟩
set_option maxHeartbeats 1000000 in
theorem i_PathRate (rs : List Resv) (u : Value) (id : Int) (y : Pth) (v : Value) (now : Int) (w : World) (ru : RdS Resv.rep w u rs) (r : RdS Part.rep w v y.parts) (hl : y.size ≤ 1048576) :
  Calls Try.prog 59 #[u, .int .i64 id, .agg #[v], .int .i64 now] w fun e w' => e = .returned (.int .i64 (pathRate rs id y now)) ∧ Ext w w' := by
 obtain ⟨ou, cu, rfl, _⟩ := ru.shape
 obtain ⟨ov, cv, rfl, _⟩ := r.shape
 have hx0 : Ext w ((((w.alloc (.cells #[.slice ou rs.length cu] 91)).alloc (.cells #[.int .i64 id] 3)).alloc (.cells #[.slice ov y.parts.length cv] 46)).alloc (.cells #[.int .i64 now] 3)) := ((((Ext.refl _).alloc _).alloc _).alloc _).alloc _
 have b0 : ((((w.alloc (.cells #[.slice ou rs.length cu] 91)).alloc (.cells #[.int .i64 id] 3)).alloc (.cells #[.slice ov y.parts.length cv] 46)).alloc (.cells #[.int .i64 now] 3)).heap[w.heap.size]? = some (.cells #[.slice ou rs.length cu] 91) := (al4 w (.cells #[.slice ou rs.length cu] 91) (.cells #[.int .i64 id] 3) (.cells #[.slice ov y.parts.length cv] 46) (.cells #[.int .i64 now] 3)).1
 have B0 := Lib.hid b0; clear b0
 have b1 : ((((w.alloc (.cells #[.slice ou rs.length cu] 91)).alloc (.cells #[.int .i64 id] 3)).alloc (.cells #[.slice ov y.parts.length cv] 46)).alloc (.cells #[.int .i64 now] 3)).heap[w.heap.size + 1]? = some (.cells #[.int .i64 id] 3) := (al4 w (.cells #[.slice ou rs.length cu] 91) (.cells #[.int .i64 id] 3) (.cells #[.slice ov y.parts.length cv] 46) (.cells #[.int .i64 now] 3)).2.1
 have B1 := Lib.hid b1; clear b1
 have b3 : ((((w.alloc (.cells #[.slice ou rs.length cu] 91)).alloc (.cells #[.int .i64 id] 3)).alloc (.cells #[.slice ov y.parts.length cv] 46)).alloc (.cells #[.int .i64 now] 3)).heap[w.heap.size + 1 + 1 + 1]? = some (.cells #[.int .i64 now] 3) := (al4 w (.cells #[.slice ou rs.length cu] 91) (.cells #[.int .i64 id] 3) (.cells #[.slice ov y.parts.length cv] 46) (.cells #[.int .i64 now] 3)).2.2.2
 have B3 := Lib.hid b3; clear b3
 go_enter Try.func59, Try.ntmps59
 go_wp2_with fail
 refine (i_EgressSteps y _ _ (r.ext hx0) hl).mono ?_
 rintro e w1 ⟨v1, rfl, o1, hx1⟩
 go_wp2_with fail
 refine (i_leastPathRate (fun s => resvRate rs id s.asn s.eg now) _ _ _ _ _ _ (OwnF.rd (hf := Step.flen) o1) (fun s w' hx => i_PathRate1 s rs (.slice ou rs.length cu) id now (w.heap.size) (w.heap.size + 1) (w.heap.size + 1 + 1 + 1) w' (blk1 ((hx1.trans hx).block B0.out)) (blk1 ((hx1.trans hx).block B1.out)) (blk1 ((hx1.trans hx).block B3.out)) (ru.ext ((hx0.trans hx1).trans hx)))).mono ?_
 rintro e w2 ⟨rfl, hx2⟩
 go_wp2_with fail
 go_ret
 exact ⟨rfl, (hx0.trans hx1).trans hx2⟩
set_option maxHeartbeats 1000000 in
theorem i_AvailableRate (rs : List Resv) (u : Value) (y : Pth) (v : Value) (c now : Int) (w : World) (ru : RdS Resv.rep w u rs) (r : RdS Part.rep w v y.parts) (hl : y.size ≤ 1048576) :
  Calls Try.prog 61 #[u, .agg #[v], .int .i64 c, .int .i64 now] w fun e w' => e = .returned (.int .i64 (availRate rs y c now)) ∧ Ext w w' := by
 obtain ⟨ou, cu, rfl, _⟩ := ru.shape
 obtain ⟨ov, cv, rfl, _⟩ := r.shape
 have hx0 : Ext w ((((w.alloc (.cells #[.slice ou rs.length cu] 91)).alloc (.cells #[.slice ov y.parts.length cv] 46)).alloc (.cells #[.int .i64 c] 3)).alloc (.cells #[.int .i64 now] 3)) := ((((Ext.refl _).alloc _).alloc _).alloc _).alloc _
 have b0 : ((((w.alloc (.cells #[.slice ou rs.length cu] 91)).alloc (.cells #[.slice ov y.parts.length cv] 46)).alloc (.cells #[.int .i64 c] 3)).alloc (.cells #[.int .i64 now] 3)).heap[w.heap.size]? = some (.cells #[.slice ou rs.length cu] 91) := (al4 w (.cells #[.slice ou rs.length cu] 91) (.cells #[.slice ov y.parts.length cv] 46) (.cells #[.int .i64 c] 3) (.cells #[.int .i64 now] 3)).1
 have B0 := Lib.hid b0; clear b0
 have b2 : ((((w.alloc (.cells #[.slice ou rs.length cu] 91)).alloc (.cells #[.slice ov y.parts.length cv] 46)).alloc (.cells #[.int .i64 c] 3)).alloc (.cells #[.int .i64 now] 3)).heap[w.heap.size + 1 + 1]? = some (.cells #[.int .i64 c] 3) := (al4 w (.cells #[.slice ou rs.length cu] 91) (.cells #[.slice ov y.parts.length cv] 46) (.cells #[.int .i64 c] 3) (.cells #[.int .i64 now] 3)).2.2.1
 have B2 := Lib.hid b2; clear b2
 have b3 : ((((w.alloc (.cells #[.slice ou rs.length cu] 91)).alloc (.cells #[.slice ov y.parts.length cv] 46)).alloc (.cells #[.int .i64 c] 3)).alloc (.cells #[.int .i64 now] 3)).heap[w.heap.size + 1 + 1 + 1]? = some (.cells #[.int .i64 now] 3) := (al4 w (.cells #[.slice ou rs.length cu] 91) (.cells #[.slice ov y.parts.length cv] 46) (.cells #[.int .i64 c] 3) (.cells #[.int .i64 now] 3)).2.2.2
 have B3 := Lib.hid b3; clear b3
 go_enter Try.func61, Try.ntmps61
 go_wp2_with fail
 refine (i_EgressSteps y _ _ (r.ext hx0) hl).mono ?_
 rintro e w1 ⟨v1, rfl, o1, hx1⟩
 go_wp2_with fail
 refine (i_leastAvailableRate (fun s => freeRate rs c s.asn s.eg now) _ _ _ _ _ _ (OwnF.rd (hf := Step.flen) o1) (fun s w' hx => i_AvailableRate1 s rs (.slice ou rs.length cu) c now (w.heap.size) (w.heap.size + 1 + 1) (w.heap.size + 1 + 1 + 1) w' (blk1 ((hx1.trans hx).block B0.out)) (blk1 ((hx1.trans hx).block B2.out)) (blk1 ((hx1.trans hx).block B3.out)) (ru.ext ((hx0.trans hx1).trans hx)))).mono ?_
 rintro e w2 ⟨rfl, hx2⟩
 go_wp2_with fail
 go_ret
 exact ⟨rfl, (hx0.trans hx1).trans hx2⟩
end
section
open Go.ChangeShapes Go.WideShapes Go.ChangeAt Go.RowKit Go.Deep
theorem len6 {α : Type} : ∀ {cs : List α}, cs.length = 6 → ∃ a b c d e f, cs = [a, b, c, d, e, f]
 | [a, b, c, d, e, f], _ => ⟨a, b, c, d, e, f, rfl⟩
theorem len7 {α : Type} : ∀ {cs : List α}, cs.length = 7 → ∃ a b c d e f g, cs = [a, b, c, d, e, f, g]
 | [a, b, c, d, e, f, g], _ => ⟨a, b, c, d, e, f, g, rfl⟩
def rsvGo (id rate till c now : Int) : List Step → List Resv → Option (List Resv)
 | [], out => some out
 | s :: ss, out => if (admit out ⟨id, s.asn, s.eg, rate, till⟩ c now).2 then rsvGo id rate till c now ss (admit out ⟨id, s.asn, s.eg, rate, till⟩ c now).1 else none
def reservePath (rs : List Resv) (id : Int) (y : Pth) (rate till c now : Int) : List Resv × Bool :=
 match rsvGo id rate till c now (egSteps (pathSteps y.parts)) rs with
 | some out => (out, decide (0 < (egSteps (pathSteps y.parts)).length))
 | none => (rs, false)
theorem admit_max (l : List Resv) (x : Resv) (c now : Int) : (admit l x c now).1.length ≤ max l.length 40 := by
 cases h : refused l x c now
 ·
  rw [admit_yes h]
  have h2 : ¬ 40 ≤ (without x l).length := by
   intro h3
   simp [refused, h3] at h
  simp only [List.length_append, List.length_cons, List.length_nil]
  omega
 ·
  rw [admit_no h]; exact Nat.le_max_left _ _
theorem rsvGo_max (id rate till c now : Int) : ∀ (ss : List Step) (l out : List Resv), rsvGo id rate till c now ss l = some out → out.length ≤ max l.length 40
 | [], l, out, h => by cases h; omega
 | s :: ss, l, out, h => by
  unfold rsvGo at h
  split at h
  ·
   have h1 := rsvGo_max id rate till c now ss _ _ h
   have h2 := admit_max l ⟨id, s.asn, s.eg, rate, till⟩ c now
   omega
  ·
   cases h
theorem reservePath_max (rs : List Resv) (id : Int) (y : Pth) (rate till c now : Int) : (reservePath rs id y rate till c now).1.length ≤ max rs.length 40 := by
 unfold reservePath
 split
 ·
  rename_i out h; exact rsvGo_max _ _ _ _ _ _ _ _ h
 ·
  exact Nat.le_max_left _ _
theorem rsvGo_step {id rate till c now : Int} {l : List Step} {k : Nat} (hk : k < l.length) {xs r1 : List Resv} (h : admit xs ⟨id, l[k].asn, l[k].eg, rate, till⟩ c now = (r1, true)) : rsvGo id rate till c now (l.drop k) xs = rsvGo id rate till c now (l.drop (k + 1)) r1 := by
 rw [List.drop_eq_getElem_cons hk]
 show (if _ then _ else _) = _
 rw [h]
 simp
theorem rsvGo_fail {id rate till c now : Int} {l : List Step} {k : Nat} (hk : k < l.length) {xs r1 : List Resv} (h : admit xs ⟨id, l[k].asn, l[k].eg, rate, till⟩ c now = (r1, false)) : rsvGo id rate till c now (l.drop k) xs = none := by
 rw [List.drop_eq_getElem_cons hk]
 show (if _ then _ else _) = _
 rw [h]
 simp
set_option maxRecDepth 100000 in
set_option maxHeartbeats 4000000 in
theorem i_ReservePath (rs : List Resv) (u : Value) (id : Int) (y : Pth) (v : Value) (rate till c now : Int) (w : World) (ru : RdS Resv.rep w u rs) (r : RdS Part.rep w v y.parts) (hrl : rs.length ≤ 1048576) (hl : y.size ≤ 1048576) :
  Calls Try.prog 50 #[u, .int .i64 id, .agg #[v], .int .i64 rate, .int .i64 till, .int .i64 c, .int .i64 now] w fun e w' => ∃ v', e = .returned (.tuple #[v', .bool (reservePath rs id y rate till c now).2]) ∧ OwnF Resv.f 5 w.heap.size 171 w' v' (reservePath rs id y rate till c now).1 ∧ Ext w w' := by
 obtain ⟨E⟩ := elemResv
 obtain ⟨ou, cu, rfl, _⟩ := ru.shape
 obtain ⟨ov, cv, rfl, _⟩ := r.shape
 have hx0 : Ext w (w.alloc (.cells #[.slice ov y.parts.length cv] 46)) := (Ext.refl _).alloc _
 go_enter Try.func50, Try.ntmps50
 go_wp2_with fail
 refine (i_EgressSteps y _ _ (r.ext hx0) hl).mono ?_
 rintro e w1 ⟨v1, rfl, o1, hx1⟩
 obtain ⟨oa, ca, rfl, hsa⟩ := (OwnF.rd (hf := Step.flen) o1).shape
 go_wp2_with fail
 refine (i_copyReservations rs _ _ (ru.ext (hx0.trans hx1)) (by omega)).mono ?_
 rintro e w2 ⟨v2, rfl, o2, hx2⟩
 have hX := (hx0.trans hx1).trans hx2
 have o2' := o2.mono (hx0.trans hx1).size
 have o1' := o1.ext hx2
 clear o1 o2
 have hrv : reservePath rs id y rate till c now = (match rsvGo id rate till c now (egSteps (pathSteps y.parts)) rs with | some out => (out, decide (0 < (egSteps (pathSteps y.parts)).length)) | none => (rs, false)) := rfl
 have HR := Lib.hid hrv; clear hrv
 have hst := Nat.le_trans (egSteps_len _) (pathSteps_len y.parts)
 have hst2 : (egSteps (pathSteps y.parts)).length ≤ 1048576 := by unfold Pth.size at hl; omega
 clear hst
 generalize egSteps (pathSteps y.parts) = l at *
 go_wp2
 go_loopg [17, 28] l.length (fun gk out i wr => ∃ (k : Nat) (xs : List Resv), gk + k = l.length ∧ i = .int .i64 k ∧ xs.length ≤ 1048576 ∧ OwnF Resv.f 5 w.heap.size 171 wr out xs ∧ Hid (rsvGo id rate till c now (l.drop k) xs = rsvGo id rate till c now l rs) ∧ Ext w2 wr)
 case atStart => exact ⟨0, rs, rfl, rfl, hrl, o2', Lib.hid rfl, Ext.refl _⟩
 case round =>
  obtain ⟨k, xs, hgk, rfl, hxl, hown, HK0, hx⟩ := hrel
  obtain ⟨oo, co, rfl, _⟩ := (OwnF.rd (hf := Resv.flen) hown).shape
  by_cases hlt : k < l.length
  ·
   obtain ⟨b, off, rfl, hc⟩ := Step.at ((OwnF.rd (hf := Step.flen) o1').ext hx) k hlt
   have hg' : gk - 1 + (k + 1) = l.length ∧ gk - 1 < gk := by omega
   have HG := Lib.hid hg'; clear hg' hgk
   have hmx := admit_max xs ⟨id, l[k].asn, l[k].eg, rate, till⟩ c now
   rcases hA : admit xs ⟨id, l[k].asn, l[k].eg, rate, till⟩ c now with ⟨r1, b1⟩
   rw [hA] at hmx
   have hr1 : r1.length ≤ 1048576 := by simp only at hmx; omega
   clear hmx
   have HA := Lib.hid hA; clear hA
   go_wp2_with fail
   refine (i_Admit xs _ ⟨id, l[k].asn, l[k].eg, rate, till⟩ c now _ (OwnF.rd (hf := Resv.flen) (hown.ext ((Ext.refl _).alloc _))) hxl).mono ?_
   rintro e w3 ⟨v3, rfl, o3, h3⟩
   rw [HA.out] at o3 ⊢
   have hx3 := ((Ext.refl _).alloc _).trans h3
   have o3' := o3.mono (base' := w.heap.size) (((hX.trans hx).alloc _).size)
   clear o3 hown
   cases b1
   ·
    have hy : reservePath rs id y rate till c now = (rs, false) := by rw [HR.out, ← HK0.out, rsvGo_fail hlt HA.out]
    have HY := Lib.hid hy; clear hy
    have hxw := (hX.trans hx).trans hx3
    have hru3 := ru.ext hxw
    have hru4 := hru3.ext ((Ext.refl w3).alloc (.cells #[] 171))
    go_wp2_with fail
    refine (i_copyReservations rs _ _ hru3 (by omega)).mono ?_
    rintro e w4 ⟨v4, rfl, o4, hx4⟩
    have o4' := o4.mono (base' := w.heap.size) hxw.size
    clear o4
    go_wp2_with fail
    go_ret2
    rw [HY.out]
    exact ⟨_, rfl, o4', hxw.trans hx4⟩
   ·
    have hs := rsvGo_step hlt HA.out
    have HS := Lib.hid (hs.symm.trans HK0.out); clear hs
    have hx3' := hx.trans hx3
    clear h3
    go_wp2_with fail
    go_roundg (gk - 1)
    case measure => exact HG.out.2
    case rel => exact ⟨k + 1, r1, HG.out.1, by go_num, hr1, o3', HS, hx3'⟩
  ·
   have hy : reservePath rs id y rate till c now = (xs, decide (0 < l.length)) := by
    have := HK0.out
    rw [List.drop_of_length_le (by omega)] at this
    rw [HR.out, ← this]; rfl
   have HY := Lib.hid hy; clear hy
   by_cases h0 : 0 < l.length
   ·
    have HY2 := Lib.hid (HY.out.trans (by rw [decide_eq_true h0]))
    have q0 : (0 : Int) < (l.length : Int) := by omega
    go_wp2
    go_ret2
    rw [HY2.out]
    exact ⟨_, rfl, hown, hX.trans hx⟩
   ·
    have HY2 := Lib.hid (HY.out.trans (by rw [decide_eq_false h0]))
    have q0 : ¬ (0 : Int) < (l.length : Int) := by omega
    go_wp2
    go_ret2
    rw [HY2.out]
    exact ⟨_, rfl, hown, hX.trans hx⟩
set_option maxRecDepth 100000 in
set_option maxHeartbeats 4000000 in
theorem s_ReservePath (rs : List Resv) (u : Value) (id : Int) (y : Pth) (v : Value) (rate till c now : Int) (w : World) (ru : RdS Resv.rep w u rs) (r : RdS Part.rep w v y.parts) (hrl : rs.length ≤ 1048576) (hl : y.size ≤ 1048576) :
  Calls Try.prog 51 #[u, .int .i64 id, .agg #[v], .int .i64 rate, .int .i64 till, .int .i64 c, .int .i64 now] w fun e w' => ∃ v', e = .returned (.tuple #[v', .bool (reservePath rs id y rate till c now).2]) ∧ OwnF Resv.f 5 w.heap.size 171 w' v' (reservePath rs id y rate till c now).1 ∧ Ext w w' := by
 obtain ⟨E⟩ := elemResv
 obtain ⟨ou, cu, rfl, _⟩ := ru.shape
 obtain ⟨ov, cv, rfl, _⟩ := r.shape
 have hx0 : Ext w (w.alloc (.cells #[.slice ov y.parts.length cv] 46)) := (Ext.refl _).alloc _
 have hxe : Ext w ((w.alloc (.cells #[.slice ov y.parts.length cv] 46)).alloc (.cells #[] 171)) := hx0.alloc _
 have ho0 := (OwnF.empty Resv.f 5 (w.alloc (.cells #[.slice ov y.parts.length cv] 46)).heap.size 171 (w.alloc (.cells #[.slice ov y.parts.length cv] 46)) (Nat.le_refl _))
 have hB := Lib.hid (Ext.block ((Ext.refl _).alloc (.cells #[] 171)) (blk_new w (.cells #[.slice ov y.parts.length cv] 46)))
 have hrx := ru.ext hxe
 have hbs := hx0.size
 simp only [nblk_alloc] at ho0
 go_enter Try.func51, Try.ntmps51
 go_wp2_with (at_builtin; refine appS E Resv.flen Resv.one rfl _ _ rfl rs rfl ho0 rfl hrx (by simp; omega) (by simp [maxLen]; omega) (by simp) ?_)
 intro v1 w1 o1 hg1
 have hx1 : Ext w w1 := hxe.app hg1 ho0 (by simp)
 have hb1 := own_ne ho0 hB.out (by decide) hg1
 have hc1 := blk1 hb1
 try rw [List.nil_append] at o1
 have o1' := o1.mono (base' := w.heap.size) (by simp)
 clear hg1 o1
 go_wp2_with fail
 refine (s_EgressSteps y _ _ (r.ext hx1) hl).mono ?_
 rintro e w2 ⟨v2, rfl, o2, hx2⟩
 have hX := hx1.trans hx2
 have o2' := o1'.ext hx2
 have o1' := o2
 clear o2
 obtain ⟨oa, ca, rfl, hsa⟩ := (OwnF.rd (hf := Step.flen) o1').shape
 have hrv : reservePath rs id y rate till c now = (match rsvGo id rate till c now (egSteps (pathSteps y.parts)) rs with | some out => (out, decide (0 < (egSteps (pathSteps y.parts)).length)) | none => (rs, false)) := rfl
 have HR := Lib.hid hrv; clear hrv
 have hst := Nat.le_trans (egSteps_len _) (pathSteps_len y.parts)
 have hst2 : (egSteps (pathSteps y.parts)).length ≤ 1048576 := by unfold Pth.size at hl; omega
 clear hst
 generalize egSteps (pathSteps y.parts) = l at *
 go_wp2
 go_loopg [16, 18] l.length (fun gk out i wr => ∃ (k : Nat) (xs : List Resv), gk + k = l.length ∧ i = .int .i64 k ∧ xs.length ≤ 1048576 ∧ OwnF Resv.f 5 w.heap.size 171 wr out xs ∧ Hid (rsvGo id rate till c now (l.drop k) xs = rsvGo id rate till c now l rs) ∧ Ext w2 wr)
 case atStart => exact ⟨0, rs, rfl, rfl, hrl, o2', Lib.hid rfl, Ext.refl _⟩
 case round =>
  obtain ⟨k, xs, hgk, rfl, hxl, hown, HK0, hx⟩ := hrel
  obtain ⟨oo, co, rfl, _⟩ := (OwnF.rd (hf := Resv.flen) hown).shape
  by_cases hlt : k < l.length
  ·
   obtain ⟨b, off, rfl, hc⟩ := Step.at ((OwnF.rd (hf := Step.flen) o1').ext hx) k hlt
   have hg' : gk - 1 + (k + 1) = l.length ∧ gk - 1 < gk := by omega
   have HG := Lib.hid hg'; clear hg' hgk
   have hmx := admit_max xs ⟨id, l[k].asn, l[k].eg, rate, till⟩ c now
   rcases hA : admit xs ⟨id, l[k].asn, l[k].eg, rate, till⟩ c now with ⟨r1, b1⟩
   rw [hA] at hmx
   have hr1 : r1.length ≤ 1048576 := by simp only at hmx; omega
   clear hmx
   have HA := Lib.hid hA; clear hA
   go_wp2_with fail
   refine planStep (.blk [0, 1, 2, 3, 4, 5, 6, 7, 8, 9, 10, 11, 12, 13, 14, 15, 16] (.one 17 (.blk [18, 19, 20, 21, 22] .done))) [] (by kernel_rfl) (by kernel_rfl) ?_

   refine blkStep (fun K HK => ?_)
   simp only [PK]
   go_wp2_with fail
   refine HK.out _ _ ?_
   clear HK K

   refine oneStep (fun K HK => ?_)
   simp only [PK]
   go_wp2_with fail

   refine (s_Admit xs _ ⟨id, l[k].asn, l[k].eg, rate, till⟩ c now _ (OwnF.rd (hf := Resv.flen) (hown.ext ((Ext.refl _).drew))) hxl).mono ?_
   rintro e w3 ⟨v3, rfl, o3, h3⟩
   rw [HA.out] at o3 ⊢
   have hx3 := ((Ext.refl _).drew).trans h3
   have o3' := o3.mono (base' := w.heap.size) (((hX.trans hx).drew).size)
   clear o3 hown
   cases b1
   ·
    have hy : reservePath rs id y rate till c now = (rs, false) := by rw [HR.out, ← HK0.out, rsvGo_fail hlt HA.out]
    have HY := Lib.hid hy; clear hy
    have hxw := (hX.trans hx).trans hx3
    have hru3 := ru.ext hxw
    have hru4 := hru3.ext ((Ext.refl w3).alloc (.cells #[] 171))
    go_wp2_with fail
    refine HK.out _ _ (h3) ?_
    clear HK K

    refine blkStep (fun K HK => ?_)
    simp only [PK]
    go_wp2_with fail
    refine HK.out _ _ ?_
    clear HK K

    refine doneStep (by kernel_rfl) ?_

    have hoe := OwnF.empty Resv.f 5 w.heap.size 171 w3 hxw.size
    go_wp2_with (at_builtin; refine appS E Resv.flen Resv.one rfl _ _ rfl rs rfl hoe rfl hru4 (by simp; omega) (by simp [maxLen]; omega) (by simp; exact Nat.le_succ_of_le hxw.size) ?_)
    intro v4 w4 o4 hg4
    have hx4 : Ext w w4 := (hxw.alloc _).app hg4 hoe (Nat.le_refl _)
    try rw [List.nil_append] at o4
    clear hg4 hoe
    go_wp2_with fail
    go_ret2
    rw [HY.out]
    exact ⟨_, rfl, o4, hx4⟩
   ·
    have hs := rsvGo_step hlt HA.out
    have HS := Lib.hid (hs.symm.trans HK0.out); clear hs
    have hx3' := hx.trans hx3
    go_wp2_with fail
    refine HK.out _ _ (h3) ?_
    clear HK K

    refine blkStep (fun K HK => ?_)
    simp only [PK]
    go_wp2_with fail
    refine HK.out _ _ ?_
    clear HK K

    refine doneStep (by kernel_rfl) ?_

    go_wp2_with fail
    go_roundg (gk - 1)
    case measure => exact HG.out.2
    case rel => exact ⟨k + 1, r1, HG.out.1, by go_num, hr1, o3', HS, hx3'⟩
  ·
   have hy : reservePath rs id y rate till c now = (xs, decide (0 < l.length)) := by
    have := HK0.out
    rw [List.drop_of_length_le (by omega)] at this
    rw [HR.out, ← this]; rfl
   have HY := Lib.hid hy; clear hy
   by_cases h0 : 0 < l.length
   ·
    have HY2 := Lib.hid (HY.out.trans (by rw [decide_eq_true h0]))
    have q0 : (0 : Int) < (l.length : Int) := by omega
    go_wp2
    go_ret2
    rw [HY2.out]
    exact ⟨_, rfl, hown, hX.trans hx⟩
   ·
    have HY2 := Lib.hid (HY.out.trans (by rw [decide_eq_false h0]))
    have q0 : ¬ (0 : Int) < (l.length : Int) := by omega
    go_wp2
    go_ret2
    rw [HY2.out]
    exact ⟨_, rfl, hown, hX.trans hx⟩
end
end Go.Proofs.Ytikbeiafobnblaa
