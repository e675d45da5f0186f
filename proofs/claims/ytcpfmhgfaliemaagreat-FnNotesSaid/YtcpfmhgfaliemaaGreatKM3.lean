/- What these laws need: FnNotes: A region that draws its order, walked in one order of its own choice: what only looks is taken as soon as it may come up, what makes memory comes up when it alone may. The data of the struct Hop (Hop), how a slice of it reads, and the contracts of the laws' helper functions over it. The data of path parts and paths, how they read, and the contracts of the laws' helper functions over them. The data of the struct Step (Step), how a slice of it reads, and the contracts of the laws' helper functions over it. The plain functions of paths: steps, ends, interfaces. -/
import Derived.OrdersHeld
import Derived.Test.YtcpfmhgfaliemaaGreatKM2
namespace Go.Proofs.YtcpfmhgfaliemaaGreat
section
open Go.ChangeShapes Go.WideShapes Go.ChangeAt Go.RowKit Go.Deep
section
variable {P : Program} {ops : Array Oper} {Q : Exit → Act → World → Prop} {Rq : Nat → Bool}
def wpAnyE (P : Program) (ops : Array Oper) (Q : Exit → Act → World → Prop) (Rq : Nat → Bool) : Nat → Array Bool → Act → World → Prop
  | 0, listed, a, w => Region.ready .any ops listed = [] ∧ Q .normal a w
  | fuel + 1, listed, a, w =>
    (Region.ready .any ops listed = [] → Q .normal a w) ∧
    ∀ i ∈ Region.ready .any ops listed, wpOp P ops Q i (fun a' w' => (Rq i = true → Ext w w') ∧ wpAnyE P ops Q Rq fuel (listed.setIfInBounds i true) a' w') a w
theorem wpAny_of_E : ∀ (fuel : Nat) (listed : Array Bool) (a : Act) (w : World), wpAnyE P ops Q Rq fuel listed a w → wpAny P .any ops Q fuel listed a w
 | 0, _, _, _, h => h
 | fuel + 1, _, _, _, h => ⟨h.1, fun i hi => wpOp_mono (fun a' w' h' => wpAny_of_E fuel _ a' w' h'.2) (h.2 i hi)⟩
def Closed (ops : Array Oper) (listed : Array Bool) : Prop := ∀ j oj, ops[j]? = some oj → listed.getD j false = true → ∀ e ∈ oj.after, Region.binds .any e = true → listed.getD e.on false = true
def waitsT (ops : Array Oper) : Nat → Nat → Nat → Bool
  | 0, _, _ => false
  | n + 1, j, i => match ops[j]? with
    | none => false
    | some oj => oj.after.any fun e => Region.binds .any e && (e.on == i || waitsT ops n e.on i)
theorem Closed.waits {listed : Array Bool} (hc : Closed ops listed) {i : Nat} : ∀ (n j : Nat), waitsT ops n j i = true → listed.getD j false = true → listed.getD i false = true
 | 0, _, h, _ => by cases h
 | n + 1, j, h, hj => by
  unfold waitsT at h
  split at h
  ·
   cases h
  ·
   rename_i oj hoj
   obtain ⟨e, he, hb⟩ := Array.any_eq_true'.1 h; simp only [Bool.and_eq_true, Bool.or_eq_true, beq_iff_eq] at hb; have h1 := hc j oj hoj hj e he hb.1
   rcases hb.2 with h2 | h2
   ·
    rw [← h2]; exact h1
   ·
    exact hc.waits n e.on h2 h1
theorem Closed.not_ready {listed : Array Bool} (hc : Closed ops listed) {i n j : Nat} (h : waitsT ops n j i = true) (hi : listed.getD i true = false) : j ∉ Region.ready .any ops listed := by
 intro hr; obtain ⟨_, oj, hoj, hall⟩ := mem_ready.1 hr
 cases n with
 | zero => cases h
 | succ n =>
  unfold waitsT at h; rw [hoj] at h; obtain ⟨e, he, hb⟩ := Array.any_eq_true'.1 h; simp only [Bool.and_eq_true, Bool.or_eq_true, beq_iff_eq] at hb; have h1 := hall e he hb.1
  have h3 : listed.getD i false = true := by
   rcases hb.2 with h2 | h2
   ·
    rw [← h2]; exact h1
   ·
    exact hc.waits n e.on h2 h1
  rcases Nat.lt_or_ge i listed.size with h' | h'
  ·
   simp [h'] at hi h3; rw [hi] at h3; cases h3
  ·
   simp [Array.getElem?_eq_none h'] at h3
theorem Closed.set {listed : Array Bool} (hc : Closed ops listed) {i : Nat} (hi : i ∈ Region.ready .any ops listed) : Closed ops (listed.setIfInBounds i true) := by
 obtain ⟨_, oi, hoi, hall⟩ := mem_ready.1 hi; intro j oj hj hl e he hb
 by_cases hij : i = j
 ·
  subst hij; have : oj = oi := Option.some.inj (hj.symm.trans hoi); subst this; exact getD_set_true (hall e he hb)
 ·
  rw [getD_set_ne false hij] at hl; exact getD_set_true (hc j oj hj hl e he hb)
theorem Closed.start (n : Nat) : Closed ops (Array.replicate n false) := by
 intro j oj _ hl
 exfalso
 rcases Nat.lt_or_ge j n with h | h
 ·
  simp [h] at hl
 ·
  simp [h] at hl
def clsS (free : Bool) (w : World) : World → Prop := fun w' => free = false → Ext w w'
theorem wpAnyE_first {i : Nat} {oi : Oper} {v : Value} {free : Bool} {n : Nat} (hi : ops[i]? = some oi) (hsel : ∀ (j : Nat) (o : Oper) cs b, ops[j]? = some o → o.op ≠ .select cs b)
  (hQ : ∀ c a w, Q (.panic c) (a.put oi.dst v) w → Q (.panic c) a w) :
  ∀ (fuel : Nat) (listed : Array Bool) (a : Act) (w : World), Closed ops listed →
   (∀ j oj, ops[j]? = some oj → j ≠ i → listed.getD j true = false → (∀ e ∈ oj.after, Region.binds .any e = true → e.on ≠ i) → oi.apart ops oj = true) →
   (free = false → ∀ j oj, ops[j]? = some oj → j ≠ i → listed.getD j true = false → Rq j = true ∨ waitsT ops n j i = true) →
   i ∈ Region.ready .any ops listed → YieldsIf P ops (clsS free w) oi v a →
   wpAnyE P ops Q Rq fuel (listed.setIfInBounds i true) (a.put oi.dst v) w → wpAnyE P ops Q Rq (fuel + 1) listed a w := by
 intro fuel
 induction fuel with
 | zero =>
  intro listed a w _ _ _ hr hy H; refine ⟨fun h => (by rw [h] at hr; cases hr), fun j hj => ?_⟩
  by_cases hji : j = i
  ·
   subst hji; exact hy.wpOp hi (fun _ => Ext.refl w) ⟨fun _ => Ext.refl w, H⟩
  ·
   have := ready_mono hj hji; rw [H.1] at this
   cases this
 | succ fuel ih =>
  intro listed a w hc hfree hR hr hy H; refine ⟨fun h => (by rw [h] at hr; cases hr), fun j hj => ?_⟩
  by_cases hji : j = i
  ·
   subst hji; exact hy.wpOp hi (fun _ => Ext.refl w) ⟨fun _ => Ext.refl w, H⟩
  ·
   have h1 := H.2 j (ready_mono hj hji); obtain ⟨hjun, oj, hoj, hall⟩ := mem_ready.1 hj; have h0 := (mem_ready.1 hr).1
   have hnot : ∀ e ∈ oj.after, Region.binds .any e = true → e.on ≠ i := fun e he hb heq => by
    have h1 := hall e he hb; rw [heq] at h1
    rcases Nat.lt_or_ge i listed.size with h' | h'
    ·
     simp [h'] at h0 h1; rw [h0] at h1; cases h1
    ·
     simp [Array.getElem?_eq_none h'] at h1
   have h2 := wpOp_putIf hoj (hfree j oj hoj hji hjun hnot) (fun cs b => hsel i oi cs b hi) (fun cs b => hsel j oj cs b hoj) hQ hy h1
   have hfree' : ∀ k ok, ops[k]? = some ok → k ≠ i → (listed.setIfInBounds j true).getD k true = false →
     (∀ e ∈ ok.after, Region.binds .any e = true → e.on ≠ i) → oi.apart ops ok = true := fun k ok hk hki hun hno => by
    refine hfree k ok hk hki ?_ hno
    by_cases hjk : j = k
    ·
     subst hjk; exact hjun
    ·
     rw [getD_set_ne true hjk] at hun; exact hun
   have hR' : free = false → ∀ k ok, ops[k]? = some ok → k ≠ i → (listed.setIfInBounds j true).getD k true = false → Rq k = true ∨ waitsT ops n k i = true := fun hf k ok hok hk hun => by
    refine hR hf k ok hok hk ?_
    by_cases hjk : j = k
    ·
     subst hjk; exact hjun
    ·
     rw [getD_set_ne true hjk] at hun; exact hun
   refine wpOp_mono (fun a' w' h3 => ⟨h3.2.1, ih (listed.setIfInBounds j true) a' w' (hc.set hj) hfree' hR' (ready_mono hr (Ne.symm hji)) ?_ ?_⟩) h2
   ·
    have hyy := h3.1
    rcases hyy with ⟨hw, hv⟩ | hv
    ·
     refine .inl ⟨hw, fun w2 h2 => hv w2 fun hf => ?_⟩
     rcases hR hf j oj hoj hji hjun with h4 | h4
     ·
      exact (h3.2.1 h4).trans (h2 hf)
     ·
      exact absurd hj (hc.not_ready h4 h0)
    ·
     exact .inr hv
   ·
    rw [Array.setIfInBounds_comm _ _ hji]; exact h3.2.2
inductive Sch where
  | done
  | blk (l : List Nat) (rest : Sch)
  | one (i : Nat) (rest : Sch)
  | two (i j : Nat) (si sj : Sch)
  | tri (i j k : Nat) (si sj sk : Sch)
def pick (ops : Array Oper) (l : List Nat) : List Oper := l.filterMap fun i => ops[i]?
theorem PK : (∀ (ops : Array Oper) (l : List Nat), pick ops l = l.filterMap fun i => ops[i]?) ∧ (∀ (f : Nat → Option Oper) (a : Nat) (l : List Nat), List.filterMap f (a :: l) = match f a with | none => List.filterMap f l | some b => b :: List.filterMap f l) ∧
  (∀ f : Nat → Option Oper, List.filterMap f [] = []) ∧ (∀ (l : List Oper) (i : Nat), l.toArray[i]? = l[i]?) ∧ (∀ (a : Oper) (l : List Oper), (a :: l)[0]? = some a) ∧ (∀ (a : Oper) (l : List Oper) (i : Nat), (a :: l)[i + 1]? = l[i]?) :=
 ⟨fun _ _ => rfl, fun f a l => by rw [List.filterMap_cons]; cases f a <;> rfl, fun _ => rfl, fun _ _ => List.getElem?_toArray, fun _ _ => rfl, fun _ _ _ => rfl⟩
def Sch.wp (P : Program) (ops : Array Oper) (Rq : Nat → Bool) (K : Act → World → Prop) : Sch → Act → World → Prop
  | .done, a, w => K a w
  | .blk l rest, a, w => wpList P ops (Exit.then (fun a' w' => rest.wp P ops Rq K a' w') (fun _ _ _ => False)) (pick ops l) a w
  | .one i rest, a, w => wpList P ops (Exit.then (fun a' w' => (Rq i = true → Ext w w') ∧ rest.wp P ops Rq K a' w') (fun _ _ _ => False)) (pick ops [i]) a w
  | .two i j si sj, a, w => wpList P ops (Exit.then (fun a' w' => (Rq i = true → Ext w w') ∧ si.wp P ops Rq K a' w') (fun _ _ _ => False)) (pick ops [i]) a w ∧
      wpList P ops (Exit.then (fun a' w' => (Rq j = true → Ext w w') ∧ sj.wp P ops Rq K a' w') (fun _ _ _ => False)) (pick ops [j]) a w
  | .tri i j k si sj sk, a, w => wpList P ops (Exit.then (fun a' w' => (Rq i = true → Ext w w') ∧ si.wp P ops Rq K a' w') (fun _ _ _ => False)) (pick ops [i]) a w ∧
      wpList P ops (Exit.then (fun a' w' => (Rq j = true → Ext w w') ∧ sj.wp P ops Rq K a' w') (fun _ _ _ => False)) (pick ops [j]) a w ∧
      wpList P ops (Exit.then (fun a' w' => (Rq k = true → Ext w w') ∧ sk.wp P ops Rq K a' w') (fun _ _ _ => False)) (pick ops [k]) a w
def isNum : Op → Bool
  | .binOp .. => true
  | .convert .. => true
  | _ => false
def numT (ops : Array Oper) (o : Oper) : List Tmp := if isNum o.op then o.looksAt ops else []
def offOp (ops : Array Oper) (T : List Tmp) (i : Nat) : Bool := match (ops[i]?).bind (·.dst) with
  | some d => !T.contains d
  | none => true
def Sch.off (ops : Array Oper) (T : List Tmp) : Sch → Bool
  | .done => true
  | .blk l rest => l.all (offOp ops T) && rest.off ops T
  | .one i rest => offOp ops T i && rest.off ops T
  | .two i j si sj => offOp ops T i && offOp ops T j && si.off ops T && sj.off ops T
  | .tri i j k si sj sk => offOp ops T i && offOp ops T j && offOp ops T k && si.off ops T && sj.off ops T && sk.off ops T
def takeB (P : Program) (ops : Array Oper) (Rq : Nat → Bool) (listed : Array Bool) (i : Nat) (l : List Nat) (rest : Sch) : Bool := match ops[i]? with
  | none => false
  | some o => (kindOp P o.op == 2 || (kindOp P o.op == 1 && (List.range ops.size).all fun j => j == i || listed.getD j true || Rq j || waitsT ops ops.size j i)) &&
    (Region.ready .any ops listed).contains i && Region.free .any ops listed i && (i :: l).all (offOp ops (numT ops o)) && rest.off ops (numT ops o)
def Sch.okBlk (P : Program) (ops : Array Oper) (Rq : Nat → Bool) (rest : Sch) : List Nat → Array Bool → Bool
  | [], _ => true
  | i :: l, listed => takeB P ops Rq listed i l rest && Sch.okBlk P ops Rq rest l (listed.setIfInBounds i true)
def listAll : List Nat → Array Bool → Array Bool
  | [], listed => listed
  | i :: l, listed => listAll l (listed.setIfInBounds i true)
def Sch.ok (P : Program) (ops : Array Oper) (Rq : Nat → Bool) : Sch → Array Bool → Bool
  | .done, listed => (Region.ready .any ops listed).isEmpty
  | .blk l rest, listed => Sch.okBlk P ops Rq rest l listed && rest.ok P ops Rq (listAll l listed)
  | .one i rest, listed => Region.ready .any ops listed == [i] && rest.ok P ops Rq (listed.setIfInBounds i true)
  | .two i j si sj, listed => Region.ready .any ops listed == [i, j] && si.ok P ops Rq (listed.setIfInBounds i true) && sj.ok P ops Rq (listed.setIfInBounds j true)
  | .tri i j k si sj sk, listed => Region.ready .any ops listed == [i, j, k] && si.ok P ops Rq (listed.setIfInBounds i true) && sj.ok P ops Rq (listed.setIfInBounds j true) && sk.ok P ops Rq (listed.setIfInBounds k true)
def Sch.len : Sch → Nat
  | .done => 0
  | .blk l rest => l.length + rest.len
  | .one _ rest => rest.len + 1
  | .two _ _ si sj => max si.len sj.len + 1
  | .tri _ _ _ si sj sk => max si.len (max sj.len sk.len) + 1
def chk (ops : Array Oper) (a : Act) : Bool := ops.toList.all fun o => numOk a.eval o.op
theorem eval_off {a : Act} {o : Oper} {T : List Tmp} {i : Nat} (ho : ops[i]? = some o) (h : offOp ops T i = true) (v : Value) {t : Tmp} (ht : t ∈ T) : (a.put o.dst v).eval (.tmp t) = a.eval (.tmp t) := by
 refine Act.eval_put fun d hd he => ?_
 unfold offOp at h; simp only [ho, Option.bind_some, hd] at h
 cases he
 simp at h
 exact h ht
theorem wpList_end {K : Act → World → Prop} {T : List Tmp} : ∀ (l : List Nat) (a : Act) (w : World), (∀ i ∈ l, offOp ops T i = true) →
  wpList P ops (Exit.then K (fun _ _ _ => False)) (pick ops l) a w → ∃ a' w', K a' w' ∧ ∀ t ∈ T, a'.eval (.tmp t) = a.eval (.tmp t)
 | [], a, w, _, h => ⟨a, w, h, fun _ _ => rfl⟩
 | i :: l, a, w, ho, h => by
  cases hi : ops[i]? with
  | none =>
   have hp : pick ops (i :: l) = pick ops l := by simp [pick, hi]
   rw [hp] at h; exact wpList_end l a w (fun j hj => ho j (by simp [hj])) h
  | some o =>
   have hp : pick ops (i :: l) = o :: pick ops l := by simp [pick, hi]
   rw [hp] at h; simp only [wpList] at h
   have nxt : ∀ v (w2 : World), wpList P ops (Exit.then K (fun _ _ _ => False)) (pick ops l) (a.put o.dst v) w2 → ∃ a' w', K a' w' ∧ ∀ t ∈ T, a'.eval (.tmp t) = a.eval (.tmp t) := by
    intro v w2 h2; obtain ⟨a', w', hk, ht⟩ := wpList_end l _ w2 (fun j hj => ho j (by simp [hj])) h2; exact ⟨a', w', hk, fun t htt => (ht t htt).trans (eval_off hi (ho i (by simp)) v htt)⟩
   by_cases hw : Region.wanted o (yielded ops a.tmps) = true
   ·
    rw [if_pos hw] at h
    rcases h with h | ⟨_, _, _, h⟩
    ·
     unfold Oper.wp at h
     cases hr : (execOp a.eval o).run P w with
     | ok n w2 =>
      rw [hr] at h
      cases n <;> simp only [Oper.upon] at h
      case value u => exact nxt _ _ h
      case skip => exact nxt _ _ h
      case defer d =>
       obtain ⟨a', w', hk, ht⟩ := wpList_end l _ w2 (fun j hj => ho j (by simp [hj])) h; refine ⟨a', w', hk, fun t htt => (ht t htt).trans ?_⟩; exact (eval_off (a := { a with defers := d :: a.defers }) hi (ho i (by simp)) undef htt).trans rfl
      case enter f args =>
       obtain ⟨e, w3, fr, he, _⟩ := h []
       cases e with
       | returned u => exact nxt _ _ he
       | panicked c => exact he.elim
       | outgrown => obtain ⟨_, _, hf⟩ := he; exact hf.elim
      case row row args =>
       obtain ⟨v, w3, he, _⟩ := h default []; exact nxt _ _ he
     | halt x w2 =>
      rw [hr] at h
      cases x <;> simp only [Oper.upon] at h
      case panic v => exact h.elim
    ·
     exact h.elim
   ·
    rw [if_neg hw] at h; exact nxt _ _ h
theorem Sch.comes {K : Act → World → Prop} {T : List Tmp} : ∀ (s : Sch) (a : Act) (w : World), s.off ops T = true → s.wp P ops Rq K a w → ∃ a' w', K a' w' ∧ ∀ t ∈ T, a'.eval (.tmp t) = a.eval (.tmp t)
 | .done, a, w, _, h => ⟨a, w, h, fun _ _ => rfl⟩
 | .blk l rest, a, w, ho, h => by
  simp only [Sch.off, Bool.and_eq_true, List.all_eq_true] at ho; obtain ⟨a1, w1, h1, t1⟩ := wpList_end l a w ho.1 h; obtain ⟨a2, w2, h2, t2⟩ := Sch.comes rest a1 w1 ho.2 h1; exact ⟨a2, w2, h2, fun t ht => (t2 t ht).trans (t1 t ht)⟩
 | .one i rest, a, w, ho, h => by
  simp only [Sch.off, Bool.and_eq_true] at ho; obtain ⟨a1, w1, h1, t1⟩ := wpList_end [i] a w (by simpa using ho.1) h; obtain ⟨a2, w2, h2, t2⟩ := Sch.comes rest a1 w1 ho.2 h1.2; exact ⟨a2, w2, h2, fun t ht => (t2 t ht).trans (t1 t ht)⟩
 | .two i j si sj, a, w, ho, h => by
  simp only [Sch.off, Bool.and_eq_true] at ho; obtain ⟨a1, w1, h1, t1⟩ := wpList_end [i] a w (by simpa using ho.1.1.1) h.1; obtain ⟨a2, w2, h2, t2⟩ := Sch.comes si a1 w1 ho.1.2 h1.2; exact ⟨a2, w2, h2, fun t ht => (t2 t ht).trans (t1 t ht)⟩
 | .tri i j k si sj sk, a, w, ho, h => by
  simp only [Sch.off, Bool.and_eq_true] at ho; obtain ⟨a1, w1, h1, t1⟩ := wpList_end [i] a w (by simpa using ho.1.1.1.1.1) h.1; obtain ⟨a2, w2, h2, t2⟩ := Sch.comes si a1 w1 ho.1.1.2 h1.2; exact ⟨a2, w2, h2, fun t ht => (t2 t ht).trans (t1 t ht)⟩
theorem numOk_congr {a a' : Act} {o : Oper} (h : ∀ t ∈ o.looksAt ops, a'.eval (.tmp t) = a.eval (.tmp t)) : numOk a'.eval o.op = numOk a.eval o.op := by
 have hx : ∀ x ∈ o.op.operands, a'.eval x = a.eval x := by
  intro x hx
  cases x with
  | tmp t => exact h t (List.mem_append_left _ (List.mem_filterMap.2 ⟨.tmp t, by simpa using hx, rfl⟩))
  | _ => rfl
 unfold numOk
 cases hop : o.op <;> rw [hop] at hx <;> simp only [Op.operands] at hx <;> try rfl
 ·
  rename_i x y _
  dsimp only; rw [hx x (by simp), hx y (by simp)]
 ·
  rename_i x
  dsimp only; rw [hx x (by simp)]
theorem numOk_congr' {a a' : Act} {o : Oper} (h : ∀ t ∈ numT ops o, a'.eval (.tmp t) = a.eval (.tmp t)) : numOk a'.eval o.op = numOk a.eval o.op := by
 cases hn : isNum o.op
 ·
  unfold numOk
  cases hop : o.op <;> rw [hop] at hn <;> first | rfl | cases hn
 ·
  exact numOk_congr (by simpa [numT, hn] using h)
def OnlyN (Q : Exit → Act → World → Prop) : Exit → Act → World → Prop
  | .normal, a, w => Q .normal a w
  | _, _, _ => False
theorem OnlyN.imp {Q : Exit → Act → World → Prop} : ∀ (e : Exit) (a : Act) (w : World), OnlyN Q e a w → Q e a w := fun e a w h => by
 cases e <;> first | exact h | exact (h : False).elim
def SchEnd (ops : Array Oper) (Q : Exit → Act → World → Prop) (a : Act) (w : World) : Prop := chk ops a = true ∧ Q .normal a w
theorem wpOp_one {K : Act → World → Prop} {i : Nat} {a : Act} {w : World} (hm : i < ops.size) (h : wpList P ops (Exit.then K (fun _ _ _ => False)) (pick ops [i]) a w) : wpOp P ops (OnlyN Q) i K a w := by
 have ho : ops[i]? = some ops[i] := by simp [hm]
 have hp : pick ops [i] = [ops[i]] := by simp [pick, ho]
 rw [hp] at h; unfold wpOp; simp only [ho]; simp only [wpList] at h
 by_cases hw : Region.wanted ops[i] (yielded ops a.tmps) = true
 ·
  rw [if_pos hw] at h ⊢
  rcases h with h | ⟨_, _, _, h2⟩
  ·
   refine .inl ?_; unfold Oper.wp at *; generalize (execOp a.eval ops[i]).run P w = r at *
   cases r with
   | ok n w' =>
    cases n <;> simp only [Oper.upon] at h ⊢
    case enter f args =>
     refine Calls.mono h fun e w'' he => ?_
     cases e with
     | returned v => exact he
     | panicked c => exact he.elim
     | outgrown => obtain ⟨_, _, hf⟩ := he; exact hf.elim
    all_goals exact h
   | halt x w' =>
    cases x <;> simp only [Oper.upon] at h ⊢
    all_goals exact h.elim
  ·
   exact h2.elim
 ·
  rw [if_neg hw] at h ⊢
  exact h
theorem Sch.blkAny (hs : Region.noSelect ops = true) (rest : Sch) (hrest : ∀ (fuel : Nat) (listed : Array Bool) (a : Act) (w : World), rest.len ≤ fuel → rest.ok P ops Rq listed = true → Closed ops listed →
   rest.wp P ops Rq (SchEnd ops Q) a w → wpAnyE P ops (OnlyN Q) Rq fuel listed a w) :
  ∀ (l : List Nat) (fuel : Nat) (listed : Array Bool) (a : Act) (w : World), l.length + rest.len ≤ fuel → Sch.okBlk P ops Rq rest l listed = true → rest.ok P ops Rq (listAll l listed) = true → Closed ops listed →
   wpList P ops (Exit.then (fun a' w' => rest.wp P ops Rq (SchEnd ops Q) a' w') (fun _ _ _ => False)) (pick ops l) a w → wpAnyE P ops (OnlyN Q) Rq fuel listed a w
 | [], fuel, listed, a, w, hf, _, hr, hc, h => hrest fuel listed a w (by simpa using hf) hr hc h
 | i :: l, 0, _, _, _, hf, _, _, _, _ => absurd hf (by simp)
 | i :: l, fuel + 1, listed, a, w, hf, hb, hr, hc, h => by
  simp only [Sch.okBlk, Bool.and_eq_true] at hb; obtain ⟨ht, hb'⟩ := hb; unfold takeB at ht
  cases ho : ops[i]? with
  | none => simp [ho] at ht
  | some o =>
   simp only [ho, Bool.and_eq_true] at ht; obtain ⟨⟨⟨⟨hk, hrd⟩, hfr⟩, hof1⟩, hof2⟩ := ht; have hrd' : i ∈ Region.ready .any ops listed := by simpa using hrd
   rw [List.all_eq_true] at hof1; have hp : pick ops (i :: l) = o :: pick ops l := by simp [pick, ho]
   rw [hp] at h; simp only [wpList] at h
   have key : ∀ (free : Bool) (v : Value), (free = false → ∀ j oj, ops[j]? = some oj → j ≠ i → listed.getD j true = false → Rq j = true ∨ waitsT ops ops.size j i = true) → YieldsIf P ops (clsS free w) o v a →
     wpList P ops (Exit.then (fun a' w' => rest.wp P ops Rq (SchEnd ops Q) a' w') (fun _ _ _ => False)) (pick ops l) (a.put o.dst v) w → wpAnyE P ops (OnlyN Q) Rq (fuel + 1) listed a w := by
    intro free v hR hy hn
    exact wpAnyE_first (n := ops.size) ho (Region.noSelect_spec hs) (fun _ _ _ hh => hh) fuel listed a w hc (Region.free_spec ho hfr) hR hrd' hy
     (Sch.blkAny hs rest hrest l fuel _ _ _ (by simp at hf; omega) hb' hr (hc.set hrd') hn)
   have hR : kindOp P o.op ≠ 2 → ∀ j oj, ops[j]? = some oj → j ≠ i → listed.getD j true = false → Rq j = true ∨ waitsT ops ops.size j i = true := by
    intro hne j oj hoj hji hun; simp only [Bool.or_eq_true, beq_iff_eq, Bool.and_eq_true, List.all_eq_true, List.mem_range] at hk
    rcases hk with hk | hk
    ·
     exact absurd hk hne
    ·
     rcases hk.2 j (Array.getElem?_eq_some_iff.1 hoj).1 with ((h1 | h1) | h1) | h1
     ·
      exact absurd h1 hji
     ·
      rw [hun] at h1; cases h1
     ·
      exact .inl h1
     ·
      exact .inr h1
   by_cases hw : Region.wanted o (yielded ops a.tmps) = true
   ·
    rw [if_pos hw] at h
    rcases h with h | ⟨_, _, _, h2⟩
    ·
     unfold Oper.wp at h
     cases hrun : (execOp a.eval o).run P w with
     | halt x w2 =>
      rw [hrun] at h
      cases x <;> simp only [Oper.upon] at h
      exact h.elim
     | ok n w2 =>
      have hk0 : kindOp P o.op ≠ 0 := by
       intro h0; simp [h0] at hk
      obtain ⟨v, rfl⟩ := valued a.eval o hk0 hrun; rw [hrun] at h; simp only [Oper.upon] at h; obtain ⟨a1, w1, h1, t1⟩ := wpList_end l (a.put o.dst v) w2 (fun j hj => hof1 j (by simp [hj])) h; obtain ⟨a3, w3, h3, t3⟩ := Sch.comes rest a1 w1 hof2 h1
      have hnum : numOk a.eval o.op = true := by
       rw [← numOk_congr' (ops := ops) (a := a) (a' := a3) (fun t ht => ((t3 t ht).trans (t1 t ht)).trans (eval_off ho (hof1 i (by simp)) v ht))]; have := h3.1; unfold chk at this; rw [List.all_eq_true] at this; exact this o (by simpa using Array.mem_of_getElem? ho)
      by_cases h2 : kindOp P o.op = 2
      ·
       have st := steady_exec (P := P) (K := fun _ _ => True) a.eval o (.inl h2) hnum; obtain ⟨rfl, _⟩ := st w w _ w2 trivial hrun; exact key true v (fun hh => by cases hh) (.inl ⟨hw, fun w' _ => (st w2 w' _ w2 trivial hrun).2⟩) h
      ·
       have h1' : kindOp P o.op = 1 := by
        simp only [Bool.or_eq_true, beq_iff_eq, Bool.and_eq_true] at hk
        rcases hk with hk | hk
        ·
         exact absurd hk h2
        ·
         exact hk.1
       have st := steady_exec (P := P) (K := Ext) a.eval o (.inr ⟨h1', fun _ _ h => h⟩) hnum; obtain ⟨rfl, _⟩ := st w w _ w2 (Ext.refl w) hrun; exact key false v (fun _ => hR h2) (.inl ⟨hw, fun w' hw' => (st w2 w' _ w2 (hw' rfl) hrun).2⟩) h
    ·
     exact h2.elim
   ·
    rw [if_neg hw] at h; exact key true undef (fun hh => by cases hh) (.inr ⟨by simpa using hw, rfl⟩) h
theorem Sch.any (hs : Region.noSelect ops = true) : ∀ (s : Sch) (fuel : Nat) (listed : Array Bool) (a : Act) (w : World), s.len ≤ fuel → s.ok P ops Rq listed = true → Closed ops listed →
  s.wp P ops Rq (SchEnd ops Q) a w → wpAnyE P ops (OnlyN Q) Rq fuel listed a w
 | .done, fuel, listed, a, w, _, hok, _, h => by
  have hr : Region.ready .any ops listed = [] := by simpa [Sch.ok] using hok
  cases fuel with
  | zero => exact ⟨hr, h.2⟩
  | succ fuel => exact ⟨fun _ => h.2, by rw [hr]; simp⟩
 | .blk l rest, fuel, listed, a, w, hf, hok, hc, h => by
  simp only [Sch.ok, Bool.and_eq_true] at hok; exact Sch.blkAny hs rest (fun fuel listed a w h1 h2 h3 h4 => Sch.any hs rest fuel listed a w h1 h2 h3 h4) l fuel listed a w hf hok.1 hok.2 hc h
 | .one i rest, 0, _, _, _, hf, _, _, _ => absurd hf (by simp [Sch.len])
 | .one i rest, fuel + 1, listed, a, w, hf, hok, hc, h => by
  simp only [Sch.ok, Bool.and_eq_true, beq_iff_eq] at hok; have hin : i ∈ Region.ready .any ops listed := by rw [hok.1]; simp
  obtain ⟨_, oi, hoi, _⟩ := mem_ready.1 hin; refine ⟨fun h0 => (by rw [hok.1] at h0; cases h0), fun j hj => ?_⟩; obtain rfl : j = i := by rw [hok.1] at hj; simpa using hj
  refine wpOp_mono (fun a' w' hh => ⟨hh.1, Sch.any hs rest fuel _ a' w' (by simp [Sch.len] at hf; omega) hok.2 (hc.set hin) hh.2⟩) (wpOp_one (Array.getElem?_eq_some_iff.1 hoi).1 h)
 | .two i j si sj, 0, _, _, _, hf, _, _, _ => absurd hf (by simp [Sch.len])
 | .two i j si sj, fuel + 1, listed, a, w, hf, hok, hc, h => by
  simp only [Sch.ok, Bool.and_eq_true, beq_iff_eq] at hok; obtain ⟨⟨hr, hok1⟩, hok2⟩ := hok; have hin : i ∈ Region.ready .any ops listed := by rw [hr]; simp
  have hjn : j ∈ Region.ready .any ops listed := by rw [hr]; simp
  obtain ⟨_, oi, hoi, _⟩ := mem_ready.1 hin; obtain ⟨_, oj, hoj, _⟩ := mem_ready.1 hjn; have hl : si.len ≤ fuel ∧ sj.len ≤ fuel := by simp [Sch.len] at hf; omega
  refine ⟨fun h0 => (by rw [hr] at h0; cases h0), fun k hk => ?_⟩; rw [hr] at hk; have : k = i ∨ k = j := by simpa using hk
  rcases this with rfl | rfl
  ·
   exact wpOp_mono (fun a' w' hh => ⟨hh.1, Sch.any hs si fuel _ a' w' hl.1 hok1 (hc.set hin) hh.2⟩) (wpOp_one (Array.getElem?_eq_some_iff.1 hoi).1 h.1)
  ·
   exact wpOp_mono (fun a' w' hh => ⟨hh.1, Sch.any hs sj fuel _ a' w' hl.2 hok2 (hc.set hjn) hh.2⟩) (wpOp_one (Array.getElem?_eq_some_iff.1 hoj).1 h.2)
 | .tri i j k si sj sk, 0, _, _, _, hf, _, _, _ => absurd hf (by simp [Sch.len])
 | .tri i j k si sj sk, fuel + 1, listed, a, w, hf, hok, hc, h => by
  simp only [Sch.ok, Bool.and_eq_true, beq_iff_eq] at hok; obtain ⟨⟨⟨hr, hok1⟩, hok2⟩, hok3⟩ := hok; have hin : i ∈ Region.ready .any ops listed := by rw [hr]; simp
  have hjn : j ∈ Region.ready .any ops listed := by rw [hr]; simp
  have hkn : k ∈ Region.ready .any ops listed := by rw [hr]; simp
  obtain ⟨_, oi, hoi, _⟩ := mem_ready.1 hin; obtain ⟨_, oj, hoj, _⟩ := mem_ready.1 hjn; obtain ⟨_, ok, hok, _⟩ := mem_ready.1 hkn; have hl : si.len ≤ fuel ∧ sj.len ≤ fuel ∧ sk.len ≤ fuel := by simp [Sch.len] at hf; omega
  refine ⟨fun h0 => (by rw [hr] at h0; cases h0), fun m hm => ?_⟩; rw [hr] at hm; have : m = i ∨ m = j ∨ m = k := by simpa using hm
  rcases this with rfl | rfl | rfl
  ·
   exact wpOp_mono (fun a' w' hh => ⟨hh.1, Sch.any hs si fuel _ a' w' hl.1 hok1 (hc.set hin) hh.2⟩) (wpOp_one (Array.getElem?_eq_some_iff.1 hoi).1 h.1)
  ·
   exact wpOp_mono (fun a' w' hh => ⟨hh.1, Sch.any hs sj fuel _ a' w' hl.2.1 hok2 (hc.set hjn) hh.2⟩) (wpOp_one (Array.getElem?_eq_some_iff.1 hoj).1 h.2.1)
  ·
   exact wpOp_mono (fun a' w' hh => ⟨hh.1, Sch.any hs sk fuel _ a' w' hl.2.2 hok3 (hc.set hkn) hh.2⟩) (wpOp_one (Array.getElem?_eq_some_iff.1 hok).1 h.2.2)
theorem wp_region_plan {id : Nat} {a : Act} {w : World} (s : Sch) (bad : List Nat) (hm : P.follows .mixedOrders = true)
  (hB : (Region.noSelect ops && decide (s.len ≤ ops.size) && s.ok P ops (fun i => !bad.contains i) (Array.replicate ops.size false)) = true)
  (h : s.wp P ops (fun i => !bad.contains i) (SchEnd ops Q) a w.drew) : (Code.region id ops true).wp P Q a w := by
 simp only [Bool.and_eq_true, decide_eq_true_eq] at hB; refine Code.wp_mono OnlyN.imp ?_; exact wp_region_any hm (wpAny_of_E _ _ _ _ (Sch.any hB.1.1 s _ _ _ _ hB.1.2 hB.2 (Closed.start _) h))
structure Shut (p : Prop) : Prop where
  out : p
theorem blkStep {E : Act → World → Prop} {l : List Nat} {rest : Sch} {a : Act} {w : World} (h : ∀ K : Act → World → Prop, Hid (∀ a' w', Shut (rest.wp P ops Rq E a' w') → K a' w') → wpList P ops (Exit.then K (fun _ _ _ => False)) (pick ops l) a w) :
  Shut ((Sch.blk l rest).wp P ops Rq E a w) := ⟨h _ (Lib.hid fun _ _ h => h.out)⟩
theorem oneStep {E : Act → World → Prop} {i : Nat} {rest : Sch} {a : Act} {w : World} (h : ∀ K : Act → World → Prop, Hid (∀ a' w', Ext w w' → Shut (rest.wp P ops Rq E a' w') → K a' w') → wpList P ops (Exit.then K (fun _ _ _ => False)) (pick ops [i]) a w) :
  Shut ((Sch.one i rest).wp P ops Rq E a w) := ⟨h _ (Lib.hid fun _ _ h1 h => ⟨fun _ => h1, h.out⟩)⟩
theorem badStep {E : Act → World → Prop} {i : Nat} {rest : Sch} {a : Act} {w : World} (hb : Rq i = false) (h : ∀ K : Act → World → Prop, Hid (∀ a' w', Shut (rest.wp P ops Rq E a' w') → K a' w') → wpList P ops (Exit.then K (fun _ _ _ => False)) (pick ops [i]) a w) :
  Shut ((Sch.one i rest).wp P ops Rq E a w) := ⟨h _ (Lib.hid fun _ _ h => ⟨(fun e => by rw [hb] at e; cases e), h.out⟩)⟩
theorem twoStep {E : Act → World → Prop} {i j : Nat} {si sj : Sch} {a : Act} {w : World} (h1 : Shut ((Sch.one i si).wp P ops Rq E a w)) (h2 : Shut ((Sch.one j sj).wp P ops Rq E a w)) : Shut ((Sch.two i j si sj).wp P ops Rq E a w) := ⟨h1.out, h2.out⟩
theorem triStep {E : Act → World → Prop} {i j k : Nat} {si sj sk : Sch} {a : Act} {w : World} (h1 : Shut ((Sch.one i si).wp P ops Rq E a w)) (h2 : Shut ((Sch.one j sj).wp P ops Rq E a w)) (h3 : Shut ((Sch.one k sk).wp P ops Rq E a w)) : Shut ((Sch.tri i j k si sj sk).wp P ops Rq E a w) := ⟨h1.out, h2.out, h3.out⟩
theorem doneStep {a : Act} {w : World} (h1 : chk ops a = true) (h2 : Q .normal a w) : Shut (Sch.done.wp P ops Rq (SchEnd ops Q) a w) := ⟨h1, h2⟩
theorem planStep {id : Nat} {a : Act} {w : World} (s : Sch) (bad : List Nat) (hm : P.follows .mixedOrders = true)
  (hB : (Region.noSelect ops && decide (s.len ≤ ops.size) && s.ok P ops (fun i => !bad.contains i) (Array.replicate ops.size false)) = true)
  (h : Shut (s.wp P ops (fun i => !bad.contains i) (SchEnd ops Q) a w.drew)) : (Code.region id ops true).wp P Q a w := wp_region_plan s bad hm hB h.out
def undefs : List Tmp → Act → Act
  | [], a => a
  | d :: ds, a => undefs ds (a.put (some d) undef)
def skipB (ops : Array Oper) : List Oper → List Tmp → Act → Bool
  | [], [], _ => true
  | o :: l, d :: ds, a => !Region.wanted o (yielded ops a.tmps) && o.dst == some d && skipB ops l ds (a.put (some d) undef)
  | _, _, _ => false
theorem wpList_skips {Q' : Exit → Act → World → Prop} {w : World} : ∀ (l : List Oper) (ds : List Tmp) (a : Act), skipB ops l ds a = true → Q' .normal (undefs ds a) w → wpList P ops Q' l a w
 | [], [], _, _, h => h
 | o :: l, d :: ds, a, hb, h => by
  simp only [skipB, Bool.and_eq_true, Bool.not_eq_true', beq_iff_eq] at hb; refine wpList_skip hb.1.1 ?_; rw [hb.1.2]; exact wpList_skips l ds _ hb.2 h
 | [], _ :: _, _, hb, _ => by cases hb
 | _ :: _, [], _, hb, _ => by cases hb
theorem blkSkip {E : Act → World → Prop} {l : List Nat} {rest : Sch} {a : Act} {w : World} (ds : List Tmp) (hb : skipB ops (pick ops l) ds a = true) (h : Shut (rest.wp P ops Rq E (undefs ds a) w)) : Shut ((Sch.blk l rest).wp P ops Rq E a w) :=
 ⟨wpList_skips _ ds a hb h.out⟩
theorem oneSkip {E : Act → World → Prop} {i : Nat} {rest : Sch} {a : Act} {w : World} (ds : List Tmp) (hb : skipB ops (pick ops [i]) ds a = true) (h : Shut (rest.wp P ops Rq E (undefs ds a) w)) : Shut ((Sch.one i rest).wp P ops Rq E a w) :=
 ⟨wpList_skips _ ds a hb ⟨fun _ => Ext.refl _, h.out⟩⟩
end
end
section
open Go.ChangeShapes Go.WideShapes Go.ChangeAt Go.RowKit Go.Deep
structure Hop where
  asn : Int
  ing : Int
  eg : Int
  exp : Int
  mac : Int
  deriving DecidableEq
def Hop.f (x : Hop) : List Value := [.int .i64 x.asn, .int .i64 x.ing, .int .i64 x.eg, .int .i64 x.exp, .int .i64 x.mac]
theorem Hop.flen (x : Hop) : x.f.length = 5 := rfl
def Hop.rep : Rep Hop := Rep.flat 5 Hop.f Hop.flen
theorem Hop.one (x : Hop) : ∀ u ∈ x.f, u.oneCell' = true := by
 intro u hu; simp only [Hop.f, List.mem_cons, List.not_mem_nil, or_false] at hu
 rcases hu with rfl | rfl | rfl | rfl | rfl <;> rfl
theorem Hop.at {w : World} {o : Option Addr} {m cap : Nat} {l : List Hop} (h : RdS Hop.rep w (.slice o m cap) l) (k : Nat) (hk : k < l.length) :
  ∃ b off, o = some ⟨b, off, none⟩ ∧ w.cell? ⟨b, off + k * 5, none⟩ = some (.int .i64 l[k].asn) ∧ w.cell? ⟨b, off + k * 5 + 1, none⟩ = some (.int .i64 l[k].ing) ∧ w.cell? ⟨b, off + k * 5 + 2, none⟩ = some (.int .i64 l[k].eg) ∧ w.cell? ⟨b, off + k * 5 + 3, none⟩ = some (.int .i64 l[k].exp) ∧ w.cell? ⟨b, off + k * 5 + 4, none⟩ = some (.int .i64 l[k].mac) := by
 obtain ⟨b, off, ho, hc⟩ := RdS.at_flat h k hk; exact ⟨b, off, ho, by simpa using hc 0 _ rfl, by simpa using hc 1 _ rfl, by simpa using hc 2 _ rfl, by simpa using hc 3 _ rfl, by simpa using hc 4 _ rfl⟩
theorem Hop.at_ext {w w' : World} {b off k : Nat} {l : List Hop} {hk : k < l.length} (x : Ext w w') (h : w.cell? ⟨b, off + k * 5, none⟩ = some (.int .i64 l[k].asn) ∧ w.cell? ⟨b, off + k * 5 + 1, none⟩ = some (.int .i64 l[k].ing) ∧ w.cell? ⟨b, off + k * 5 + 2, none⟩ = some (.int .i64 l[k].eg) ∧ w.cell? ⟨b, off + k * 5 + 3, none⟩ = some (.int .i64 l[k].exp) ∧ w.cell? ⟨b, off + k * 5 + 4, none⟩ = some (.int .i64 l[k].mac)) :
  w'.cell? ⟨b, off + k * 5, none⟩ = some (.int .i64 l[k].asn) ∧ w'.cell? ⟨b, off + k * 5 + 1, none⟩ = some (.int .i64 l[k].ing) ∧ w'.cell? ⟨b, off + k * 5 + 2, none⟩ = some (.int .i64 l[k].eg) ∧ w'.cell? ⟨b, off + k * 5 + 3, none⟩ = some (.int .i64 l[k].exp) ∧ w'.cell? ⟨b, off + k * 5 + 4, none⟩ = some (.int .i64 l[k].mac) := by
 obtain ⟨h0, h1, h2, h3, h4⟩ := h; exact ⟨x.cell h0, x.cell h1, x.cell h2, x.cell h3, x.cell h4⟩
theorem Hop.own_at {base : Nat} {e : TypeId} {w : World} {g m cap : Nat} {l : List Hop} (h : OwnF Hop.f 5 base e w (.slice (some ⟨g, 0, none⟩) m cap) l) (k : Nat) (hk : k < l.length) :
  w.cell? ⟨g, k * 5, none⟩ = some (.int .i64 l[k].asn) ∧ w.cell? ⟨g, k * 5 + 1, none⟩ = some (.int .i64 l[k].ing) ∧ w.cell? ⟨g, k * 5 + 2, none⟩ = some (.int .i64 l[k].eg) ∧ w.cell? ⟨g, k * 5 + 3, none⟩ = some (.int .i64 l[k].exp) ∧ w.cell? ⟨g, k * 5 + 4, none⟩ = some (.int .i64 l[k].mac) := by
 have hc := OwnF.cells_flat Hop.flen h k hk; exact ⟨by simpa using hc 0 _ rfl, by simpa using hc 1 _ rfl, by simpa using hc 2 _ rfl, by simpa using hc 3 _ rfl, by simpa using hc 4 _ rfl⟩
theorem Tryz.infoHop : (Tryz.prog.info? 71).map (fun i => (i.zero, i.size, i.bytes)) = some (some (.agg #[.int .i64 0, .int .i64 0, .int .i64 0, .int .i64 0, .int .i64 0]), 5, 40) := by kernel_rfl
theorem Hop.sets {l : List Hop} {k : Nat} (hk : k < l.length) (x : Hop) : ((((((l.flatMap Hop.f).set (k * 5) (.int .i64 x.asn)).set (k * 5 + 1) (.int .i64 x.ing)).set (k * 5 + 2) (.int .i64 x.eg)).set (k * 5 + 3) (.int .i64 x.exp)).set (k * 5 + 4) (.int .i64 x.mac)) = (l.set k x).flatMap Hop.f := by
 induction l generalizing k with
 | nil => simp at hk
 | cons a l ih =>
  cases k with
  | zero => rfl
  | succ k =>
   have := ih (k := k) (by simpa using hk); simp only [List.flatMap_cons, List.set_cons_succ, ← this, Hop.f]; rw [show (k + 1) * 5 = k * 5 + 1 + 1 + 1 + 1 + 1 from by omega]; rfl
theorem Hop.own_set {base : Nat} {e : TypeId} {w : World} {g m cap : Nat} {l : List Hop} (h : OwnF Hop.f 5 base e w (.slice (some ⟨g, 0, none⟩) m cap) l) (k : Nat) (hk : k < l.length) (x : Hop) :
  OwnF Hop.f 5 base e (((((w.setCell ⟨g, k * 5, none⟩ (.int .i64 x.asn)).setCell ⟨g, k * 5 + 1, none⟩ (.int .i64 x.ing)).setCell ⟨g, k * 5 + 2, none⟩ (.int .i64 x.eg)).setCell ⟨g, k * 5 + 3, none⟩ (.int .i64 x.exp)).setCell ⟨g, k * 5 + 4, none⟩ (.int .i64 x.mac)) (.slice (some ⟨g, 0, none⟩) m cap) (l.set k x) ∧
   w.grownBy (((((w.setCell ⟨g, k * 5, none⟩ (.int .i64 x.asn)).setCell ⟨g, k * 5 + 1, none⟩ (.int .i64 x.ing)).setCell ⟨g, k * 5 + 2, none⟩ (.int .i64 x.eg)).setCell ⟨g, k * 5 + 3, none⟩ (.int .i64 x.exp)).setCell ⟨g, k * 5 + 4, none⟩ (.int .i64 x.mac)) (some g) := by
 obtain rfl := h.len; obtain ⟨h0, g0⟩ := World.ownsRow.stored h (k * 5) (.int .i64 x.asn); obtain ⟨h1, g1⟩ := World.ownsRow.stored h0 (k * 5 + 1) (.int .i64 x.ing); obtain ⟨h2, g2⟩ := World.ownsRow.stored h1 (k * 5 + 2) (.int .i64 x.eg); obtain ⟨h3, g3⟩ := World.ownsRow.stored h2 (k * 5 + 3) (.int .i64 x.exp); obtain ⟨h4, g4⟩ := World.ownsRow.stored h3 (k * 5 + 4) (.int .i64 x.mac); rw [Hop.sets hk] at h4; refine ⟨?_, ((((g0.trans g1).trans g2).trans g3).trans g4)⟩; unfold OwnF; rw [List.length_set]; exact h4
theorem Hop.ext' {x y : Hop} (h0 : x.asn = y.asn) (h1 : x.ing = y.ing) (h2 : x.eg = y.eg) (h3 : x.exp = y.exp) (h4 : x.mac = y.mac) : x = y := by
 cases x; cases y; simp_all
theorem Hop.eq_iff (x y : Hop) : (decide (x = y) : Bool) = (!(x.asn != y.asn) && !(x.ing != y.ing) && !(x.eg != y.eg) && !(x.exp != y.exp) && !(x.mac != y.mac)) := by
 cases x; cases y; simp only [nbne, Hop.mk.injEq, Bool.decide_and, Bool.and_assoc]
def Hop.mk' (k : Int) : Hop := ⟨k, k + 1, k + 1 + 1, k + 1 + 1 + 1, k + 1 + 1 + 1 + 1⟩
def Hop.ok (x : Hop) : Prop := I64 x.asn ∧ I64 x.ing ∧ I64 x.eg ∧ I64 x.exp ∧ I64 x.mac
end
section
open Go.ChangeShapes Go.WideShapes Go.ChangeAt Go.RowKit Go.Deep
theorem szL_add' {left : Int} {n m : Nat} (_ : ¬ left - n < 0) : szL (left - n) m = szL left (n + m) := by
 unfold szL
 by_cases h2 : left - n - m < 0
 ·
  rw [if_pos h2, if_pos (by omega)]
 ·
  rw [if_neg h2, if_neg (by omega)]; omega
structure Part where
  kind : Int
  ts : Int
  beta : Int
  hops : List Hop
  deriving DecidableEq
def Part.c (x : Part) (v : Value) : List Value := [.int .i64 x.kind, .int .i64 x.ts, .int .i64 x.beta, v]
theorem Part.clen (x : Part) (v : Value) : (x.c v).length = 4 := rfl
def Part.rep : Rep Part where
  cells := 4
  rd w cs x := ∃ v, cs = x.c v ∧ RdS Hop.rep w v x.hops
  len := by rintro w cs a ⟨v, rfl, _⟩; rfl
  ext := by rintro w w' cs a e ⟨v, rfl, h⟩; exact ⟨v, rfl, h.ext e⟩
def Part.ok (x : Part) : Prop := I64 x.kind ∧ I64 x.ts ∧ I64 x.beta ∧ ∀ y ∈ x.hops, Hop.ok y
def Part.size (x : Part) : Nat := x.hops.length
theorem Part.at {w : World} {o : Option Addr} {m cap : Nat} {l : List Part} (h : RdS Part.rep w (.slice o m cap) l) (k : Nat) (hk : k < l.length) :
  ∃ b off oh ch, o = some ⟨b, off, none⟩ ∧ (w.cell? ⟨b, off + k * 4, none⟩ = some (.int .i64 l[k].kind) ∧ w.cell? ⟨b, off + k * 4 + 1, none⟩ = some (.int .i64 l[k].ts) ∧ w.cell? ⟨b, off + k * 4 + 2, none⟩ = some (.int .i64 l[k].beta) ∧
   w.cell? ⟨b, off + k * 4 + 3, none⟩ = some (.slice oh l[k].hops.length ch)) ∧ RdS Hop.rep w (.slice oh l[k].hops.length ch) l[k].hops := by
 obtain ⟨o', cap', hv, h1, h2, hn, h3⟩ := h; obtain ⟨b, off, cs, ho, hc, v, rfl, hr⟩ := h3 k hk
 cases hv
 obtain ⟨oh, ch, rfl, _⟩ := hr.shape; exact ⟨b, off, oh, ch, ho, ⟨hc 0 _ rfl, hc 1 _ rfl, hc 2 _ rfl, hc 3 _ rfl⟩, hr⟩
theorem Part.at_ext {w w' : World} {b off k : Nat} {v0 v1 v2 v3 : Value} (x : Ext w w') (h : w.cell? ⟨b, off + k * 4, none⟩ = some v0 ∧ w.cell? ⟨b, off + k * 4 + 1, none⟩ = some v1 ∧ w.cell? ⟨b, off + k * 4 + 2, none⟩ = some v2 ∧ w.cell? ⟨b, off + k * 4 + 3, none⟩ = some v3) :
  w'.cell? ⟨b, off + k * 4, none⟩ = some v0 ∧ w'.cell? ⟨b, off + k * 4 + 1, none⟩ = some v1 ∧ w'.cell? ⟨b, off + k * 4 + 2, none⟩ = some v2 ∧ w'.cell? ⟨b, off + k * 4 + 3, none⟩ = some v3 :=
 ⟨x.cell h.1, x.cell h.2.1, x.cell h.2.2.1, x.cell h.2.2.2⟩
structure Pth where
  parts : List Part
  deriving DecidableEq
def Pth.c (_ : Pth) (v : Value) : List Value := [v]
def Pth.rep : Rep Pth where
  cells := 1
  rd w cs x := ∃ v, cs = x.c v ∧ RdS Part.rep w v x.parts
  len := by rintro w cs a ⟨v, rfl, _⟩; rfl
  ext := by rintro w w' cs a e ⟨v, rfl, h⟩; exact ⟨v, rfl, h.ext e⟩
def Pth.ok (x : Pth) : Prop := ∀ y ∈ x.parts, Part.ok y
def hopsN (l : List Part) : Nat := (l.map Part.size).sum
theorem hopsN_snoc {l : List Part} {k : Nat} (hk : k < l.length) : hopsN (l.take (k + 1)) = hopsN (l.take k) + l[k].hops.length := by
 unfold hopsN; rw [List.take_succ_eq_append_getElem hk, List.map_append, List.sum_append]; simp only [List.map_cons, List.map_nil, List.sum_cons, List.sum_nil, Part.size]; omega
theorem hopsN_take_le (l : List Part) (k : Nat) : hopsN (l.take k) ≤ hopsN l := by
 unfold hopsN; have h := List.take_append_drop k l; have h2 : (l.map Part.size).sum = ((l.take k ++ l.drop k).map Part.size).sum := by rw [h]
 rw [List.map_append, List.sum_append] at h2; omega
theorem hopsN_le {l : List Part} {k : Nat} (hk : k < l.length) : l[k].hops.length ≤ hopsN l := by
 have h1 := hopsN_snoc hk; have h2 := hopsN_take_le l (k + 1); omega
def Pth.size (x : Pth) : Nat := x.parts.length + hopsN x.parts
def Part.own : Own Part := Own.nest 4 Part.c Part.clen (·.hops) 74 (Own.flat Hop.f 5 Hop.flen 71)
theorem Part.ord {S : Nat → Prop} {w : World} {v : Value} {l : List Part} (h : Part.own.own S w v l) : RdS Part.rep w v l := Part.own.rd h
theorem Tryz.infoPart : (Tryz.prog.info? 74).map (fun i => (i.zero, i.size, i.bytes)) = some (some (.agg #[.int .i64 0, .int .i64 0, .int .i64 0, .slice none 0 0]), 4, 48) := by kernel_rfl
theorem Part.row_set {w : World} {g m cap : Nat} {qs : List (Cap Part)} (h : OwnF (capF Part.c) 4 0 74 w (.slice (some ⟨g, 0, none⟩) m cap) qs) (k : Nat) (hk : k < qs.length) (q : Cap Part) :
  OwnF (capF Part.c) 4 0 74 ((((w.setCell ⟨g, k * 4, none⟩ (.int .i64 q.dat.kind)).setCell ⟨g, k * 4 + 1, none⟩ (.int .i64 q.dat.ts)).setCell ⟨g, k * 4 + 2, none⟩ (.int .i64 q.dat.beta)).setCell ⟨g, k * 4 + 3, none⟩ q.val) (.slice (some ⟨g, 0, none⟩) m cap) (qs.set k q) ∧
   w.grownBy ((((w.setCell ⟨g, k * 4, none⟩ (.int .i64 q.dat.kind)).setCell ⟨g, k * 4 + 1, none⟩ (.int .i64 q.dat.ts)).setCell ⟨g, k * 4 + 2, none⟩ (.int .i64 q.dat.beta)).setCell ⟨g, k * 4 + 3, none⟩ q.val) (some g) := by
 have hf : ∀ q : Cap Part, (capF Part.c q).length = 4 := fun _ => rfl
 obtain ⟨h0, g0⟩ := OwnF.put1 hf h k hk 0 (by decide) (.int .i64 q.dat.kind) ⟨{ qs[k].dat with kind := q.dat.kind }, qs[k].val, qs[k].set⟩ rfl; have e0 : k < (qs.set k ⟨{ qs[k].dat with kind := q.dat.kind }, qs[k].val, qs[k].set⟩).length := by simpa using hk
 obtain ⟨h1, g1⟩ := OwnF.put1 hf h0 k e0 1 (by decide) (.int .i64 q.dat.ts) ⟨{ qs[k].dat with kind := q.dat.kind, ts := q.dat.ts }, qs[k].val, qs[k].set⟩ (by simp [capF, Part.c]); rw [List.set_set] at h1; have e1 : k < (qs.set k ⟨{ qs[k].dat with kind := q.dat.kind, ts := q.dat.ts }, qs[k].val, qs[k].set⟩).length := by simpa using hk
 obtain ⟨h2, g2⟩ := OwnF.put1 hf h1 k e1 2 (by decide) (.int .i64 q.dat.beta) ⟨{ qs[k].dat with kind := q.dat.kind, ts := q.dat.ts, beta := q.dat.beta }, qs[k].val, qs[k].set⟩ (by simp [capF, Part.c]); rw [List.set_set] at h2; have e2 : k < (qs.set k ⟨{ qs[k].dat with kind := q.dat.kind, ts := q.dat.ts, beta := q.dat.beta }, qs[k].val, qs[k].set⟩).length := by simpa using hk
 obtain ⟨h3, g3⟩ := OwnF.put1 hf h2 k e2 3 (by decide) q.val q (by simp [capF, Part.c]); rw [List.set_set] at h3; exact ⟨h3, ((g0.trans g1).trans g2).trans g3⟩
end
section
open Go.ChangeShapes Go.WideShapes Go.ChangeAt Go.RowKit Go.Deep
structure Step where
  asn : Int
  ing : Int
  eg : Int
  deriving DecidableEq
def Step.f (x : Step) : List Value := [.int .i64 x.asn, .int .i64 x.ing, .int .i64 x.eg]
theorem Step.flen (x : Step) : x.f.length = 3 := rfl
def Step.rep : Rep Step := Rep.flat 3 Step.f Step.flen
theorem Step.one (x : Step) : ∀ u ∈ x.f, u.oneCell' = true := by
 intro u hu; simp only [Step.f, List.mem_cons, List.not_mem_nil, or_false] at hu
 rcases hu with rfl | rfl | rfl <;> rfl
theorem Step.at {w : World} {o : Option Addr} {m cap : Nat} {l : List Step} (h : RdS Step.rep w (.slice o m cap) l) (k : Nat) (hk : k < l.length) :
  ∃ b off, o = some ⟨b, off, none⟩ ∧ w.cell? ⟨b, off + k * 3, none⟩ = some (.int .i64 l[k].asn) ∧ w.cell? ⟨b, off + k * 3 + 1, none⟩ = some (.int .i64 l[k].ing) ∧ w.cell? ⟨b, off + k * 3 + 2, none⟩ = some (.int .i64 l[k].eg) := by
 obtain ⟨b, off, ho, hc⟩ := RdS.at_flat h k hk; exact ⟨b, off, ho, by simpa using hc 0 _ rfl, by simpa using hc 1 _ rfl, by simpa using hc 2 _ rfl⟩
theorem Step.at_ext {w w' : World} {b off k : Nat} {l : List Step} {hk : k < l.length} (x : Ext w w') (h : w.cell? ⟨b, off + k * 3, none⟩ = some (.int .i64 l[k].asn) ∧ w.cell? ⟨b, off + k * 3 + 1, none⟩ = some (.int .i64 l[k].ing) ∧ w.cell? ⟨b, off + k * 3 + 2, none⟩ = some (.int .i64 l[k].eg)) :
  w'.cell? ⟨b, off + k * 3, none⟩ = some (.int .i64 l[k].asn) ∧ w'.cell? ⟨b, off + k * 3 + 1, none⟩ = some (.int .i64 l[k].ing) ∧ w'.cell? ⟨b, off + k * 3 + 2, none⟩ = some (.int .i64 l[k].eg) := by
 obtain ⟨h0, h1, h2⟩ := h; exact ⟨x.cell h0, x.cell h1, x.cell h2⟩
theorem Step.own_at {base : Nat} {e : TypeId} {w : World} {g m cap : Nat} {l : List Step} (h : OwnF Step.f 3 base e w (.slice (some ⟨g, 0, none⟩) m cap) l) (k : Nat) (hk : k < l.length) :
  w.cell? ⟨g, k * 3, none⟩ = some (.int .i64 l[k].asn) ∧ w.cell? ⟨g, k * 3 + 1, none⟩ = some (.int .i64 l[k].ing) ∧ w.cell? ⟨g, k * 3 + 2, none⟩ = some (.int .i64 l[k].eg) := by
 have hc := OwnF.cells_flat Step.flen h k hk; exact ⟨by simpa using hc 0 _ rfl, by simpa using hc 1 _ rfl, by simpa using hc 2 _ rfl⟩
theorem Tryz.infoStep : (Tryz.prog.info? 86).map (fun i => (i.zero, i.size, i.bytes)) = some (some (.agg #[.int .i64 0, .int .i64 0, .int .i64 0]), 3, 24) := by kernel_rfl
theorem Step.sets {l : List Step} {k : Nat} (hk : k < l.length) (x : Step) : ((((l.flatMap Step.f).set (k * 3) (.int .i64 x.asn)).set (k * 3 + 1) (.int .i64 x.ing)).set (k * 3 + 2) (.int .i64 x.eg)) = (l.set k x).flatMap Step.f := by
 induction l generalizing k with
 | nil => simp at hk
 | cons a l ih =>
  cases k with
  | zero => rfl
  | succ k =>
   have := ih (k := k) (by simpa using hk); simp only [List.flatMap_cons, List.set_cons_succ, ← this, Step.f]; rw [show (k + 1) * 3 = k * 3 + 1 + 1 + 1 from by omega]; rfl
theorem Step.own_set {base : Nat} {e : TypeId} {w : World} {g m cap : Nat} {l : List Step} (h : OwnF Step.f 3 base e w (.slice (some ⟨g, 0, none⟩) m cap) l) (k : Nat) (hk : k < l.length) (x : Step) :
  OwnF Step.f 3 base e (((w.setCell ⟨g, k * 3, none⟩ (.int .i64 x.asn)).setCell ⟨g, k * 3 + 1, none⟩ (.int .i64 x.ing)).setCell ⟨g, k * 3 + 2, none⟩ (.int .i64 x.eg)) (.slice (some ⟨g, 0, none⟩) m cap) (l.set k x) ∧
   w.grownBy (((w.setCell ⟨g, k * 3, none⟩ (.int .i64 x.asn)).setCell ⟨g, k * 3 + 1, none⟩ (.int .i64 x.ing)).setCell ⟨g, k * 3 + 2, none⟩ (.int .i64 x.eg)) (some g) := by
 obtain rfl := h.len; obtain ⟨h0, g0⟩ := World.ownsRow.stored h (k * 3) (.int .i64 x.asn); obtain ⟨h1, g1⟩ := World.ownsRow.stored h0 (k * 3 + 1) (.int .i64 x.ing); obtain ⟨h2, g2⟩ := World.ownsRow.stored h1 (k * 3 + 2) (.int .i64 x.eg); rw [Step.sets hk] at h2; refine ⟨?_, ((g0.trans g1).trans g2)⟩; unfold OwnF; rw [List.length_set]; exact h2
theorem Step.ext' {x y : Step} (h0 : x.asn = y.asn) (h1 : x.ing = y.ing) (h2 : x.eg = y.eg) : x = y := by
 cases x; cases y; simp_all
theorem Step.eq_iff (x y : Step) : (decide (x = y) : Bool) = (!(x.asn != y.asn) && !(x.ing != y.ing) && !(x.eg != y.eg)) := by
 cases x; cases y; simp only [nbne, Step.mk.injEq, Bool.decide_and, Bool.and_assoc]
def Step.mk' (k : Int) : Step := ⟨k, k + 1, k + 1 + 1⟩
def Step.ok (x : Step) : Prop := I64 x.asn ∧ I64 x.ing ∧ I64 x.eg
end
section
open Go.RowKit
def isRev (k : Int) : Bool := k == 1 || k == 3
def hopIn (k : Int) (h : Hop) : Int := if isRev k then h.eg else h.ing
def hopEg (k : Int) (h : Hop) : Int := if isRev k then h.ing else h.eg
def partIn (p : Part) (i : Int) : Int := if 0 ≤ i ∧ i ≤ p.hops.length - 1 then (match p.hops[i.toNat]? with | some h => hopIn p.kind h | none => 0) else 0
def partEg (p : Part) (i : Int) : Int := if 0 ≤ i ∧ i ≤ p.hops.length - 1 then (match p.hops[i.toNat]? with | some h => hopEg p.kind h | none => 0) else 0
theorem partIn_at {p : Part} {i : Nat} (h : i < p.hops.length) : partIn p i = hopIn p.kind p.hops[i] := by
 unfold partIn; rw [if_pos (by omega)]; simp [h]
theorem partEg_at {p : Part} {i : Nat} (h : i < p.hops.length) : partEg p i = hopEg p.kind p.hops[i] := by
 unfold partEg; rw [if_pos (by omega)]; simp [h]
def mergeB (m : Bool) (out : List Step) (h : Hop) : Bool := m && (match out.getLast? with | some s => s.asn == h.asn | none => false)
def stepOf (k : Int) (h : Hop) : Step := ⟨h.asn, hopIn k h, hopEg k h⟩
def stepOne (m : Bool) (k : Int) (out : List Step) (h : Hop) : List Step :=
  if mergeB m out h then (match out.getLast? with | some s => out.set (out.length - 1) ⟨s.asn, s.ing, hopEg k h⟩ | none => out) else out ++ [stepOf k h]
def hopsTo (m : Bool) (k : Int) (out : List Step) (hs : List Hop) : Nat → List Step
  | 0 => out
  | i + 1 => match hs[i]? with
    | some h => stepOne (m && i == 0) k (hopsTo m k out hs i) h
    | none => hopsTo m k out hs i
def partsTo (ps : List Part) : Nat → List Step
  | 0 => []
  | k + 1 => match ps[k]? with
    | some p => hopsTo (decide (0 < k)) p.kind (partsTo ps k) p.hops p.hops.length
    | none => partsTo ps k
def endsIn (l : List Step) : List Step := if h : 0 < l.length then l.set 0 ⟨l[0].asn, 0, l[0].eg⟩ else l
def endsEg (l : List Step) : List Step := if h : 0 < l.length then l.set (l.length - 1) ⟨l[l.length - 1].asn, l[l.length - 1].ing, 0⟩ else l
def pathSteps (ps : List Part) : List Step := endsEg (endsIn (partsTo ps ps.length))
theorem hopsTo_succ {m : Bool} {k : Int} {out : List Step} {hs : List Hop} {i : Nat} (h : i < hs.length) : hopsTo m k out hs (i + 1) = stepOne (m && i == 0) k (hopsTo m k out hs i) hs[i] := by
 simp [hopsTo, h]
theorem partsTo_succ {ps : List Part} {k : Nat} (h : k < ps.length) : partsTo ps (k + 1) = hopsTo (decide (0 < k)) ps[k].kind (partsTo ps k) ps[k].hops ps[k].hops.length := by
 simp [partsTo, h]
theorem stepOne_no {m : Bool} {k : Int} {out : List Step} {h : Hop} (hm : mergeB m out h = false) : stepOne m k out h = out ++ [stepOf k h] := by simp [stepOne, hm]
theorem mergeB_len {m : Bool} {out : List Step} {h : Hop} (hm : mergeB m out h = true) : 0 < out.length := by
 cases out with
 | nil => simp [mergeB] at hm
 | cons a l => simp
theorem getLast_at {α : Type} {out : List α} (h : 0 < out.length) : out.getLast? = some out[out.length - 1] := by
 rw [List.getLast?_eq_getElem?, List.getElem?_eq_getElem (by omega)]
theorem mergeB_at {m : Bool} {out : List Step} {h : Hop} (hl : 0 < out.length) : mergeB m out h = (m && (out[out.length - 1].asn == h.asn)) := by
 unfold mergeB; rw [getLast_at hl]
theorem mergeB_nil {m : Bool} {h : Hop} : mergeB m [] h = false := by simp [mergeB]
theorem stepOne_yes {m : Bool} {k : Int} {out : List Step} {h : Hop} (hm : mergeB m out h = true) (hn : 0 < out.length) : stepOne m k out h = out.set (out.length - 1) ⟨(out[out.length - 1]'(by omega)).asn, (out[out.length - 1]'(by omega)).ing, hopEg k h⟩ := by
 simp only [stepOne, hm, if_true]; rw [getLast_at hn]
theorem stepOne_yes2 {m : Bool} {k : Int} {out : List Step} {h : Hop} (hm : mergeB m out h = true) (hn : 0 < out.length) : stepOne m k out h = out.take (out.length - 1) ++ [⟨h.asn, (out[out.length - 1]'(by omega)).ing, hopEg k h⟩] := by
 rw [stepOne_yes hm hn]
 have h1 : out[out.length - 1].asn = h.asn := by
  rw [mergeB_at hn] at hm; simp only [Bool.and_eq_true, beq_iff_eq] at hm; exact hm.2
 rw [h1]
 apply List.ext_getElem
 ·
  simp; omega
 ·
  intro i h1 h2; simp only [List.length_set] at h1; rw [List.getElem_set]
  by_cases hi : out.length - 1 = i
  ·
   subst hi; rw [if_pos rfl, List.getElem_append_right (by simp)]
   simp
  ·
   rw [if_neg hi, List.getElem_append_left (by simp; omega)]
   simp
theorem stepOne_len (m : Bool) (k : Int) (out : List Step) (h : Hop) : (stepOne m k out h).length ≤ out.length + 1 := by
 cases hm : mergeB m out h
 ·
  rw [stepOne_no hm]; simp
 ·
  rw [stepOne_yes hm (mergeB_len hm)]; simp
theorem hopsTo_len (m : Bool) (k : Int) (out : List Step) (hs : List Hop) : ∀ i, (hopsTo m k out hs i).length ≤ out.length + i
 | 0 => Nat.le_refl _
 | i + 1 => by
  have ih := hopsTo_len m k out hs i; unfold hopsTo
  split
  ·
   have := stepOne_len (m && i == 0) k (hopsTo m k out hs i) (by assumption); omega
  ·
   omega
theorem partsTo_len (ps : List Part) : ∀ k, k ≤ ps.length → (partsTo ps k).length ≤ hopsN (ps.take k)
 | 0, _ => by simp [partsTo]
 | k + 1, hk => by
  have ih := partsTo_len ps k (by omega); rw [partsTo_succ (by omega), hopsN_snoc (by omega)]; have := hopsTo_len (decide (0 < k)) ps[k].kind (partsTo ps k) ps[k].hops ps[k].hops.length; omega
theorem endsIn_len (l : List Step) : (endsIn l).length = l.length := by unfold endsIn; split <;> simp
theorem endsEg_len (l : List Step) : (endsEg l).length = l.length := by unfold endsEg; split <;> simp
theorem pathSteps_len (ps : List Part) : (pathSteps ps).length ≤ hopsN ps := by
 unfold pathSteps; rw [endsEg_len, endsIn_len]; have := partsTo_len ps ps.length (Nat.le_refl _)
 rwa [List.take_length] at this
def endsOf (l : List Step) : Int × Int := match l with
  | [] => (-1, -1)
  | a :: l => (a.asn, ((a :: l).getLast (by simp)).asn)
theorem endsOf_nil {l : List Step} (h : l.length = 0) : endsOf l = (-1, -1) := by
 unfold endsOf; rw [List.eq_nil_of_length_eq_zero h]
theorem endsOf_at {l : List Step} (h : 0 < l.length) : endsOf l = (l[0].asn, l[l.length - 1].asn) := by
 cases l with
 | nil => simp at h
 | cons a l => simp [endsOf, List.getLast_eq_getElem]
def ends (ps : List Part) : Int × Int := endsOf (pathSteps ps)
end
end Go.Proofs.YtcpfmhgfaliemaaGreat
