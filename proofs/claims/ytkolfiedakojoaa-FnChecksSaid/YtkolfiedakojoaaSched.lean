/- A region that draws its order, walked along one schedule: what only reads is taken as soon as it may come up; a call, an allocation, an append comes up when it alone may. No condition. -/
import Derived.Test.YtkolfiedakojoaaApp
import Derived.OrdersHeld
namespace Go.Proofs.Ytkolfiedakojoaa
open Go.ChangeShapes Go.WideShapes Go.ChangeAt Go.RowKit Go.Deep

section
variable {P : Program} {ops : Array Oper} {Q : Exit → Act → World → Prop} {C : World → Prop}

/-- Operations that hand back a value and do nothing else. -/
def plainOp : Op → Bool
  | .move _ | .assign _ | .pick .. | .load .. | .fieldAddr .. | .field .. | .indexAddr .. | .index .. | .binOp .. | .unOp .. | .convert .. | .slice .. | .extract .. | .build .. => true
  | .call { callee := .builtin .len, .. } => true
  | _ => false

def ValueOrHalt (r : Result Next) : Prop := (∃ u w', r = .ok (.value u) w') ∨ ∃ h w', r = .halt h w'

theorem vh_bind (s : Sem Value) (w : World) : ValueOrHalt ((do pure (Next.value (← s)) : Sem Next).run P w) := by
  simp only [Sem.run_bind]
  cases s.run P w with
  | ok a w' => exact .inl ⟨a, w', rfl⟩
  | halt h w' => exact .inr ⟨h, w', rfl⟩

theorem vh_map {α : Type} (s : Sem α) (f : α → Value) (w : World) : ValueOrHalt ((do let x ← s; pure (Next.value (f x)) : Sem Next).run P w) := by
  simp only [Sem.run_bind]
  cases s.run P w with
  | ok a w' => exact .inl ⟨f a, w', rfl⟩
  | halt h w' => exact .inr ⟨h, w', rfl⟩

theorem plain_run (ρ : Operand → Value) (o : Oper) (h : plainOp o.op = true) (w : World) : ValueOrHalt ((execOp ρ o).run P w) := by
  unfold execOp
  cases ho : o.op <;> simp only [ho, plainOp, Bool.false_eq_true] at h ⊢
  case pick c a b => exact vh_map (asBool (ρ c)) (fun x => if x then ρ a else ρ b) w
  case call c =>
    obtain ⟨callee, args, argTypes⟩ := c
    cases callee with
    | builtin b =>
      cases b <;> simp only [Bool.false_eq_true] at h
      exact vh_bind _ w
    | value f => simp at h
    | invoke r m => simp at h
  all_goals first
    | exact vh_bind _ w
    | exact .inl ⟨_, _, rfl⟩

/-- What a quiet walk shows of a plain operation, as the held walk asks it. -/
theorem yieldsIf_of_quiet {o : Oper} {a : Act} {v : Value} (hp : plainOp o.op = true) (hw : Region.wanted o (yielded ops a.tmps) = true) (h : ∀ w, C w → o.quietAt P a C w v) : YieldsIf P ops C o v a := by
  refine .inl ⟨hw, fun w hC => ?_⟩
  have h1 := h w hC
  unfold Oper.quietAt at h1
  rcases plain_run (P := P) a.eval o hp w with ⟨u, w', hr⟩ | ⟨x, w', hr⟩
  · rw [hr] at h1 ⊢
    obtain ⟨rfl, rfl⟩ := h1
    rfl
  · rw [hr] at h1
    exact h1.elim

/-- A schedule: (i, true): operation i is plain and may come up, and nobody who could come before it touches its temporaries; (i, false): operation i alone may come up. -/
def schedB (ops : Array Oper) : List (Nat × Bool) → Array Bool → Bool
  | [], listed => (Region.ready .any ops listed).isEmpty
  | (i, true) :: rest, listed => ((ops[i]?).map fun o => plainOp o.op).getD false && (Region.ready .any ops listed).contains i && Region.free .any ops listed i && schedB ops rest (listed.setIfInBounds i true)
  | (i, false) :: rest, listed => (Region.ready .any ops listed == [i]) && schedB ops rest (listed.setIfInBounds i true)

/-- The walk along the schedule. -/
def wpSched (P : Program) (ops : Array Oper) (Q : Exit → Act → World → Prop) (C : World → Prop) : List (Oper × Bool) → Act → World → Prop
  | [], a, w => Q .normal a w
  | (o, true) :: rest, a, w => if Region.wanted o (yielded ops a.tmps) then o.quiet P a C (fun a' => wpSched P ops Q C rest a' w) else wpSched P ops Q C rest (a.put o.dst undef) w
  | (o, false) :: rest, a, w => wpList P ops (Exit.then (fun a' w' => C w' ∧ wpSched P ops Q C rest a' w') Q) [o] a w

def schedOps (ops : Array Oper) (l : List (Nat × Bool)) : List (Oper × Bool) := l.filterMap fun x => (ops[x.1]?).map fun o => (o, x.2)

theorem wp_exit {o : Oper} {a : Act} {w : World} {K K' : Act → World → Prop} (h : o.wp P a w K (Exit.then K' Q)) : o.wp P a w K Q := by
  unfold Oper.wp at *
  generalize (execOp a.eval o).run P w = r at *
  cases r with
  | ok n w' =>
    cases n <;> simp only [Oper.upon] at h ⊢
    case enter f args => exact Calls.mono h fun e w'' he => by cases e <;> exact he
    all_goals exact h
  | halt x w' =>
    cases x <;> simp only [Oper.upon] at h ⊢
    all_goals exact h

theorem wpList_one {o : Oper} {a : Act} {w : World} {K : Act → World → Prop} {i : Nat} (ho : ops[i]? = some o) (h : wpList P ops (Exit.then K Q) [o] a w) : wpOp P ops Q i K a w := by
  unfold wpOp
  simp only [ho]
  simp only [wpList] at h
  by_cases hw : Region.wanted o (yielded ops a.tmps) = true
  · rw [if_pos hw] at h ⊢
    rcases h with h | ⟨h1, h2⟩
    · exact .inl (wp_exit h)
    · exact .inr ⟨h1, h2⟩
  · rw [if_neg hw] at h ⊢
    exact h

theorem wpAnyH_sched (hs : Region.noSelect ops = true) (hQ : ∀ c (a : Act) d v w, Q (.panic c) (a.put d v) w → Q (.panic c) a w) :
    ∀ (l : List (Nat × Bool)) (fuel : Nat) (listed : Array Bool) (a : Act) (w : World), l.length ≤ fuel → schedB ops l listed = true → C w → wpSched P ops Q C (schedOps ops l) a w → wpAnyH P .any ops Q C fuel listed a w
  | [], fuel, listed, a, w, _, hB, _, h => wpAnyH_done (by simpa [schedB] using hB) h fuel
  | (i, t) :: rest, 0, _, _, _, hf, _, _, _ => absurd hf (by simp)
  | (i, true) :: rest, fuel + 1, listed, a, w, hf, hB, hC, h => by
    simp only [schedB, Bool.and_eq_true] at hB
    obtain ⟨⟨⟨hp, hr⟩, hfr⟩, hB'⟩ := hB
    cases ho : ops[i]? with
    | none => simp [ho] at hp
    | some o =>
      have hp' : plainOp o.op = true := by simpa [ho] using hp
      have hso : schedOps ops ((i, true) :: rest) = (o, true) :: schedOps ops rest := by simp [schedOps, ho]
      rw [hso] at h
      simp only [wpSched] at h
      by_cases hw : Region.wanted o (yielded ops a.tmps) = true
      · rw [if_pos hw] at h
        obtain ⟨v, hv, hn⟩ := h
        exact wpAnyH_take ho hs hfr hr (fun c a w => hQ c a _ _ w) (yieldsIf_of_quiet hp' hw hv) hC (wpAnyH_sched hs hQ rest fuel _ _ _ (by simpa using hf) hB' hC hn)
      · rw [if_neg hw] at h
        exact wpAnyH_take (v := undef) ho hs hfr hr (fun c a w => hQ c a _ _ w) (.inr ⟨by simpa using hw, rfl⟩) hC (wpAnyH_sched hs hQ rest fuel _ _ _ (by simpa using hf) hB' hC h)
  | (i, false) :: rest, fuel + 1, listed, a, w, hf, hB, hC, h => by
    simp only [schedB, Bool.and_eq_true] at hB
    obtain ⟨hr, hB'⟩ := hB
    have hr' : Region.ready .any ops listed = [i] := by simpa using hr
    refine wpAnyH_all hr' (by simp) ?_
    intro j hj
    obtain rfl : j = i := by simpa using hj
    cases ho : ops[j]? with
    | none =>
      have hm : j ∈ Region.ready .any ops listed := by rw [hr']; simp
      obtain ⟨_, oj, hoj, _⟩ := mem_ready.1 hm
      rw [ho] at hoj; cases hoj
    | some o =>
      have hso : schedOps ops ((j, false) :: rest) = (o, false) :: schedOps ops rest := by simp [schedOps, ho]
      rw [hso] at h
      simp only [wpSched] at h
      exact wpOp_mono (fun a' w' hh => ⟨hh.1, wpAnyH_sched hs hQ rest fuel _ _ _ (by simpa using hf) hB' hh.1 hh.2⟩) (wpList_one ho h)

/-- A block of plain operations, by the quiet walk. -/
theorem wpSched_quiet {rest : List (Oper × Bool)} {w : World} : ∀ (l1 : List Oper) (a : Act), wpQuiet P ops C (fun a' => wpSched P ops Q C rest a' w) l1 a → wpSched P ops Q C (l1.map (fun o => (o, true)) ++ rest) a w
  | [], _, h => h
  | o :: l1, a, h => by
    simp only [List.map_cons, List.cons_append, wpSched, wpQuiet] at h ⊢
    by_cases hw : Region.wanted o (yielded ops a.tmps) = true
    · rw [if_pos hw] at h ⊢
      obtain ⟨v, hv, hn⟩ := h
      exact ⟨v, hv, wpSched_quiet l1 _ hn⟩
    · rw [if_neg hw] at h ⊢
      exact wpSched_quiet l1 _ h

theorem wpSched_run {o : Oper} {rest : List (Oper × Bool)} {a : Act} {w : World} (h : wpList P ops (Exit.then (fun a' w' => C w' ∧ wpSched P ops Q C rest a' w') Q) [o] a w) : wpSched P ops Q C ((o, false) :: rest) a w := h
theorem wpSched_end {a : Act} {w : World} (h : Q .normal a w) : wpSched P ops Q C [] a w := h

theorem wp_region_sched {id : Nat} {a : Act} {w : World} (l : List (Nat × Bool)) (hm : P.follows .mixedOrders = true) (hs : Region.noSelect ops = true) (hl : decide (l.length ≤ ops.size) = true) (hB : schedB ops l (Array.replicate ops.size false) = true)
    (hQ : ∀ c (a : Act) d v w, Q (.panic c) (a.put d v) w → Q (.panic c) a w) (hC : C w.drew) (h : wpSched P ops Q C (schedOps ops l) a w.drew) : (Code.region id ops true).wp P Q a w :=
  wp_region_held (S := C) hm (wpAnyH_sched hs hQ l _ _ _ _ (of_decide_eq_true hl) hB hC h)
/-- The operations of these numbers. -/
def pickOps (ops : Array Oper) (l : List Nat) : List Oper := l.filterMap fun i => ops[i]?

/-- A schedule in blocks: plain operations, then one that comes up alone; at the end plain operations. -/
def blocks : List (List Nat × Nat) → List Nat → List (Nat × Bool)
  | [], tail => tail.map fun i => (i, true)
  | (l1, s) :: bs, tail => (l1.map fun i => (i, true)) ++ (s, false) :: blocks bs tail

def wpBlocks (P : Program) (ops : Array Oper) (Q : Exit → Act → World → Prop) (C : World → Prop) : List (List Nat × Nat) → List Nat → Act → World → Prop
  | [], tail, a, w => wpQuiet P ops C (fun a' => Q .normal a' w) (pickOps ops tail) a
  | (l1, s) :: bs, tail, a, w => wpQuiet P ops C (fun a' => wpList P ops (Exit.then (fun a2 w2 => C w2 ∧ wpBlocks P ops Q C bs tail a2 w2) Q) (pickOps ops [s]) a' w) (pickOps ops l1) a

theorem schedOps_append (l l' : List (Nat × Bool)) : schedOps ops (l ++ l') = schedOps ops l ++ schedOps ops l' := by simp [schedOps]
theorem schedOps_plain (l : List Nat) : schedOps ops (l.map fun i => (i, true)) = (pickOps ops l).map fun o => (o, true) := by
  induction l with
  | nil => rfl
  | cons i l ih =>
    simp only [schedOps, pickOps] at ih ⊢
    cases ho : ops[i]? <;> simp [ho, ih]

theorem wpQuiet_mono {Q1 Q2 : Act → Prop} (hq : ∀ a, Q1 a → Q2 a) : ∀ (l : List Oper) (a : Act), wpQuiet P ops C Q1 l a → wpQuiet P ops C Q2 l a
  | [], _, h => hq _ h
  | o :: l, a, h => by
    simp only [wpQuiet] at h ⊢
    by_cases hw : Region.wanted o (yielded ops a.tmps) = true
    · rw [if_pos hw] at h ⊢
      obtain ⟨v, hv, hn⟩ := h
      exact ⟨v, hv, wpQuiet_mono hq l _ hn⟩
    · rw [if_neg hw] at h ⊢
      exact wpQuiet_mono hq l _ h

theorem wp_mono2 {o : Oper} {a : Act} {w : World} {K K' : Act → World → Prop} {Q Q' : Exit → Act → World → Prop} (hk : ∀ a w, K a w → K' a w) (hq : ∀ e a w, Q e a w → Q' e a w) (h : o.wp P a w K Q) : o.wp P a w K' Q' := by
  unfold Oper.wp at *
  generalize (execOp a.eval o).run P w = r at *
  cases r with
  | ok n w' =>
    cases n <;> simp only [Oper.upon] at h ⊢
    case enter f args =>
      refine Calls.mono h fun e w'' he => ?_
      cases e with
      | returned v => exact hk _ _ he
      | panicked c => exact hq _ _ _ he
      | outgrown => obtain ⟨a2, w2, h2⟩ := he; exact ⟨a2, w2, hq _ _ _ h2⟩
    case row r args => exact Rows.mono h fun u w'' he => hk _ _ he
    all_goals exact hk _ _ h
  | halt x w' =>
    cases x <;> simp only [Oper.upon] at h ⊢
    all_goals exact hq _ _ _ h

theorem wpList_mono {Q Q' : Exit → Act → World → Prop} (hq : ∀ e a w, Q e a w → Q' e a w) : ∀ {l : List Oper} {a : Act} {w : World}, wpList P ops Q l a w → wpList P ops Q' l a w
  | [], _, _, h => hq _ _ _ h
  | o :: l, a, w, h => by
    simp only [wpList] at h ⊢
    by_cases hw : Region.wanted o (yielded ops a.tmps) = true
    · rw [if_pos hw] at h ⊢
      rcases h with h | ⟨h1, a2, w2, h2⟩
      · exact .inl (wp_mono2 (fun a w h' => wpList_mono hq h') hq h)
      · exact .inr ⟨h1, a2, w2, hq _ _ _ h2⟩
    · rw [if_neg hw] at h ⊢
      exact wpList_mono hq h

theorem wpSched_blocks {Q : Exit → Act → World → Prop} : ∀ (bs : List (List Nat × Nat)) (tail : List Nat), (∀ b ∈ bs, b.2 < ops.size) → ∀ (a : Act) (w : World), wpBlocks P ops Q C bs tail a w → wpSched P ops Q C (schedOps ops (blocks bs tail)) a w
  | [], tail, _, a, w, h => by
    simp only [blocks, schedOps_plain]
    have := wpSched_quiet (Q := Q) (rest := []) (w := w) (pickOps ops tail) a h
    simpa using this
  | (l1, s) :: bs, tail, hb, a, w, h => by
    have hs : s < ops.size := hb (l1, s) (by simp)
    have ho : ops[s]? = some ops[s] := by simp [hs]
    have hso : schedOps ops ((s, false) :: blocks bs tail) = (ops[s], false) :: schedOps ops (blocks bs tail) := by simp [schedOps, ho]
    have hps : pickOps ops [s] = [ops[s]] := by simp [pickOps, ho]
    simp only [blocks, schedOps_append, schedOps_plain, hso]
    refine wpSched_quiet (pickOps ops l1) a (wpQuiet_mono (fun a' h' => ?_) _ _ h)
    rw [hps] at h'
    refine wpSched_run ?_
    have hm : ∀ e a2 w2, Exit.then (fun a2 w2 => C w2 ∧ wpBlocks P ops Q C bs tail a2 w2) Q e a2 w2 → Exit.then (fun a2 w2 => C w2 ∧ wpSched P ops Q C (schedOps ops (blocks bs tail)) a2 w2) Q e a2 w2 := by
      intro e a2 w2 hh
      cases e with
      | normal => exact ⟨hh.1, wpSched_blocks bs tail (fun b hbm => hb b (by simp [hbm])) a2 w2 hh.2⟩
      | _ => exact hh
    exact wpList_mono hm h'

theorem wp_region_blocks {id : Nat} {a : Act} {w : World} (bs : List (List Nat × Nat)) (tail : List Nat) (hm : P.follows .mixedOrders = true) (hs : Region.noSelect ops = true)
    (hB : (decide ((blocks bs tail).length ≤ ops.size) && bs.all (fun b => decide (b.2 < ops.size)) && schedB ops (blocks bs tail) (Array.replicate ops.size false)) = true)
    (h : wpBlocks P ops (NoPanic Q) (fun w1 => ∃ x : ExtW w, w1 = x.w') bs tail a w.drew) : (Code.region id ops true).wp P Q a w := by
  simp only [Bool.and_eq_true, List.all_eq_true] at hB
  obtain ⟨⟨h1, h2⟩, h3⟩ := hB
  refine wp_region_noPanic ?_
  exact wp_region_sched (C := fun w1 => ∃ x : ExtW w, w1 = x.w') (blocks bs tail) hm hs h1 h3 (fun _ _ _ _ _ h => h) ⟨⟨_, (Ext.refl w).drew⟩, rfl⟩ (wpSched_blocks bs tail (fun b hb => of_decide_eq_true (h2 b hb)) a w.drew h)
end

end Go.Proofs.Ytkolfiedakojoaa
