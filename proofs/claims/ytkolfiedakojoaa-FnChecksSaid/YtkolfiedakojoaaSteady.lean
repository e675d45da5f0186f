/- Operations that hand back a value and leave the world alone: what they hand back stays the same in every world that extends this one. No condition. -/
import Derived.Test.YtkolfiedakojoaaApp
import Derived.OrdersHeld
namespace Go.Proofs.Ytkolfiedakojoaa
open Go.ChangeShapes Go.WideShapes Go.ChangeAt Go.RowKit Go.Deep

section
variable {P : Program} {K : World → World → Prop}

def Steady (P : Program) (K : World → World → Prop) {α : Type} (s : Sem α) : Prop :=
  ∀ (w w' : World) (a : α) (w1 : World), K w w' → s.run P w = .ok a w1 → w1 = w ∧ s.run P w' = .ok a w'
def Never (P : Program) {α : Type} (s : Sem α) : Prop := ∀ (w : World) (a : α) (w1 : World), s.run P w ≠ .ok a w1

theorem Never.steady {α : Type} {s : Sem α} (h : Never P s) : Steady P K s := fun w _ a w1 _ hr => absurd hr (h w a w1)
theorem never_halt {α : Type} (h : Halt) : Never P (Sem.halt h : Sem α) := fun w a w1 hr => by simp [Sem.run] at hr
theorem Never.bind {α β : Type} {s : Sem α} {f : α → Sem β} (h : ∀ a, Never P (f a)) : Never P (s >>= f) := by
  intro w b w1 hr
  rw [Sem.run_bind] at hr
  cases hs : s.run P w with
  | ok a w2 => rw [hs] at hr; exact h a w2 b w1 hr
  | halt x w2 => rw [hs] at hr; cases hr
theorem steady_pure {α : Type} (a : α) : Steady P K (pure a : Sem α) := fun w w' b w1 _ hr => by
  rw [Sem.run_pure] at hr; cases hr; exact ⟨rfl, rfl⟩
theorem steady_halt {α : Type} (h : Halt) : Steady P K (Sem.halt h : Sem α) := (never_halt h).steady
theorem steady_stuck {α : Type} (s : String) : Steady P K (stuck s : Sem α) := steady_halt _
theorem steady_unsup {α : Type} (u : Unsupported) : Steady P K (unsupported u : Sem α) := steady_halt _
theorem Steady.bind {α β : Type} {s : Sem α} {f : α → Sem β} (hs : Steady P K s) (hf : ∀ a, Steady P K (f a)) : Steady P K (s >>= f) := by
  intro w w' b w1 hk hr
  rw [Sem.run_bind] at hr
  cases hx : s.run P w with
  | ok a w2 =>
    rw [hx] at hr
    obtain ⟨rfl, h2⟩ := hs w w' a w2 hk hx
    obtain ⟨rfl, h3⟩ := hf a _ w' b w1 hk hr
    exact ⟨rfl, by rw [Sem.run_bind, h2]; exact h3⟩
  | halt x w2 => rw [hx] at hr; cases hr
theorem steady_program : Steady P K (program : Sem Program) := fun w w' b w1 _ hr => by
  cases hr; exact ⟨rfl, rfl⟩
theorem steady_typeInfo (t : TypeId) : Steady P K (typeInfo t) := by
  unfold typeInfo
  refine steady_program.bind fun p => ?_
  split
  · exact steady_pure _
  · exact steady_stuck _
theorem steady_underlying (t : TypeId) : Steady P K (underlying t) := by
  unfold underlying
  refine steady_program.bind fun p => ?_
  split
  · exact steady_pure _
  · exact steady_stuck _
theorem steady_sizeOf (t : TypeId) : Steady P K (sizeOf t) := by
  unfold sizeOf
  exact (steady_typeInfo t).bind fun _ => steady_pure _
theorem steady_isAgg (t : TypeId) : Steady P K (isAgg t) := by
  unfold isAgg
  refine (steady_underlying t).bind fun d => ?_
  split <;> exact steady_pure _
theorem steady_zero (t : TypeId) : Steady P K (zeroValue t) := by
  unfold zeroValue
  refine (steady_typeInfo t).bind fun d => ?_
  split
  · exact steady_pure _
  · exact steady_unsup _
theorem steady_part (t : TypeId) (cs : Array Value) (off : Nat) : Steady P K (part t cs off) := by
  unfold part
  refine (steady_isAgg t).bind fun b => ?_
  split
  · exact (steady_sizeOf t).bind fun _ => steady_pure _
  · split
    · exact steady_pure _
    · exact steady_stuck _
theorem steady_asAgg (v : Value) : Steady P K (asAgg v) := by
  unfold asAgg
  split
  · exact steady_pure _
  · exact steady_stuck _
theorem steady_asBool (v : Value) : Steady P K (asBool v) := by
  unfold asBool
  split
  · exact steady_pure _
  · exact steady_stuck _
theorem steady_asIntOf (v : Value) : Steady P K (asIntOf v) := by
  unfold asIntOf
  split
  · exact steady_pure _
  · exact steady_unsup _
  · exact steady_stuck _
theorem steady_sure (v : Value) : Steady P K (Instr.sureAddr v) := by
  unfold Instr.sureAddr
  split
  · exact steady_pure _
  · exact steady_stuck _
theorem never_panic {α : Type} (e : RuntimeError) : Never P (runtimePanic e : Sem α) := by
  unfold runtimePanic
  refine Never.bind fun p => ?_
  cases e <;> first
    | exact never_halt _
    | (refine Never.bind fun _ => Never.bind fun _ => ?_; exact never_halt _)
    | (refine Never.bind fun _ => ?_; exact never_halt _)
theorem never_bounds {α : Type} (k : IntKind) (x y : Int) (c : BoundsCode) : Never P (boundsPanic k x y c : Sem α) := by
  unfold boundsPanic
  dsimp only
  split <;> exact Never.bind fun _ => never_panic _
theorem steady_asAddr (v : Value) : Steady P K (asAddr v) := by
  unfold asAddr
  split
  · exact steady_pure _
  · exact (never_panic _).steady
  · exact steady_stuck _
theorem steady_extract (v : Value) (i : Nat) : Steady P K (Instr.extract v i) := by
  unfold Instr.extract
  split
  · split
    · exact steady_pure _
    · exact steady_stuck _
  · exact steady_stuck _
theorem steady_field (t : TypeId) (v : Value) (i : Nat) : Steady P K (Instr.field t v i) := by
  unfold Instr.field
  refine (steady_underlying t).bind fun d => ?_
  split
  · split
    · exact (steady_asAgg _).bind fun _ => steady_part _ _ _
    · exact steady_stuck _
  · exact steady_stuck _
theorem steady_bound (v : Value) (y : Nat) (c : BoundsCode) : Steady P K (Instr.sliceBound v y c) := by
  unfold Instr.sliceBound
  refine (steady_asIntOf v).bind fun d => ?_
  split
  split
  · exact steady_pure _
  · exact (never_bounds _ _ _ _).steady
theorem steady_bounds (b : Bool) (l c : Nat) (lo hi mx : Option Value) : Steady P K (Instr.sliceBounds b l c lo hi mx) := by
  unfold Instr.sliceBounds
  repeat' (first | exact steady_pure _ | exact steady_stuck _ | exact steady_unsup _ | exact steady_bound _ _ _ | exact (never_bounds _ _ _ _).steady | exact (never_panic _).steady | exact steady_sizeOf _ | exact steady_underlying _ | exact steady_sure _ | exact steady_asAddr _ | exact steady_asIntOf _ | (refine Steady.bind ?_ fun _ => ?_) | split | dsimp only)
theorem steady_slice (t : TypeId) (x : Value) (lo hi mx : Option Value) : Steady P K (Instr.slice t x lo hi mx) := by
  unfold Instr.slice
  repeat' (first | exact steady_pure _ | exact steady_stuck _ | exact steady_unsup _ | exact steady_bound _ _ _ | exact (never_bounds _ _ _ _).steady | exact (never_panic _).steady | exact steady_sizeOf _ | exact steady_underlying _ | exact steady_sure _ | exact steady_asAddr _ | exact steady_asIntOf _ | exact steady_bounds _ _ _ _ _ _ | (refine Steady.bind ?_ fun _ => ?_) | split | dsimp only)
theorem steady_sliceAt (t : TypeId) (x : Value) (lo hi mx : Option Value) : Steady P K (Instr.sliceAt t x lo hi mx) := by
  unfold Instr.sliceAt
  repeat' (first | exact steady_pure _ | exact steady_stuck _ | exact steady_unsup _ | exact steady_bound _ _ _ | exact (never_bounds _ _ _ _).steady | exact (never_panic _).steady | exact steady_sizeOf _ | exact steady_underlying _ | exact steady_sure _ | exact steady_asAddr _ | exact steady_asIntOf _ | exact steady_bounds _ _ _ _ _ _ | exact steady_slice _ _ _ _ _ | (refine Steady.bind ?_ fun _ => ?_) | split | dsimp only)
theorem steady_indexAt (t : TypeId) (x i : Value) : Steady P K (Instr.indexAt t x i) := by
  unfold Instr.indexAt
  repeat' (first | exact steady_pure _ | exact steady_stuck _ | exact steady_unsup _ | exact steady_bound _ _ _ | exact (never_bounds _ _ _ _).steady | exact (never_panic _).steady | exact steady_sizeOf _ | exact steady_underlying _ | exact steady_sure _ | exact steady_asAddr _ | exact steady_asIntOf _ | exact steady_bounds _ _ _ _ _ _ | exact steady_slice _ _ _ _ _ | (refine Steady.bind ?_ fun _ => ?_) | split | dsimp only)
theorem steady_len (ts : Array TypeId) (t : TypeId) (args : Array Value) (hK : ∀ w w', K w w' → Ext w w') : Steady P K (Builtin.len_ ts t args) := by
  unfold Builtin.len_
  split
  · refine (steady_underlying _).bind fun u => ?_
    have hg : ∀ r, Steady P K (getObj r) := fun r w w' b w1 hk hr => by
      simp only [getObj, Sem.run] at hr ⊢
      have he := hK _ _ hk
      cases hb : w.heap[r]? with
      | none => rw [hb] at hr; cases hr
      | some ob =>
        rw [he.block hb]
        rw [hb] at hr
        cases ob <;> first | (cases hr; done) | (cases hr; exact ⟨rfl, rfl⟩)
    split <;> first
      | exact steady_pure _
      | exact steady_stuck _
      | (refine (steady_underlying _).bind fun u => ?_; split <;> first | exact steady_pure _ | exact steady_stuck _)
      | (refine (hg _).bind fun u => ?_; split <;> first | exact steady_pure _ | exact steady_stuck _)
  · exact steady_stuck _
theorem steady_mapM {α β : Type} (f : α → Sem β) (hf : ∀ a, Steady P K (f a)) : ∀ l : List α, Steady P K (l.mapM f)
  | [] => by simp only [List.mapM_nil]; exact steady_pure _
  | a :: l => by
    simp only [List.mapM_cons]
    exact (hf a).bind fun _ => (steady_mapM f hf l).bind fun _ => steady_pure _
theorem steady_build (t : TypeId) (ps : Array (Nat × Value)) : Steady P K (Instr.build t ps) := by
  unfold Instr.build
  refine (steady_zero t).bind fun z => ?_
  dsimp only
  refine (steady_underlying t).bind fun u => ?_
  split
  · refine Steady.bind ?_ fun pl => ?_
    · rw [Array.mapM_eq_mapM_toList]
      refine Steady.bind (steady_mapM _ (fun f => (steady_sizeOf _).bind fun _ => steady_pure _) _) fun _ => steady_pure _
    · split
      · exact steady_pure _
      · exact steady_stuck _
  · refine (steady_sizeOf _).bind fun n => ?_
    split
    · exact steady_pure _
    · exact steady_stuck _
  · exact steady_stuck _
theorem steady_intArith (op : BinOp) (k : IntKind) (x y : Int) : Steady P K (Op.intArith op k x y) := by
  unfold Op.intArith
  split <;> first | exact steady_pure _ | exact steady_stuck _
theorem steady_intBits (op : BinOp) (k : IntKind) (x y : Int) : Steady P K (Op.intBits op k x y) := by
  unfold Op.intBits
  dsimp only
  split <;> first | exact steady_pure _ | exact steady_stuck _
theorem steady_intCmp (op : BinOp) (x y : Int) : Steady P K (Op.intCmp op x y) := by
  unfold Op.intCmp
  split <;> first | exact steady_pure _ | exact steady_stuck _
theorem steady_intDiv (op : BinOp) (k : IntKind) (x y : Int) : Steady P K (Op.intDiv op k x y) := by
  unfold Op.intDiv
  split
  · exact (never_panic _).steady
  · split <;> first | exact steady_pure _ | exact steady_stuck _
theorem steady_shift (op : BinOp) (k k' : IntKind) (x y : Int) : Steady P K (Op.shift op k x k' y) := by
  unfold Op.shift
  split
  · exact (never_panic _).steady
  · dsimp only
    split <;> first | exact steady_pure _ | exact steady_stuck _
theorem steady_unary (op : UnOp) (x : Value) : Steady P K (Op.unary op x) := by
  unfold Op.unary
  split <;> first | exact steady_pure _ | exact steady_stuck _ | exact steady_unsup _ | exact steady_intArith _ _ _ _ | exact steady_intBits _ _ _ _

/-- A number, a truth value, a string, a slice (or nothing). -/
def numB : Value → Bool
  | .int _ _ | .bool _ | .string _ | .slice _ _ _ | .tuple _ => true
  | _ => false
theorem steady_equal (t : TypeId) (x y : Value) (hx : numB x = true) (hy : numB y = true) : Steady P K (Op.equal t x y) := by
  unfold Op.equal
  have hd : Op.maxDepth = 9999 + 1 := rfl
  rw [hd]
  unfold Op.equalIn
  refine (steady_underlying t).bind fun u => ?_
  cases x <;> simp only [numB, Bool.false_eq_true] at hx <;> cases y <;> simp only [numB, Bool.false_eq_true] at hy <;> cases u <;> dsimp only <;>
    first | exact steady_pure _ | exact steady_stuck _ | (split <;> first | exact steady_pure _ | exact steady_stuck _ | contradiction | (split <;> first | exact steady_pure _ | exact steady_stuck _ | contradiction))
theorem steady_eqGuard (op : BinOp) (t : TypeId) (o1 o2 : Operand) (x y : Value) (hx : numB x = true) : Steady P K (eqGuard op t o1 o2 x y) := by
  unfold eqGuard
  cases x <;> simp only [numB, Bool.false_eq_true] at hx <;> dsimp only <;> split <;> exact steady_pure _
theorem steady_stringOp (op : BinOp) (x y : ByteArray) : Steady P K (Op.stringOp op x y) := by
  unfold Op.stringOp
  dsimp only
  split <;> first | exact steady_pure _ | exact steady_stuck _ | (split <;> first | exact steady_pure _ | exact steady_unsup _)
theorem steady_binOp (op : BinOp) (t : TypeId) (x y : Value) (hx : numB x = true) (hy : numB y = true) : Steady P K (binOp op t x y) := by
  have he : Steady P K (do pure (Value.bool (← Op.equal t x y)) : Sem Value) := (steady_equal t x y hx hy).bind fun _ => steady_pure _
  have hn : Steady P K (do pure (Value.bool !(← Op.equal t x y)) : Sem Value) := (steady_equal t x y hx hy).bind fun _ => steady_pure _
  unfold binOp
  cases x <;> simp only [numB, Bool.false_eq_true] at hx <;> cases y <;> simp only [numB, Bool.false_eq_true] at hy <;> cases op <;> dsimp only <;>
    first
    | exact he
    | exact hn
    | exact steady_stuck _
    | exact steady_shift _ _ _ _ _
    | exact steady_stringOp _ _ _
    | (split <;> first | exact steady_stuck _ | exact steady_intArith _ _ _ _ | exact steady_intDiv _ _ _ _ | exact steady_intBits _ _ _ _ | exact steady_intCmp _ _ _)
theorem steady_load (a : Addr) (hK : ∀ w w', K w w' → Ext w w') : Steady P K (load a) := by
  intro w w' b w1 hk hr
  have he := hK _ _ hk
  simp only [load, Sem.run] at hr ⊢
  cases hc : w.cell? a with
  | some v =>
    rw [hc] at hr
    rw [he.cell hc]
    cases hr
    exact ⟨rfl, rfl⟩
  | none =>
    rw [hc] at hr
    simp only [World.farLoad] at hr
    cases hb : w.heap[a.block]? with
    | none => simp [hb] at hr
    | some ob =>
      rw [hb] at hr
      cases ob <;> simp only at hr <;> try (cases hr; done)
      rename_i at_ u
      have hb' := he.block hb
      have hc' : w'.cell? a = none := by simp [World.cell?, hb']
      rw [hc']
      simp only [World.farLoad, hb']
      have hs : ∀ r, w.seen P at_ u a (Mode.plain == Mode.atomic) = .ok r → w'.seen P at_ u a (Mode.plain == Mode.atomic) = .ok r := by
        intro r hh
        unfold World.seen at hh ⊢
        cases hq : w.heap[at_.block]? with
        | none =>
          exfalso
          simp only [hq, bind, Except.bind] at hh
          repeat' (split at hh)
          all_goals (first | cases hh | skip)
        | some oq =>
          rw [he.block hq]
          rw [hq] at hh
          exact hh
      have hv : ∀ r, w.viewLoad P at_ u a (Mode.plain == Mode.atomic) = .ok r → w'.viewLoad P at_ u a (Mode.plain == Mode.atomic) = .ok r := by
        intro r hh
        unfold World.viewLoad at hh ⊢
        cases hsn : w.seen P at_ u a (Mode.plain == Mode.atomic) with
        | error e => rw [hsn] at hh; cases hh
        | ok q => rw [hsn] at hh; rw [hs q hsn]; exact hh
      cases hl : w.viewLoad P at_ u a (Mode.plain == Mode.atomic) with
      | error e => rw [hl] at hr; cases hr
      | ok r =>
        rw [hl] at hr
        rw [hv r hl]
        obtain ⟨v, q⟩ := r
        cases hr
        exact ⟨rfl, rfl⟩
theorem steady_loadFrom (a : Addr) (hK : ∀ w w', K w w' → Ext w w') : ∀ (n i : Nat) (acc : Array Value), Steady P K (loadCellsFrom a i n acc)
  | 0, _, _ => steady_pure _
  | n + 1, i, acc => by
    unfold loadCellsFrom
    exact (steady_load _ hK).bind fun v => steady_loadFrom a hK n (i + 1) (acc.push v)
theorem steady_loadAt (t : TypeId) (v : Value) (hK : ∀ w w', K w w' → Ext w w') : Steady P K (Instr.loadAt t v) := by
  unfold Instr.loadAt
  refine (steady_sure v).bind fun a => ?_
  unfold loadVar
  refine (steady_isAgg t).bind fun b => ?_
  split
  · exact (steady_sizeOf t).bind fun n => (steady_loadFrom a hK n 0 #[]).bind fun _ => steady_pure _
  · exact steady_load a hK
/-- A field that has cells. -/
def fieldB (P : Program) (s : TypeId) (f : Nat) : Bool := match P.underlying s with
  | some (.struct fs) => match fs[f]? with
    | some fl => match P.info? fl.type with
      | some i => i.size != 0
      | none => false
    | none => false
  | _ => false
theorem steady_fieldAt (s : TypeId) (v : Value) (f : Nat) (h : fieldB P s f = true) : Steady P K (Instr.fieldAt s v f) := by
  intro w w' b w1 hk hr
  unfold fieldB at h
  split at h <;> try (cases h; done)
  rename_i fs hu
  split at h <;> try (cases h; done)
  rename_i fl hf
  split at h <;> try (cases h; done)
  rename_i i hi
  have hz : ¬ i.size = 0 := by simpa using h
  have key : ∀ w, (Instr.fieldAt s v f).run P w = (do let a ← Instr.sureAddr v; pure (Value.pointer (some (a.add fl.offset))) : Sem Value).run P w := by
    intro w
    unfold Instr.fieldAt
    simp [underlying, program, Sem.run, hu, hf, fieldPlace, sizeOf, typeInfo, hi, hz]
  rw [key] at hr ⊢
  exact ((steady_sure v).bind fun _ => steady_pure _) w w' b w1 hk hr
theorem steady_conv (src dst : TypeId) (x : Value) {k k' : IntKind} (hs : P.underlying src = some (.int k')) (hd : P.underlying dst = some (.int k)) (hx : numB x = true) : Steady P K (convert src dst x) := by
  intro w w' b w1 hk hr
  unfold convert at hr ⊢
  have hu : ∀ w, (underlying dst).run P w = .ok (.int k) w := fun w => by simp [underlying, program, Sem.run, hd]
  have hv : ∀ w, (underlying src).run P w = .ok (.int k') w := fun w => by simp [underlying, program, Sem.run, hs]
  simp only [Result.andThen, Sem.run_bind, hu, hv] at hr ⊢
  cases x <;> simp only [numB, Bool.false_eq_true] at hx <;> simp only [Conv.intToInt, unsupported, Sem.run_pure, Sem.run_halt] at hr ⊢ <;>
    first | (cases hr; exact ⟨rfl, rfl⟩) | (cases hr; done)
/-- 0: the operation may do anything; 1: it only looks; 2: it looks at no memory. -/
def kindOp (P : Program) : Op → Nat
  | .move _ | .assign _ | .pick .. | .field .. | .indexAddr .. | .slice .. | .extract .. | .unOp .. | .build .. | .binOp .. => 2
  | .fieldAddr s _ f => if fieldB P s f then 2 else 0
  | .convert s d _ => match P.underlying s, P.underlying d with
    | some (.int _), some (.int _) => 2
    | _, _ => 0
  | .load .. => 1
  | .call { callee := .builtin .len, .. } => 1
  | _ => 0
def numOk (ρ : Operand → Value) : Op → Bool
  | .binOp _ _ x y _ => numB (ρ x) && numB (ρ y)
  | .convert _ _ x => numB (ρ x)
  | _ => true
theorem steady_exec (ρ : Operand → Value) (o : Oper) (hk : kindOp P o.op = 2 ∨ (kindOp P o.op = 1 ∧ ∀ w w', K w w' → Ext w w')) (hn : numOk ρ o.op = true) : Steady P K (execOp ρ o) := by
  unfold execOp
  have v : ∀ s : Sem Value, Steady P K s → Steady P K (do pure (Next.value (← s)) : Sem Next) := fun s hs => hs.bind fun _ => steady_pure _
  cases ho : o.op <;> simp only [ho, kindOp, numOk] at hk hn ⊢ <;> try (simp at hk; done)
  case pick c a b => exact (steady_asBool _).bind fun _ => steady_pure _
  case move x => exact steady_pure _
  case assign x => exact steady_pure _
  case field t x f => exact v _ (steady_field _ _ _)
  case indexAddr t x i => exact v _ (steady_indexAt _ _ _)
  case slice t x lo hi mx => exact v _ (steady_sliceAt _ _ _ _ _)
  case extract t i => exact v _ (steady_extract _ _)
  case unOp op t x => exact v _ (steady_unary _ _)
  case build t ps => exact v _ (steady_build _ _)
  case binOp op t x y z =>
    simp only [Bool.and_eq_true] at hn
    exact v _ ((steady_eqGuard _ _ _ _ _ _ hn.1).bind fun _ => steady_binOp _ _ _ _ hn.1 hn.2)
  case fieldAddr s x f =>
    by_cases hf : fieldB P s f = true
    · exact v _ (steady_fieldAt _ _ _ hf)
    · simp [hf] at hk
  case convert s d x =>
    cases hs : P.underlying s with
    | none => simp [hs] at hk
    | some us =>
      cases us <;> simp [hs] at hk
      cases hd : P.underlying d with
      | none => simp [hd] at hk
      | some ud =>
        cases ud <;> simp [hd] at hk
        exact v _ (steady_conv _ _ _ hs hd hn)
  case load t x =>
    have hK : ∀ w w', K w w' → Ext w w' := by simpa using hk
    exact v _ (steady_loadAt _ _ hK)
  case call c =>
    obtain ⟨callee, args, argTypes⟩ := c
    cases callee with
    | builtin b =>
      cases b <;> simp at hk
      exact v _ (steady_len _ _ _ hk)
    | value f => simp at hk
    | invoke r m => simp at hk
theorem valued (ρ : Operand → Value) (o : Oper) (hk : kindOp P o.op ≠ 0) {w w' : World} {n : Next} (h : (execOp ρ o).run P w = .ok n w') : ∃ v, n = .value v := by
  have v : ∀ s : Sem Value, (do pure (Next.value (← s)) : Sem Next).run P w = .ok n w' → ∃ v, n = .value v := by
    intro s hs
    rw [Sem.run_bind] at hs
    cases hx : s.run P w with
    | ok a w2 => rw [hx] at hs; cases hs; exact ⟨_, rfl⟩
    | halt x w2 => rw [hx] at hs; cases hs
  unfold execOp at h
  cases ho : o.op <;> simp only [ho, kindOp] at hk h <;> first | exact v _ h | (simp at hk; done) | skip
  case move x => cases h; exact ⟨_, rfl⟩
  case assign x => cases h; exact ⟨_, rfl⟩
  case pick c a b =>
    rw [Sem.run_bind] at h
    cases hx : (asBool (ρ c)).run P w with
    | ok a w2 => rw [hx] at h; cases h; exact ⟨_, rfl⟩
    | halt x w2 => rw [hx] at h; cases h
  case call c =>
    obtain ⟨callee, args, argTypes⟩ := c
    cases callee with
    | builtin b =>
      cases b <;> simp at hk
      exact v _ h
    | value f => simp at hk
    | invoke r m => simp at hk
end
end Go.Proofs.Ytkolfiedakojoaa
