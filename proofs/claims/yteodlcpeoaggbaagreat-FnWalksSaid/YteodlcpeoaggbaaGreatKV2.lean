/- What these laws need: FnOld, FnWalks: Operations that hand back a value and leave the world alone: what they hand back stays the same in every world that extends this one. A region that draws its order, walked in one order of its own choice: what only looks is taken as soon as it may come up, what makes memory comes up when it alone may. -/
import Derived.OrdersHeld
import Derived.Test.YteodlcpeoaggbaaGreatKV1
namespace Go.Proofs.YteodlcpeoaggbaaGreat
section
open Go.ChangeShapes Go.WideShapes Go.ChangeAt Go.RowKit Go.Deep
section
variable {P : Program} {K : World → World → Prop}
def Steady (P:Program) (K:World→World→Prop) {α:Type} (s:Sem α):Prop:=
  ∀ (w w':World) (a:α) (w1:World),K w w'→s.run P w=.ok a w1→w1=w∧s.run P w'=.ok a w'
def Never (P:Program) {α:Type} (s:Sem α):Prop:=∀ (w:World) (a:α) (w1:World),s.run P w≠.ok a w1
theorem Never.steady {α:Type} {s:Sem α} (h:Never P s):Steady P K s:=fun w _ a w1 _ hr=>absurd hr (h w a w1)
theorem never_halt {α:Type} (h:Halt):Never P (Sem.halt h:Sem α):=fun w a w1 hr=>by simp [Sem.run] at hr
theorem Never.bind {α β:Type} {s:Sem α} {f:α→Sem β} (h:∀ a,Never P (f a)):Never P (s >>= f):=by
 intro w b w1 hr;rw [Sem.run_bind] at hr
 cases hs:s.run P w with
 | ok a w2 => rw [hs] at hr; exact h a w2 b w1 hr
 | halt x w2 => rw [hs] at hr; cases hr
theorem steady_pure {α:Type} (a:α):Steady P K (pure a:Sem α):=fun w w' b w1 _ hr=>by
 rw [Sem.run_pure] at hr;cases hr;exact⟨rfl,rfl⟩
theorem steady_halt {α:Type} (h:Halt):Steady P K (Sem.halt h:Sem α):=(never_halt h).steady
theorem steady_stuck {α:Type} (s:String):Steady P K (stuck s:Sem α):=steady_halt _
theorem steady_unsup {α:Type} (u:Unsupported):Steady P K (unsupported u:Sem α):=steady_halt _
theorem Steady.bind {α β:Type} {s:Sem α} {f:α→Sem β} (hs:Steady P K s) (hf:∀ a,Steady P K (f a)):Steady P K (s >>= f):=by
 intro w w' b w1 hk hr;rw [Sem.run_bind] at hr
 cases hx:s.run P w with
 | ok a w2 =>
  rw [hx] at hr;obtain⟨rfl,h2⟩:=hs w w' a w2 hk hx;obtain⟨rfl,h3⟩:=hf a _ w' b w1 hk hr;exact⟨rfl,by rw [Sem.run_bind,h2];exact h3⟩
 | halt x w2 => rw [hx] at hr; cases hr
theorem steady_program:Steady P K (program:Sem Program):=fun w w' b w1 _ hr=>by
 cases hr;exact⟨rfl,rfl⟩
theorem steady_typeInfo (t:TypeId):Steady P K (typeInfo t):=by
 unfold typeInfo;refine steady_program.bind fun p=>?_
 split
 ·
  exact steady_pure _
 exact steady_stuck _
theorem steady_underlying (t:TypeId):Steady P K (underlying t):=by
 unfold underlying;refine steady_program.bind fun p=>?_
 split
 ·
  exact steady_pure _
 exact steady_stuck _
theorem steady_sizeOf (t:TypeId):Steady P K (sizeOf t):=by
 unfold sizeOf;exact(steady_typeInfo t).bind fun _=>steady_pure _
theorem steady_isAgg (t:TypeId):Steady P K (isAgg t):=by
 unfold isAgg;refine(steady_underlying t).bind fun d=>?_
 split <;> exact steady_pure _
theorem steady_zero (t:TypeId):Steady P K (zeroValue t):=by
 unfold zeroValue;refine(steady_typeInfo t).bind fun d=>?_
 split
 ·
  exact steady_pure _
 exact steady_unsup _
theorem steady_part (t:TypeId) (cs:Array Value) (off:Nat):Steady P K (part t cs off):=by
 unfold part;refine(steady_isAgg t).bind fun b=>?_
 split
 ·
  exact(steady_sizeOf t).bind fun _=>steady_pure _
 split
 ·
  exact steady_pure _
 exact steady_stuck _
theorem steady_asAgg (v:Value):Steady P K (asAgg v):=by
 unfold asAgg
 split
 ·
  exact steady_pure _
 exact steady_stuck _
theorem steady_asBool (v:Value):Steady P K (asBool v):=by
 unfold asBool
 split
 ·
  exact steady_pure _
 exact steady_stuck _
theorem steady_asIntOf (v:Value):Steady P K (asIntOf v):=by
 unfold asIntOf
 split
 ·
  exact steady_pure _
 ·
  exact steady_unsup _
 exact steady_stuck _
theorem steady_sure (v:Value):Steady P K (Instr.sureAddr v):=by
 unfold Instr.sureAddr
 split
 ·
  exact steady_pure _
 exact steady_stuck _
theorem never_panic {α:Type} (e:RuntimeError):Never P (runtimePanic e:Sem α):=by
 unfold runtimePanic;refine Never.bind fun p=>?_
 cases e <;> first
  | exact never_halt _
  | (refine Never.bind fun _ => Never.bind fun _ => ?_; exact never_halt _)
  | (refine Never.bind fun _ => ?_; exact never_halt _)
theorem never_bounds {α:Type} (k:IntKind) (x y:Int) (c:BoundsCode):Never P (boundsPanic k x y c:Sem α):=by
 unfold boundsPanic;dsimp only
 split <;> exact Never.bind fun _=>never_panic _
theorem steady_asAddr (v:Value):Steady P K (asAddr v):=by
 unfold asAddr
 split
 ·
  exact steady_pure _
 ·
  exact(never_panic _).steady
 exact steady_stuck _
theorem steady_extract (v:Value) (i:Nat):Steady P K (Instr.extract v i):=by
 unfold Instr.extract
 split
 ·
  split
  ·
   exact steady_pure _
  exact steady_stuck _
 exact steady_stuck _
theorem steady_field (t:TypeId) (v:Value) (i:Nat):Steady P K (Instr.field t v i):=by
 unfold Instr.field;refine(steady_underlying t).bind fun d=>?_
 split
 ·
  split
  ·
   exact(steady_asAgg _).bind fun _=>steady_part _ _ _
  exact steady_stuck _
 exact steady_stuck _
theorem steady_bound (v:Value) (y:Nat) (c:BoundsCode):Steady P K (Instr.sliceBound v y c):=by
 unfold Instr.sliceBound;refine(steady_asIntOf v).bind fun d=>?_
 split
 split
 ·
  exact steady_pure _
 exact(never_bounds _ _ _ _).steady
theorem steady_bounds (b:Bool) (l c:Nat) (lo hi mx:Option Value):Steady P K (Instr.sliceBounds b l c lo hi mx):=by
 unfold Instr.sliceBounds
 repeat' (first | exact steady_pure _ | exact steady_stuck _ | exact steady_unsup _ | exact steady_bound _ _ _ | exact(never_bounds _ _ _ _).steady | exact(never_panic _).steady | exact steady_sizeOf _ | exact steady_underlying _ | exact steady_sure _ | exact steady_asAddr _ | exact steady_asIntOf _ | (refine Steady.bind ?_ fun _=>?_) | split | dsimp only)
theorem steady_slice (t:TypeId) (x:Value) (lo hi mx:Option Value):Steady P K (Instr.slice t x lo hi mx):=by
 unfold Instr.slice
 repeat' (first | exact steady_pure _ | exact steady_stuck _ | exact steady_unsup _ | exact steady_bound _ _ _ | exact(never_bounds _ _ _ _).steady | exact(never_panic _).steady | exact steady_sizeOf _ | exact steady_underlying _ | exact steady_sure _ | exact steady_asAddr _ | exact steady_asIntOf _ | exact steady_bounds _ _ _ _ _ _ | (refine Steady.bind ?_ fun _=>?_) | split | dsimp only)
theorem steady_sliceAt (t:TypeId) (x:Value) (lo hi mx:Option Value):Steady P K (Instr.sliceAt t x lo hi mx):=by
 unfold Instr.sliceAt
 repeat' (first | exact steady_pure _ | exact steady_stuck _ | exact steady_unsup _ | exact steady_bound _ _ _ | exact(never_bounds _ _ _ _).steady | exact(never_panic _).steady | exact steady_sizeOf _ | exact steady_underlying _ | exact steady_sure _ | exact steady_asAddr _ | exact steady_asIntOf _ | exact steady_bounds _ _ _ _ _ _ | exact steady_slice _ _ _ _ _ | (refine Steady.bind ?_ fun _=>?_) | split | dsimp only)
theorem steady_indexAt (t:TypeId) (x i:Value):Steady P K (Instr.indexAt t x i):=by
 unfold Instr.indexAt
 repeat' (first | exact steady_pure _ | exact steady_stuck _ | exact steady_unsup _ | exact steady_bound _ _ _ | exact(never_bounds _ _ _ _).steady | exact(never_panic _).steady | exact steady_sizeOf _ | exact steady_underlying _ | exact steady_sure _ | exact steady_asAddr _ | exact steady_asIntOf _ | exact steady_bounds _ _ _ _ _ _ | exact steady_slice _ _ _ _ _ | (refine Steady.bind ?_ fun _=>?_) | split | dsimp only)
theorem steady_len (ts:Array TypeId) (t:TypeId) (args:Array Value) (hK:∀ w w',K w w'→Ext w w'):Steady P K (Builtin.len_ ts t args):=by
 unfold Builtin.len_
 split
 ·
  refine(steady_underlying _).bind fun u=>?_
  have hg:∀ r,Steady P K (getObj r):=fun r w w' b w1 hk hr=>by
   simp only [getObj,Sem.run] at hr ⊢
   have he:=hK _ _ hk
   cases hb:w.heap[r]? with
   | none => rw [hb] at hr; cases hr
   | some ob =>
    rw [he.block hb];rw [hb] at hr
    cases ob <;> first | (cases hr;done) | (cases hr;exact⟨rfl,rfl⟩)
  split <;> first
   | exact steady_pure _
   | exact steady_stuck _
   | (refine (steady_underlying _).bind fun u => ?_; split <;> first | exact steady_pure _ | exact steady_stuck _)
   | (refine (hg _).bind fun u => ?_; split <;> first | exact steady_pure _ | exact steady_stuck _)
 exact steady_stuck _
theorem steady_mapM {α β:Type} (f:α→Sem β) (hf:∀ a,Steady P K (f a)):∀ l:List α,Steady P K (l.mapM f)
 | [] => by simp only [List.mapM_nil]; exact steady_pure _
 | a :: l => by
  simp only [List.mapM_cons];exact(hf a).bind fun _=>(steady_mapM f hf l).bind fun _=>steady_pure _
theorem steady_build (t:TypeId) (ps:Array (Nat×Value)):Steady P K (Instr.build t ps):=by
 unfold Instr.build;refine(steady_zero t).bind fun z=>?_
 dsimp only;refine(steady_underlying t).bind fun u=>?_
 split
 ·
  refine Steady.bind ?_ fun pl=>?_
  ·
   rw [Array.mapM_eq_mapM_toList];refine Steady.bind (steady_mapM _ (fun f=>(steady_sizeOf _).bind fun _=>steady_pure _) _) fun _=>steady_pure _
  split
  ·
   exact steady_pure _
  exact steady_stuck _
 ·
  refine(steady_sizeOf _).bind fun n=>?_
  split
  ·
   exact steady_pure _
  exact steady_stuck _
 exact steady_stuck _
theorem steady_intArith (op:BinOp) (k:IntKind) (x y:Int):Steady P K (Op.intArith op k x y):=by
 unfold Op.intArith
 split <;> first | exact steady_pure _ | exact steady_stuck _
theorem steady_intBits (op:BinOp) (k:IntKind) (x y:Int):Steady P K (Op.intBits op k x y):=by
 unfold Op.intBits;dsimp only
 split <;> first | exact steady_pure _ | exact steady_stuck _
theorem steady_intCmp (op:BinOp) (x y:Int):Steady P K (Op.intCmp op x y):=by
 unfold Op.intCmp
 split <;> first | exact steady_pure _ | exact steady_stuck _
theorem steady_intDiv (op:BinOp) (k:IntKind) (x y:Int):Steady P K (Op.intDiv op k x y):=by
 unfold Op.intDiv
 split
 ·
  exact(never_panic _).steady
 split <;> first | exact steady_pure _ | exact steady_stuck _
theorem steady_shift (op:BinOp) (k k':IntKind) (x y:Int):Steady P K (Op.shift op k x k' y):=by
 unfold Op.shift
 split
 ·
  exact(never_panic _).steady
 dsimp only
 split <;> first | exact steady_pure _ | exact steady_stuck _
theorem steady_unary (op:UnOp) (x:Value):Steady P K (Op.unary op x):=by
 unfold Op.unary
 split <;> first | exact steady_pure _ | exact steady_stuck _ | exact steady_unsup _ | exact steady_intArith _ _ _ _ | exact steady_intBits _ _ _ _
def numB0:Value→Bool
  | .int _ _ | .bool _ | .string _ | .slice _ _ _ | .tuple _ => true
  | _ => false
def numB:Value→Bool
  | .int _ _ | .bool _ | .string _ | .slice _ _ _ | .tuple _ => true
  | .agg a => a.toList.all numB0
  | _ => false
theorem numB_of {v:Value} (h:numB0 v=true):numB v=true:=by cases v <;> simp only [numB0,Bool.false_eq_true] at h <;> rfl
def SteadyR (P:Program) (K:World→World→Prop) {α:Type} (s:Sem α) (R:α→Prop):Prop:=
  ∀ (w w':World) (a:α) (w1:World),K w w'→s.run P w=.ok a w1→w1=w∧s.run P w'=.ok a w'∧R a
theorem SteadyR.bind {α β:Type} {s:Sem α} {f:α→Sem β} {R:α→Prop} (hs:SteadyR P K s R) (hf:∀ a,R a→Steady P K (f a)):Steady P K (s >>= f):=by
 intro w w' b w1 hk hr;rw [Sem.run_bind] at hr
 cases hx:s.run P w with
 | ok a w2 =>
  rw [hx] at hr;obtain⟨rfl,h2,h4⟩:=hs w w' a w2 hk hx;obtain⟨rfl,h3⟩:=hf a h4 _ w' b w1 hk hr;exact⟨rfl,by rw [Sem.run_bind,h2];exact h3⟩
 | halt x w2 => rw [hx] at hr; cases hr
theorem Steady.toR {α:Type} {s:Sem α} {R:α→Prop} (h:Steady P K s) (hr:∀ w a w1,s.run P w=.ok a w1→R a):SteadyR P K s R:=fun w w' a w1 hk hq=>by
 obtain⟨h1,h2⟩:=h w w' a w1 hk hq;exact⟨h1,h2,hr w a w1 hq⟩
theorem part_num {t:TypeId} {cs:Array Value} {off:Nat} (h:cs.toList.all numB0=true) (w:World) (a:Value) (w1:World) (hr:(part t cs off).run P w=.ok a w1):numB a=true:=by
 unfold part at hr;rw [Sem.run_bind] at hr
 cases hq:Sem.run P (isAgg t) w with
 | halt x w2 => rw [hq] at hr; cases hr
 | ok b w2 =>
  rw [hq] at hr;replace hr:Sem.run P (if b=true then _ else _) w2=Result.ok a w1:=hr
  cases b
  ·
   rw [if_neg (by simp)] at hr
   split at hr
   ·
    rename_i v hv
    rw [Sem.run_pure] at hr;cases hr;exact numB_of (List.all_eq_true.1 h _ (Array.mem_toList_iff.2 (Array.mem_of_getElem? hv)))
   cases hr
  rw [if_pos rfl,Sem.run_bind] at hr
  cases hz:Sem.run P (sizeOf t) w2 with
  | halt x w3 => rw [hz] at hr; cases hr
  | ok n w3 =>
   rw [hz] at hr;replace hr:Sem.run P (pure (Value.agg (cs.extract off (off+n)))) w3=Result.ok a w1:=hr;rw [Sem.run_pure] at hr;cases hr;refine List.all_eq_true.2 fun x hx=>List.all_eq_true.1 h _ ?_
   rw [Array.toList_extract] at hx;exact List.mem_of_mem_drop (List.mem_of_mem_take hx)
theorem steady_partR (t:TypeId) (cs:Array Value) (off:Nat) (h:cs.toList.all numB0=true):SteadyR P K (part t cs off) (fun a=>numB a=true):=Steady.toR (steady_part t cs off) (part_num h)
theorem steady_forIn {α β:Type} (f:α→β→Sem (ForInStep β)) (h:∀ a b,Steady P K (f a b)):∀ (l:List α) (b:β),Steady P K (forIn l b f)
 | [], b => by rw [List.forIn_nil]; exact steady_pure _
 | a :: l, b => by
  rw [List.forIn_cons];refine(h a b).bind fun s=>?_
  split
  ·
   exact steady_pure _
  exact steady_forIn f h l _
theorem steady_equalIn:∀ (d:Nat) (t:TypeId) (x y:Value),numB x=true→numB y=true→Steady P K (Op.equalIn d t x y)
 | 0, t, x, y, _, _ => by unfold Op.equalIn; exact steady_unsup _
 | d + 1, t, x, y, hx, hy => by
  have ih:=steady_equalIn d;unfold Op.equalIn;refine(steady_underlying t).bind fun u=>?_
  cases x <;> simp only [numB,Bool.false_eq_true] at hx <;> cases y <;> simp only [numB,Bool.false_eq_true] at hy <;> cases u <;> dsimp only <;>
   first
   | exact steady_pure _
   | exact steady_stuck _
   | (split <;> first | exact steady_pure _ | exact steady_stuck _ | contradiction | (split <;> first | exact steady_pure _ | exact steady_stuck _ | contradiction))
   | skip
  ·
   refine(steady_sizeOf _).bind fun n=>?_
   refine Steady.bind (s:=forIn [:_] _ _) ?_ fun q=>?_
   ·
    rw [Std.Legacy.Range.forIn_eq_forIn_range'];refine steady_forIn _ (fun i q=>?_) _ _;refine(steady_partR _ _ _ hx).bind fun v1 h1=>(steady_partR _ _ _ hy).bind fun v2 h2=>(ih _ _ _ h1 h2).bind fun c=>?_
    split <;> exact steady_pure _
   split <;> exact steady_pure _
  refine steady_program.bind fun p=>?_
  have key : ∀ fs : Array Field, Steady P K (do
    for f in fs do
     if f.name ≠ "_" then
      if !(← Op.equalIn d f.type (← part f.type _ f.offset) (← part f.type _ f.offset)) then return false
    pure true : Sem Bool) := fun fs => by
   refine Steady.bind (s:=forIn fs _ _) ?_ fun q=>?_
   ·
    rw [← Array.forIn_toList];refine steady_forIn _ (fun f q=>?_) _ _
    split
    ·
     refine(steady_partR _ _ _ hx).bind fun v1 h1=>(steady_partR _ _ _ hy).bind fun v2 h2=>(ih _ _ _ h1 h2).bind fun c=>?_
     split <;> exact steady_pure _
    exact steady_pure _
   dsimp only
   split <;> exact steady_pure _
  split
  ·
   exact Steady.bind (steady_unsup _) fun _=>key _
  exact key _
theorem steady_equal (t:TypeId) (x y:Value) (hx:numB x=true) (hy:numB y=true):Steady P K (Op.equal t x y):=steady_equalIn _ t x y hx hy
theorem steady_eqGuardIn:∀ (d:Nat) (t:TypeId) (x y:Value),Steady P K (Op.eqGuardIn d t x y)
 | 0, t, x, y => by unfold Op.eqGuardIn; exact steady_unsup _
 | d + 1, t, x, y => by
  have ih:=steady_eqGuardIn d;unfold Op.eqGuardIn;refine(steady_underlying t).bind fun u=>?_
  split
  ·
   exact steady_pure _
  ·
   refine Steady.bind (s:=forIn _ _ _) ?_ fun q=>?_
   ·
    rw [← Array.forIn_toList];refine steady_forIn _ (fun f q=>?_) _ _
    split
    ·
     refine(steady_part _ _ _).bind fun v1=>(steady_part _ _ _).bind fun v2=>(ih _ _ _).bind fun c=>?_
     split <;> exact steady_pure _
    exact steady_pure _
   dsimp only
   split <;> exact steady_pure _
  ·
   refine(steady_sizeOf _).bind fun n=>?_
   refine Steady.bind (s:=forIn [:_] _ _) ?_ fun q=>?_
   ·
    rw [Std.Legacy.Range.forIn_eq_forIn_range'];refine steady_forIn _ (fun i q=>?_) _ _;refine(steady_part _ _ _).bind fun v1=>(steady_part _ _ _).bind fun v2=>(ih _ _ _).bind fun c=>?_
    split <;> exact steady_pure _
   dsimp only
   split <;> exact steady_pure _
  exact steady_pure _
theorem steady_eqGuard (op:BinOp) (t:TypeId) (o1 o2:Operand) (x y:Value) (hx:numB x=true):Steady P K (eqGuard op t o1 o2 x y):=by
 unfold eqGuard;have hm:∀ (c:Bool) (s:Sem Unit),Steady P K s→Steady P K (if c=true then pure () else s):=fun c s h=>by split <;> first | exact steady_pure _ | exact h
 refine hm _ _ ?_
 split
 ·
  cases hx
 ·
  refine steady_program.bind fun p=>steady_program.bind fun q=>hm _ _ ?_
  refine(steady_eqGuardIn _ _ _ _).bind fun b=>?_
  split
  ·
   exact steady_unsup _
  exact steady_pure _
 exact steady_pure _
theorem steady_stringOp (op:BinOp) (x y:ByteArray):Steady P K (Op.stringOp op x y):=by
 unfold Op.stringOp;dsimp only
 split <;> first | exact steady_pure _ | exact steady_stuck _ | (split <;> first | exact steady_pure _ | exact steady_unsup _)
theorem steady_binOp (op:BinOp) (t:TypeId) (x y:Value) (hx:numB x=true) (hy:numB y=true):Steady P K (binOp op t x y):=by
 have he:Steady P K (do pure (Value.bool (← Op.equal t x y)):Sem Value):=(steady_equal t x y hx hy).bind fun _=>steady_pure _
 have hn:Steady P K (do pure (Value.bool !(← Op.equal t x y)):Sem Value):=(steady_equal t x y hx hy).bind fun _=>steady_pure _
 unfold binOp
 cases x <;> simp only [numB,Bool.false_eq_true] at hx <;> cases y <;> simp only [numB,Bool.false_eq_true] at hy <;> cases op <;> dsimp only <;>
  first
  | exact he
  | exact hn
  | exact steady_stuck _
  | exact steady_shift _ _ _ _ _
  | exact steady_stringOp _ _ _
  | (split <;> first | exact steady_stuck _ | exact steady_intArith _ _ _ _ | exact steady_intDiv _ _ _ _ | exact steady_intBits _ _ _ _ | exact steady_intCmp _ _ _)
theorem steady_load (a:Addr) (hK:∀ w w',K w w'→Ext w w'):Steady P K (load a):=by
 intro w w' b w1 hk hr;have he:=hK _ _ hk;simp only [load,Sem.run] at hr ⊢
 cases hc:w.cell? a with
 | some v =>
  rw [hc] at hr;rw [he.cell hc]
  cases hr
  exact⟨rfl,rfl⟩
 | none =>
  rw [hc] at hr;simp only [World.farLoad] at hr
  cases hb:w.heap[a.block]? with
  | none => simp [hb] at hr
  | some ob =>
   rw [hb] at hr
   cases ob <;> simp only at hr <;> try (cases hr;done)
   rename_i at_ u
   have hb':=he.block hb;have hc':w'.cell? a=none:=by simp [World.cell?,hb']
   rw [hc'];simp only [World.farLoad,hb']
   have hs:∀ r,w.seen P at_ u a (Mode.plain == Mode.atomic)=.ok r→w'.seen P at_ u a (Mode.plain == Mode.atomic)=.ok r:=by
    intro r hh;unfold World.seen at hh ⊢
    cases hq:w.heap[at_.block]? with
    | none =>
     exfalso
     simp only [hq,bind,Except.bind] at hh
     repeat' (split at hh)
     all_goals (first | cases hh | skip)
    | some oq =>
     rw [he.block hq];rw [hq] at hh;exact hh
   have hv:∀ r,w.viewLoad P at_ u a (Mode.plain == Mode.atomic)=.ok r→w'.viewLoad P at_ u a (Mode.plain == Mode.atomic)=.ok r:=by
    intro r hh;unfold World.viewLoad at hh ⊢
    cases hsn:w.seen P at_ u a (Mode.plain == Mode.atomic) with
    | error e => rw [hsn] at hh; cases hh
    | ok q => rw [hsn] at hh; rw [hs q hsn]; exact hh
   cases hl:w.viewLoad P at_ u a (Mode.plain == Mode.atomic) with
   | error e => rw [hl] at hr; cases hr
   | ok r =>
    rw [hl] at hr;rw [hv r hl];obtain⟨v,q⟩:=r
    cases hr
    exact⟨rfl,rfl⟩
theorem steady_loadFrom (a:Addr) (hK:∀ w w',K w w'→Ext w w'):∀ (n i:Nat) (acc:Array Value),Steady P K (loadCellsFrom a i n acc)
 | 0, _, _ => steady_pure _
 | n + 1, i, acc => by
  unfold loadCellsFrom;exact(steady_load _ hK).bind fun v=>steady_loadFrom a hK n (i+1) (acc.push v)
theorem steady_loadAt (t:TypeId) (v:Value) (hK:∀ w w',K w w'→Ext w w'):Steady P K (Instr.loadAt t v):=by
 unfold Instr.loadAt;refine(steady_sure v).bind fun a=>?_
 unfold loadVar;refine(steady_isAgg t).bind fun b=>?_
 split
 ·
  exact(steady_sizeOf t).bind fun n=>(steady_loadFrom a hK n 0 #[]).bind fun _=>steady_pure _
 exact steady_load a hK
def fieldB (P:Program) (s:TypeId) (f:Nat):Bool:=match P.underlying s with
  | some (.struct fs) => match fs[f]? with
    | some fl => match P.info? fl.type with
      | some i => i.size != 0
      | none => false
    | none => false
  | _ => false
theorem steady_fieldAt (s:TypeId) (v:Value) (f:Nat) (h:fieldB P s f=true):Steady P K (Instr.fieldAt s v f):=by
 intro w w' b w1 hk hr;unfold fieldB at h
 split at h <;> try (cases h;done)
 rename_i fs hu
 split at h <;> try (cases h;done)
 rename_i fl hf
 split at h <;> try (cases h;done)
 rename_i i hi
 have hz:¬ i.size=0:=by simpa using h
 have key:∀ w,(Instr.fieldAt s v f).run P w=(do let a ← Instr.sureAddr v;pure (Value.pointer (some (a.add fl.offset))):Sem Value).run P w:=by
  intro w;unfold Instr.fieldAt
  simp [underlying,program,Sem.run,hu,hf,fieldPlace,sizeOf,typeInfo,hi,hz]
 rw [key] at hr ⊢
 exact((steady_sure v).bind fun _=>steady_pure _) w w' b w1 hk hr
theorem steady_conv (src dst:TypeId) (x:Value) {k k':IntKind} (hs:P.underlying src=some (.int k')) (hd:P.underlying dst=some (.int k)) (hx:numB x=true):Steady P K (convert src dst x):=by
 intro w w' b w1 hk hr;unfold convert at hr ⊢
 have hu:∀ w,(underlying dst).run P w=.ok (.int k) w:=fun w=>by simp [underlying,program,Sem.run,hd]
 have hv:∀ w,(underlying src).run P w=.ok (.int k') w:=fun w=>by simp [underlying,program,Sem.run,hs]
 simp only [Result.andThen,Sem.run_bind,hu,hv] at hr ⊢
 cases x <;> simp only [numB,Bool.false_eq_true] at hx <;> simp only [Conv.intToInt,unsupported,Sem.run_pure,Sem.run_halt] at hr ⊢ <;>
  first | (cases hr;exact⟨rfl,rfl⟩) | (cases hr;done)
def kindOp (P:Program):Op→Nat
  | .move _ | .assign _ | .pick .. | .field .. | .indexAddr .. | .slice .. | .extract .. | .unOp .. | .build .. | .binOp .. => 2
  | .fieldAddr s _ f => if fieldB P s f then 2 else 0
  | .convert s d _ => match P.underlying s, P.underlying d with
    | some (.int _), some (.int _) => 2
    | _, _ => 0
  | .load .. => 1
  | .call { callee := .builtin .len, .. } => 1
  | _ => 0
def numOk (ρ:Operand→Value):Op→Bool
  | .binOp _ _ x y _ => numB (ρ x) && numB (ρ y)
  | .convert _ _ x => numB (ρ x)
  | _ => true
theorem steady_exec (ρ:Operand→Value) (o:Oper) (hk:kindOp P o.op=2∨(kindOp P o.op=1∧∀ w w',K w w'→Ext w w')) (hn:numOk ρ o.op=true):Steady P K (execOp ρ o):=by
 unfold execOp;have v:∀ s:Sem Value,Steady P K s→Steady P K (do pure (Next.value (← s)):Sem Next):=fun s hs=>hs.bind fun _=>steady_pure _
 cases ho:o.op <;> simp only [ho,kindOp,numOk] at hk hn ⊢ <;> try (simp at hk;done)
 case pick c a b=>exact(steady_asBool _).bind fun _=>steady_pure _
 case move x=>exact steady_pure _
 case assign x=>exact steady_pure _
 case field t x f=>exact v _ (steady_field _ _ _)
 case indexAddr t x i=>exact v _ (steady_indexAt _ _ _)
 case slice t x lo hi mx=>exact v _ (steady_sliceAt _ _ _ _ _)
 case extract t i=>exact v _ (steady_extract _ _)
 case unOp op t x=>exact v _ (steady_unary _ _)
 case build t ps=>exact v _ (steady_build _ _)
 case binOp op t x y z=>
  simp only [Bool.and_eq_true] at hn;exact v _ ((steady_eqGuard _ _ _ _ _ _ hn.1).bind fun _=>steady_binOp _ _ _ _ hn.1 hn.2)
 case fieldAddr s x f=>
  by_cases hf:fieldB P s f=true
  ·
   exact v _ (steady_fieldAt _ _ _ hf)
  simp [hf] at hk
 case convert s d x=>
  cases hs:P.underlying s with
  | none => simp [hs] at hk
  | some us =>
   cases us <;> simp [hs] at hk
   cases hd:P.underlying d with
   | none => simp [hd] at hk
   | some ud =>
    cases ud <;> simp [hd] at hk
    exact v _ (steady_conv _ _ _ hs hd hn)
 case load t x=>
  have hK:∀ w w',K w w'→Ext w w':=by simpa using hk
  exact v _ (steady_loadAt _ _ hK)
 case call c=>
  obtain⟨callee,args,argTypes⟩:=c
  cases callee with
  | builtin b =>
   cases b <;> simp at hk
   exact v _ (steady_len _ _ _ hk)
  | value f => simp at hk
  | invoke r m => simp at hk
theorem valued (ρ:Operand→Value) (o:Oper) (hk:kindOp P o.op≠0) {w w':World} {n:Next} (h:(execOp ρ o).run P w=.ok n w'):∃ v,n=.value v:=by
 have v:∀ s:Sem Value,(do pure (Next.value (← s)):Sem Next).run P w=.ok n w'→∃ v,n=.value v:=by
  intro s hs;rw [Sem.run_bind] at hs
  cases hx:s.run P w with
  | ok a w2 => rw [hx] at hs; cases hs; exact ⟨_, rfl⟩
  | halt x w2 => rw [hx] at hs; cases hs
 unfold execOp at h
 cases ho:o.op <;> simp only [ho,kindOp] at hk h <;> first | exact v _ h | (simp at hk;done) | skip
 case move x=>cases h;exact⟨_,rfl⟩
 case assign x=>cases h;exact⟨_,rfl⟩
 case pick c a b=>
  rw [Sem.run_bind] at h
  cases hx:(asBool (ρ c)).run P w with
  | ok a w2 => rw [hx] at h; cases h; exact ⟨_, rfl⟩
  | halt x w2 => rw [hx] at h; cases h
 case call c=>
  obtain⟨callee,args,argTypes⟩:=c
  cases callee with
  | builtin b =>
   cases b <;> simp at hk
   exact v _ h
  | value f => simp at hk
  | invoke r m => simp at hk
end
section
variable {P : Program} {ops : Array Oper} {Q : Exit → Act → World → Prop} {Rq : Nat → Bool}
def wpAnyE (P:Program) (ops:Array Oper) (Q:Exit→Act→World→Prop) (Rq:Nat→Bool):Nat→Array Bool→Act→World→Prop
  | 0, listed, a, w => Region.ready .any ops listed = [] ∧ Q .normal a w
  | fuel + 1, listed, a, w =>
    (Region.ready .any ops listed=[]→Q .normal a w) ∧
    ∀ i∈Region.ready .any ops listed,wpOp P ops Q i (fun a' w'=>(Rq i=true→Ext w w')∧wpAnyE P ops Q Rq fuel (listed.setIfInBounds i true) a' w') a w
theorem wpAny_of_E:∀ (fuel:Nat) (listed:Array Bool) (a:Act) (w:World),wpAnyE P ops Q Rq fuel listed a w→wpAny P .any ops Q fuel listed a w
 | 0, _, _, _, h => h
 | fuel + 1, _, _, _, h => ⟨h.1, fun i hi => wpOp_mono (fun a' w' h' => wpAny_of_E fuel _ a' w' h'.2) (h.2 i hi)⟩
def Closed (ops:Array Oper) (listed:Array Bool):Prop:=∀ j oj,ops[j]?=some oj→listed.getD j false=true→∀ e∈oj.after,Region.binds .any e=true→listed.getD e.on false=true
def waitsT (ops:Array Oper):Nat→Nat→Nat→Bool
  | 0, _, _ => false
  | n + 1, j, i => match ops[j]? with
    | none => false
    | some oj => oj.after.any fun e => Region.binds .any e && (e.on == i || waitsT ops n e.on i)
theorem Closed.waits {listed:Array Bool} (hc:Closed ops listed) {i:Nat}:∀ (n j:Nat),waitsT ops n j i=true→listed.getD j false=true→listed.getD i false=true
 | 0, _, h, _ => by cases h
 | n + 1, j, h, hj => by
  unfold waitsT at h
  split at h
  ·
   cases h
  rename_i oj hoj
  obtain⟨e,he,hb⟩:=Array.any_eq_true'.1 h;simp only [Bool.and_eq_true,Bool.or_eq_true,beq_iff_eq] at hb;have h1:=hc j oj hoj hj e he hb.1
  rcases hb.2 with h2 | h2
  ·
   rw [← h2];exact h1
  exact hc.waits n e.on h2 h1
theorem Closed.not_ready {listed:Array Bool} (hc:Closed ops listed) {i n j:Nat} (h:waitsT ops n j i=true) (hi:listed.getD i true=false):j ∉ Region.ready .any ops listed:=by
 intro hr;obtain⟨_,oj,hoj,hall⟩:=mem_ready.1 hr
 cases n with
 | zero => cases h
 | succ n =>
  unfold waitsT at h;rw [hoj] at h;obtain⟨e,he,hb⟩:=Array.any_eq_true'.1 h;simp only [Bool.and_eq_true,Bool.or_eq_true,beq_iff_eq] at hb;have h1:=hall e he hb.1
  have h3:listed.getD i false=true:=by
   rcases hb.2 with h2 | h2
   ·
    rw [← h2];exact h1
   exact hc.waits n e.on h2 h1
  rcases Nat.lt_or_ge i listed.size with h' | h'
  ·
   simp [h'] at hi h3;rw [hi] at h3;cases h3
  simp [Array.getElem?_eq_none h'] at h3
theorem Closed.set {listed:Array Bool} (hc:Closed ops listed) {i:Nat} (hi:i∈Region.ready .any ops listed):Closed ops (listed.setIfInBounds i true):=by
 obtain⟨_,oi,hoi,hall⟩:=mem_ready.1 hi;intro j oj hj hl e he hb
 by_cases hij:i=j
 ·
  subst hij;have:oj=oi:=Option.some.inj (hj.symm.trans hoi);subst this;exact getD_set_true (hall e he hb)
 rw [getD_set_ne false hij] at hl;exact getD_set_true (hc j oj hj hl e he hb)
theorem Closed.start (n:Nat):Closed ops (Array.replicate n false):=by
 intro j oj _ hl
 exfalso
 rcases Nat.lt_or_ge j n with h | h
 ·
  simp [h] at hl
 simp [h] at hl
def clsS (free:Bool) (w:World):World→Prop:=fun w'=>free=false→Ext w w'
theorem wpAnyE_first {i:Nat} {oi:Oper} {v:Value} {free:Bool} {n:Nat} (hi:ops[i]?=some oi) (hsel:∀ (j:Nat) (o:Oper) cs b,ops[j]?=some o→o.op≠.select cs b)
  (hQ:∀ c a w,Q (.panic c) (a.put oi.dst v) w→Q (.panic c) a w) :
  ∀ (fuel:Nat) (listed:Array Bool) (a:Act) (w:World),Closed ops listed →
   (∀ j oj,ops[j]?=some oj→j≠i→listed.getD j true=false→(∀ e∈oj.after,Region.binds .any e=true→e.on≠i)→oi.apart ops oj=true) →
   (free=false→∀ j oj,ops[j]?=some oj→j≠i→listed.getD j true=false→Rq j=true∨waitsT ops n j i=true) →
   i∈Region.ready .any ops listed→YieldsIf P ops (clsS free w) oi v a →
   wpAnyE P ops Q Rq fuel (listed.setIfInBounds i true) (a.put oi.dst v) w→wpAnyE P ops Q Rq (fuel+1) listed a w:=by
 intro fuel
 induction fuel with
 | zero =>
  intro listed a w _ _ _ hr hy H;refine⟨fun h=>(by rw [h] at hr;cases hr),fun j hj=>?_⟩
  by_cases hji:j=i
  ·
   subst hji;exact hy.wpOp hi (fun _=>Ab w) ⟨fun _=>Ab w,H⟩
  have:=ready_mono hj hji;rw [H.1] at this
  cases this
 | succ fuel ih =>
  intro listed a w hc hfree hR hr hy H;refine⟨fun h=>(by rw [h] at hr;cases hr),fun j hj=>?_⟩
  by_cases hji:j=i
  ·
   subst hji;exact hy.wpOp hi (fun _=>Ab w) ⟨fun _=>Ab w,H⟩
  have h1:=H.2 j (ready_mono hj hji);obtain⟨hjun,oj,hoj,hall⟩:=mem_ready.1 hj;have h0:=(mem_ready.1 hr).1
  have hnot:∀ e∈oj.after,Region.binds .any e=true→e.on≠i:=fun e he hb heq=>by
   have h1:=hall e he hb;rw [heq] at h1
   rcases Nat.lt_or_ge i listed.size with h' | h'
   ·
    simp [h'] at h0 h1;rw [h0] at h1;cases h1
   simp [Array.getElem?_eq_none h'] at h1
  have h2:=wpOp_putIf hoj (hfree j oj hoj hji hjun hnot) (fun cs b=>hsel i oi cs b hi) (fun cs b=>hsel j oj cs b hoj) hQ hy h1
  have hfree':∀ k ok,ops[k]?=some ok→k≠i→(listed.setIfInBounds j true).getD k true=false →
    (∀ e∈ok.after,Region.binds .any e=true→e.on≠i)→oi.apart ops ok=true:=fun k ok hk hki hun hno=>by
   refine hfree k ok hk hki ?_ hno
   by_cases hjk:j=k
   ·
    subst hjk;exact hjun
   rw [getD_set_ne true hjk] at hun;exact hun
  have hR':free=false→∀ k ok,ops[k]?=some ok→k≠i→(listed.setIfInBounds j true).getD k true=false→Rq k=true∨waitsT ops n k i=true:=fun hf k ok hok hk hun=>by
   refine hR hf k ok hok hk ?_
   by_cases hjk:j=k
   ·
    subst hjk;exact hjun
   rw [getD_set_ne true hjk] at hun;exact hun
  refine wpOp_mono (fun a' w' h3=>⟨h3.2.1,ih (listed.setIfInBounds j true) a' w' (hc.set hj) hfree' hR' (ready_mono hr (Ne.symm hji)) ?_ ?_⟩) h2
  ·
   have hyy:=h3.1
   rcases hyy with ⟨hw,hv⟩ | hv
   ·
    refine .inl ⟨hw,fun w2 h2=>hv w2 fun hf=>?_⟩
    rcases hR hf j oj hoj hji hjun with h4 | h4
    ·
     exact(h3.2.1 h4).trans (h2 hf)
    exact absurd hj (hc.not_ready h4 h0)
   exact .inr hv
  rw [Array.setIfInBounds_comm _ _ hji];exact h3.2.2
inductive Sch where
  | done
  | blk (l : List Nat) (rest : Sch)
  | one (i : Nat) (rest : Sch)
  | two (i j : Nat) (si sj : Sch)
  | tri (i j k : Nat) (si sj sk : Sch)
def pick (ops:Array Oper) (l:List Nat):List Oper:=l.filterMap fun i=>ops[i]?
theorem PK:(∀ (ops:Array Oper) (l:List Nat),pick ops l=l.filterMap fun i=>ops[i]?)∧(∀ (f:Nat→Option Oper) (a:Nat) (l:List Nat),List.filterMap f (a :: l)=match f a with | none=>List.filterMap f l | some b=>b :: List.filterMap f l) ∧
  (∀ f:Nat→Option Oper,List.filterMap f []=[])∧(∀ (l:List Oper) (i:Nat),l.toArray[i]?=l[i]?)∧(∀ (a:Oper) (l:List Oper),(a :: l)[0]?=some a)∧(∀ (a:Oper) (l:List Oper) (i:Nat),(a :: l)[i+1]?=l[i]?):=
 ⟨fun _ _=>rfl,fun f a l=>by rw [List.filterMap_cons];cases f a <;> rfl,fun _=>rfl,fun _ _=>List.getElem?_toArray,fun _ _=>rfl,fun _ _ _=>rfl⟩
def Sch.wp (P:Program) (ops:Array Oper) (Rq:Nat→Bool) (K:Act→World→Prop):Sch→Act→World→Prop
  | .done, a, w => K a w
  | .blk l rest, a, w => wpList P ops (Exit.then (fun a' w' => rest.wp P ops Rq K a' w') (fun _ _ _ => False)) (pick ops l) a w
  | .one i rest, a, w => wpList P ops (Exit.then (fun a' w' => (Rq i = true → Ext w w') ∧ rest.wp P ops Rq K a' w') (fun _ _ _ => False)) (pick ops [i]) a w
  | .two i j si sj, a, w => wpList P ops (Exit.then (fun a' w' => (Rq i = true → Ext w w') ∧ si.wp P ops Rq K a' w') (fun _ _ _ => False)) (pick ops [i]) a w ∧
      wpList P ops (Exit.then (fun a' w'=>(Rq j=true→Ext w w')∧sj.wp P ops Rq K a' w') (fun _ _ _=>False)) (pick ops [j]) a w
  | .tri i j k si sj sk, a, w => wpList P ops (Exit.then (fun a' w' => (Rq i = true → Ext w w') ∧ si.wp P ops Rq K a' w') (fun _ _ _ => False)) (pick ops [i]) a w ∧
      wpList P ops (Exit.then (fun a' w'=>(Rq j=true→Ext w w')∧sj.wp P ops Rq K a' w') (fun _ _ _=>False)) (pick ops [j]) a w ∧
      wpList P ops (Exit.then (fun a' w'=>(Rq k=true→Ext w w')∧sk.wp P ops Rq K a' w') (fun _ _ _=>False)) (pick ops [k]) a w
def isNum:Op→Bool
  | .binOp .. => true
  | .convert .. => true
  | _ => false
def numT (ops:Array Oper) (o:Oper):List Tmp:=if isNum o.op then o.looksAt ops else []
def offOp (ops:Array Oper) (T:List Tmp) (i:Nat):Bool:=match (ops[i]?).bind (·.dst) with
  | some d => !T.contains d
  | none => true
def Sch.off (ops:Array Oper) (T:List Tmp):Sch→Bool
  | .done => true
  | .blk l rest => l.all (offOp ops T) && rest.off ops T
  | .one i rest => offOp ops T i && rest.off ops T
  | .two i j si sj => offOp ops T i && offOp ops T j && si.off ops T && sj.off ops T
  | .tri i j k si sj sk => offOp ops T i && offOp ops T j && offOp ops T k && si.off ops T && sj.off ops T && sk.off ops T
def takeB (P:Program) (ops:Array Oper) (Rq:Nat→Bool) (listed:Array Bool) (i:Nat) (l:List Nat) (rest:Sch):Bool:=match ops[i]? with
  | none => false
  | some o => (kindOp P o.op == 2 || (kindOp P o.op == 1 && (List.range ops.size).all fun j => j == i || listed.getD j true || Rq j || waitsT ops ops.size j i)) &&
    (Region.ready .any ops listed).contains i && Region.free .any ops listed i && (i :: l).all (offOp ops (numT ops o)) && rest.off ops (numT ops o)
def Sch.okBlk (P:Program) (ops:Array Oper) (Rq:Nat→Bool) (rest:Sch):List Nat→Array Bool→Bool
  | [], _ => true
  | i :: l, listed => takeB P ops Rq listed i l rest && Sch.okBlk P ops Rq rest l (listed.setIfInBounds i true)
def listAll:List Nat→Array Bool→Array Bool
  | [], listed => listed
  | i :: l, listed => listAll l (listed.setIfInBounds i true)
def Sch.ok (P:Program) (ops:Array Oper) (Rq:Nat→Bool):Sch→Array Bool→Bool
  | .done, listed => (Region.ready .any ops listed).isEmpty
  | .blk l rest, listed => Sch.okBlk P ops Rq rest l listed && rest.ok P ops Rq (listAll l listed)
  | .one i rest, listed => Region.ready .any ops listed == [i] && rest.ok P ops Rq (listed.setIfInBounds i true)
  | .two i j si sj, listed => Region.ready .any ops listed == [i, j] && si.ok P ops Rq (listed.setIfInBounds i true) && sj.ok P ops Rq (listed.setIfInBounds j true)
  | .tri i j k si sj sk, listed => Region.ready .any ops listed == [i, j, k] && si.ok P ops Rq (listed.setIfInBounds i true) && sj.ok P ops Rq (listed.setIfInBounds j true) && sk.ok P ops Rq (listed.setIfInBounds k true)
def Sch.len:Sch→Nat
  | .done => 0
  | .blk l rest => l.length + rest.len
  | .one _ rest => rest.len + 1
  | .two _ _ si sj => max si.len sj.len + 1
  | .tri _ _ _ si sj sk => max si.len (max sj.len sk.len) + 1
def chk (ops:Array Oper) (a:Act):Bool:=ops.toList.all fun o=>numOk a.eval o.op
theorem eval_off {a:Act} {o:Oper} {T:List Tmp} {i:Nat} (ho:ops[i]?=some o) (h:offOp ops T i=true) (v:Value) {t:Tmp} (ht:t∈T):(a.put o.dst v).eval (.tmp t)=a.eval (.tmp t):=by
 refine Act.eval_put fun d hd he=>?_
 unfold offOp at h;simp only [ho,Option.bind_some,hd] at h
 cases he
 simp at h
 exact h ht
theorem wpList_end {K:Act→World→Prop} {T:List Tmp}:∀ (l:List Nat) (a:Act) (w:World),(∀ i∈l,offOp ops T i=true) →
  wpList P ops (Exit.then K (fun _ _ _=>False)) (pick ops l) a w→∃ a' w',K a' w'∧∀ t∈T,a'.eval (.tmp t)=a.eval (.tmp t)
 | [], a, w, _, h => ⟨a, w, h, fun _ _ => rfl⟩
 | i :: l, a, w, ho, h => by
  cases hi:ops[i]? with
  | none =>
   have hp:pick ops (i :: l)=pick ops l:=by simp [pick,hi]
   rw [hp] at h;exact wpList_end l a w (fun j hj=>ho j (by simp [hj])) h
  | some o =>
   have hp:pick ops (i :: l)=o :: pick ops l:=by simp [pick,hi]
   rw [hp] at h;simp only [wpList] at h
   have nxt:∀ v (w2:World),wpList P ops (Exit.then K (fun _ _ _=>False)) (pick ops l) (a.put o.dst v) w2→∃ a' w',K a' w'∧∀ t∈T,a'.eval (.tmp t)=a.eval (.tmp t):=by
    intro v w2 h2;obtain⟨a',w',hk,ht⟩:=wpList_end l _ w2 (fun j hj=>ho j (by simp [hj])) h2;exact⟨a',w',hk,fun t htt=>(ht t htt).trans (eval_off hi (ho i (by simp)) v htt)⟩
   by_cases hw:Region.wanted o (yielded ops a.tmps)=true
   ·
    rw [if_pos hw] at h
    rcases h with h | ⟨_,_,_,h⟩
    ·
     unfold Oper.wp at h
     cases hr:(execOp a.eval o).run P w with
     | ok n w2 =>
      rw [hr] at h
      cases n <;> simp only [Oper.upon] at h
      case value u=>exact nxt _ _ h
      case skip=>exact nxt _ _ h
      case defer d=>
       obtain⟨a',w',hk,ht⟩:=wpList_end l _ w2 (fun j hj=>ho j (by simp [hj])) h;refine⟨a',w',hk,fun t htt=>(ht t htt).trans ?_⟩;exact(eval_off (a:={ a with defers:=d :: a.defers }) hi (ho i (by simp)) undef htt).trans rfl
      case enter f args=>
       obtain⟨e,w3,fr,he,_⟩:=h []
       cases e with
       | returned u => exact nxt _ _ he
       | panicked c => exact he.elim
       | outgrown => obtain ⟨_, _, hf⟩ := he; exact hf.elim
      case row row args=>
       obtain⟨v,w3,he,_⟩:=h default [];exact nxt _ _ he
     | halt x w2 =>
      rw [hr] at h
      cases x <;> simp only [Oper.upon] at h
      case panic v=>exact h.elim
    exact h.elim
   rw [if_neg hw] at h;exact nxt _ _ h
theorem Sch.comes {K:Act→World→Prop} {T:List Tmp}:∀ (s:Sch) (a:Act) (w:World),s.off ops T=true→s.wp P ops Rq K a w→∃ a' w',K a' w'∧∀ t∈T,a'.eval (.tmp t)=a.eval (.tmp t)
 | .done, a, w, _, h => ⟨a, w, h, fun _ _ => rfl⟩
 | .blk l rest, a, w, ho, h => by
  simp only [Sch.off,Bool.and_eq_true,List.all_eq_true] at ho;obtain⟨a1,w1,h1,t1⟩:=wpList_end l a w ho.1 h;obtain⟨a2,w2,h2,t2⟩:=Sch.comes rest a1 w1 ho.2 h1;exact⟨a2,w2,h2,fun t ht=>(t2 t ht).trans (t1 t ht)⟩
 | .one i rest, a, w, ho, h => by
  simp only [Sch.off,Bool.and_eq_true] at ho;obtain⟨a1,w1,h1,t1⟩:=wpList_end [i] a w (by simpa using ho.1) h;obtain⟨a2,w2,h2,t2⟩:=Sch.comes rest a1 w1 ho.2 h1.2;exact⟨a2,w2,h2,fun t ht=>(t2 t ht).trans (t1 t ht)⟩
 | .two i j si sj, a, w, ho, h => by
  simp only [Sch.off,Bool.and_eq_true] at ho;obtain⟨a1,w1,h1,t1⟩:=wpList_end [i] a w (by simpa using ho.1.1.1) h.1;obtain⟨a2,w2,h2,t2⟩:=Sch.comes si a1 w1 ho.1.2 h1.2;exact⟨a2,w2,h2,fun t ht=>(t2 t ht).trans (t1 t ht)⟩
 | .tri i j k si sj sk, a, w, ho, h => by
  simp only [Sch.off,Bool.and_eq_true] at ho;obtain⟨a1,w1,h1,t1⟩:=wpList_end [i] a w (by simpa using ho.1.1.1.1.1) h.1;obtain⟨a2,w2,h2,t2⟩:=Sch.comes si a1 w1 ho.1.1.2 h1.2;exact⟨a2,w2,h2,fun t ht=>(t2 t ht).trans (t1 t ht)⟩
theorem numOk_congr {a a':Act} {o:Oper} (h:∀ t∈o.looksAt ops,a'.eval (.tmp t)=a.eval (.tmp t)):numOk a'.eval o.op=numOk a.eval o.op:=by
 have hx:∀ x∈o.op.operands,a'.eval x=a.eval x:=by
  intro x hx
  cases x with
  | tmp t => exact h t (List.mem_append_left _ (List.mem_filterMap.2 ⟨.tmp t, by simpa using hx, rfl⟩))
  | _ => rfl
 unfold numOk
 cases hop:o.op <;> rw [hop] at hx <;> simp only [Op.operands] at hx <;> try rfl
 ·
  rename_i x y _
  dsimp only;rw [hx x (by simp),hx y (by simp)]
 rename_i x
 dsimp only;rw [hx x (by simp)]
theorem numOk_congr' {a a':Act} {o:Oper} (h:∀ t∈numT ops o,a'.eval (.tmp t)=a.eval (.tmp t)):numOk a'.eval o.op=numOk a.eval o.op:=by
 cases hn:isNum o.op
 ·
  unfold numOk
  cases hop:o.op <;> rw [hop] at hn <;> first | rfl | cases hn
 exact numOk_congr (by simpa [numT,hn] using h)
def OnlyN (Q:Exit→Act→World→Prop):Exit→Act→World→Prop
  | .normal, a, w => Q .normal a w
  | _, _, _ => False
theorem OnlyN.imp {Q:Exit→Act→World→Prop}:∀ (e:Exit) (a:Act) (w:World),OnlyN Q e a w→Q e a w:=fun e a w h=>by
 cases e <;> first | exact h | exact(h:False).elim
def SchEnd (ops:Array Oper) (Q:Exit→Act→World→Prop) (a:Act) (w:World):Prop:=chk ops a=true∧Q .normal a w
theorem wpOp_one {K:Act→World→Prop} {i:Nat} {a:Act} {w:World} (hm:i<ops.size) (h:wpList P ops (Exit.then K (fun _ _ _=>False)) (pick ops [i]) a w):wpOp P ops (OnlyN Q) i K a w:=by
 have ho:ops[i]?=some ops[i]:=by simp [hm]
 have hp:pick ops [i]=[ops[i]]:=by simp [pick,ho]
 rw [hp] at h;unfold wpOp;simp only [ho];simp only [wpList] at h
 by_cases hw:Region.wanted ops[i] (yielded ops a.tmps)=true
 ·
  rw [if_pos hw] at h ⊢
  rcases h with h | ⟨_,_,_,h2⟩
  ·
   refine .inl ?_;unfold Oper.wp at *;generalize (execOp a.eval ops[i]).run P w=r at *
   cases r with
   | ok n w' =>
    cases n <;> simp only [Oper.upon] at h ⊢
    case enter f args=>
     refine Calls.mono h fun e w'' he=>?_
     cases e with
     | returned v => exact he
     | panicked c => exact he.elim
     | outgrown => obtain ⟨_, _, hf⟩ := he; exact hf.elim
    all_goals exact h
   | halt x w' =>
    cases x <;> simp only [Oper.upon] at h ⊢
    all_goals exact h.elim
  exact h2.elim
 rw [if_neg hw] at h ⊢
 exact h
theorem Sch.blkAny (hs : Region.noSelect ops = true) (rest : Sch) (hrest : ∀ (fuel : Nat) (listed : Array Bool) (a : Act) (w : World), rest.len ≤ fuel → rest.ok P ops Rq listed = true → Closed ops listed →
   rest.wp P ops Rq (SchEnd ops Q) a w → wpAnyE P ops (OnlyN Q) Rq fuel listed a w) :
  ∀ (l:List Nat) (fuel:Nat) (listed:Array Bool) (a:Act) (w:World),l.length+rest.len≤fuel→Sch.okBlk P ops Rq rest l listed=true→rest.ok P ops Rq (listAll l listed)=true→Closed ops listed →
   wpList P ops (Exit.then (fun a' w'=>rest.wp P ops Rq (SchEnd ops Q) a' w') (fun _ _ _=>False)) (pick ops l) a w→wpAnyE P ops (OnlyN Q) Rq fuel listed a w
 | [], fuel, listed, a, w, hf, _, hr, hc, h => hrest fuel listed a w (by simpa using hf) hr hc h
 | i :: l, 0, _, _, _, hf, _, _, _, _ => absurd hf (by simp)
 | i :: l, fuel + 1, listed, a, w, hf, hb, hr, hc, h => by
  simp only [Sch.okBlk,Bool.and_eq_true] at hb;obtain⟨ht,hb'⟩:=hb;unfold takeB at ht
  cases ho:ops[i]? with
  | none => simp [ho] at ht
  | some o =>
   simp only [ho,Bool.and_eq_true] at ht;obtain⟨⟨⟨⟨hk,hrd⟩,hfr⟩,hof1⟩,hof2⟩:=ht;have hrd':i∈Region.ready .any ops listed:=by simpa using hrd
   rw [List.all_eq_true] at hof1;have hp:pick ops (i :: l)=o :: pick ops l:=by simp [pick,ho]
   rw [hp] at h;simp only [wpList] at h
   have key:∀ (free:Bool) (v:Value),(free=false→∀ j oj,ops[j]?=some oj→j≠i→listed.getD j true=false→Rq j=true∨waitsT ops ops.size j i=true)→YieldsIf P ops (clsS free w) o v a →
     wpList P ops (Exit.then (fun a' w'=>rest.wp P ops Rq (SchEnd ops Q) a' w') (fun _ _ _=>False)) (pick ops l) (a.put o.dst v) w→wpAnyE P ops (OnlyN Q) Rq (fuel+1) listed a w:=by
    intro free v hR hy hn
    exact wpAnyE_first (n:=ops.size) ho (Region.noSelect_spec hs) (fun _ _ _ hh=>hh) fuel listed a w hc (Region.free_spec ho hfr) hR hrd' hy
     (Sch.blkAny hs rest hrest l fuel _ _ _ (by simp at hf;omega) hb' hr (hc.set hrd') hn)
   have hR:kindOp P o.op≠2→∀ j oj,ops[j]?=some oj→j≠i→listed.getD j true=false→Rq j=true∨waitsT ops ops.size j i=true:=by
    intro hne j oj hoj hji hun;simp only [Bool.or_eq_true,beq_iff_eq,Bool.and_eq_true,List.all_eq_true,List.mem_range] at hk
    rcases hk with hk | hk
    ·
     exact absurd hk hne
    rcases hk.2 j (Array.getElem?_eq_some_iff.1 hoj).1 with ((h1 | h1) | h1) | h1
    ·
     exact absurd h1 hji
    ·
     rw [hun] at h1;cases h1
    ·
     exact .inl h1
    exact .inr h1
   by_cases hw:Region.wanted o (yielded ops a.tmps)=true
   ·
    rw [if_pos hw] at h
    rcases h with h | ⟨_,_,_,h2⟩
    ·
     unfold Oper.wp at h
     cases hrun:(execOp a.eval o).run P w with
     | halt x w2 =>
      rw [hrun] at h
      cases x <;> simp only [Oper.upon] at h
      exact h.elim
     | ok n w2 =>
      have hk0:kindOp P o.op≠0:=by
       intro h0;simp [h0] at hk
      obtain⟨v,rfl⟩:=valued a.eval o hk0 hrun;rw [hrun] at h;simp only [Oper.upon] at h;obtain⟨a1,w1,h1,t1⟩:=wpList_end l (a.put o.dst v) w2 (fun j hj=>hof1 j (by simp [hj])) h;obtain⟨a3,w3,h3,t3⟩:=Sch.comes rest a1 w1 hof2 h1
      have hnum:numOk a.eval o.op=true:=by
       rw [← numOk_congr' (ops:=ops) (a:=a) (a':=a3) (fun t ht=>((t3 t ht).trans (t1 t ht)).trans (eval_off ho (hof1 i (by simp)) v ht))];have:=h3.1;unfold chk at this;rw [List.all_eq_true] at this;exact this o (by simpa using Array.mem_of_getElem? ho)
      by_cases h2:kindOp P o.op=2
      ·
       have st:=steady_exec (P:=P) (K:=fun _ _=>True) a.eval o (.inl h2) hnum;obtain⟨rfl,_⟩:=st w w _ w2 trivial hrun;exact key true v (fun hh=>by cases hh) (.inl ⟨hw,fun w' _=>(st w2 w' _ w2 trivial hrun).2⟩) h
      have h1':kindOp P o.op=1:=by
       simp only [Bool.or_eq_true,beq_iff_eq,Bool.and_eq_true] at hk
       rcases hk with hk | hk
       ·
        exact absurd hk h2
       exact hk.1
      have st:=steady_exec (P:=P) (K:=Ext) a.eval o (.inr ⟨h1',fun _ _ h=>h⟩) hnum;obtain⟨rfl,_⟩:=st w w _ w2 (Ab w) hrun;exact key false v (fun _=>hR h2) (.inl ⟨hw,fun w' hw'=>(st w2 w' _ w2 (hw' rfl) hrun).2⟩) h
    exact h2.elim
   rw [if_neg hw] at h;exact key true undef (fun hh=>by cases hh) (.inr ⟨by simpa using hw,rfl⟩) h
theorem Sch.any (hs:Region.noSelect ops=true):∀ (s:Sch) (fuel:Nat) (listed:Array Bool) (a:Act) (w:World),s.len≤fuel→s.ok P ops Rq listed=true→Closed ops listed →
  s.wp P ops Rq (SchEnd ops Q) a w→wpAnyE P ops (OnlyN Q) Rq fuel listed a w
 | .done, fuel, listed, a, w, _, hok, _, h => by
  have hr:Region.ready .any ops listed=[]:=by simpa [Sch.ok] using hok
  cases fuel with
  | zero => exact ⟨hr, h.2⟩
  | succ fuel => exact ⟨fun _ => h.2, by rw [hr]; simp⟩
 | .blk l rest, fuel, listed, a, w, hf, hok, hc, h => by
  simp only [Sch.ok,Bool.and_eq_true] at hok;exact Sch.blkAny hs rest (fun fuel listed a w h1 h2 h3 h4=>Sch.any hs rest fuel listed a w h1 h2 h3 h4) l fuel listed a w hf hok.1 hok.2 hc h
 | .one i rest, 0, _, _, _, hf, _, _, _ => absurd hf (by simp [Sch.len])
 | .one i rest, fuel + 1, listed, a, w, hf, hok, hc, h => by
  simp only [Sch.ok,Bool.and_eq_true,beq_iff_eq] at hok;have hin:i∈Region.ready .any ops listed:=by rw [hok.1];simp
  obtain⟨_,oi,hoi,_⟩:=mem_ready.1 hin;refine⟨fun h0=>(by rw [hok.1] at h0;cases h0),fun j hj=>?_⟩;obtain rfl:j=i:=by rw [hok.1] at hj;simpa using hj
  refine wpOp_mono (fun a' w' hh=>⟨hh.1,Sch.any hs rest fuel _ a' w' (by simp [Sch.len] at hf;omega) hok.2 (hc.set hin) hh.2⟩) (wpOp_one (Array.getElem?_eq_some_iff.1 hoi).1 h)
 | .two i j si sj, 0, _, _, _, hf, _, _, _ => absurd hf (by simp [Sch.len])
 | .two i j si sj, fuel + 1, listed, a, w, hf, hok, hc, h => by
  simp only [Sch.ok,Bool.and_eq_true,beq_iff_eq] at hok;obtain⟨⟨hr,hok1⟩,hok2⟩:=hok;have hin:i∈Region.ready .any ops listed:=by rw [hr];simp
  have hjn:j∈Region.ready .any ops listed:=by rw [hr];simp
  obtain⟨_,oi,hoi,_⟩:=mem_ready.1 hin;obtain⟨_,oj,hoj,_⟩:=mem_ready.1 hjn;have hl:si.len≤fuel∧sj.len≤fuel:=by simp [Sch.len] at hf;omega
  refine⟨fun h0=>(by rw [hr] at h0;cases h0),fun k hk=>?_⟩;rw [hr] at hk;have:k=i∨k=j:=by simpa using hk
  rcases this with rfl | rfl
  ·
   exact wpOp_mono (fun a' w' hh=>⟨hh.1,Sch.any hs si fuel _ a' w' hl.1 hok1 (hc.set hin) hh.2⟩) (wpOp_one (Array.getElem?_eq_some_iff.1 hoi).1 h.1)
  exact wpOp_mono (fun a' w' hh=>⟨hh.1,Sch.any hs sj fuel _ a' w' hl.2 hok2 (hc.set hjn) hh.2⟩) (wpOp_one (Array.getElem?_eq_some_iff.1 hoj).1 h.2)
 | .tri i j k si sj sk, 0, _, _, _, hf, _, _, _ => absurd hf (by simp [Sch.len])
 | .tri i j k si sj sk, fuel + 1, listed, a, w, hf, hok, hc, h => by
  simp only [Sch.ok,Bool.and_eq_true,beq_iff_eq] at hok;obtain⟨⟨⟨hr,hok1⟩,hok2⟩,hok3⟩:=hok;have hin:i∈Region.ready .any ops listed:=by rw [hr];simp
  have hjn:j∈Region.ready .any ops listed:=by rw [hr];simp
  have hkn:k∈Region.ready .any ops listed:=by rw [hr];simp
  obtain⟨_,oi,hoi,_⟩:=mem_ready.1 hin;obtain⟨_,oj,hoj,_⟩:=mem_ready.1 hjn;obtain⟨_,ok,hok,_⟩:=mem_ready.1 hkn;have hl:si.len≤fuel∧sj.len≤fuel∧sk.len≤fuel:=by simp [Sch.len] at hf;omega
  refine⟨fun h0=>(by rw [hr] at h0;cases h0),fun m hm=>?_⟩;rw [hr] at hm;have:m=i∨m=j∨m=k:=by simpa using hm
  rcases this with rfl | rfl | rfl
  ·
   exact wpOp_mono (fun a' w' hh=>⟨hh.1,Sch.any hs si fuel _ a' w' hl.1 hok1 (hc.set hin) hh.2⟩) (wpOp_one (Array.getElem?_eq_some_iff.1 hoi).1 h.1)
  ·
   exact wpOp_mono (fun a' w' hh=>⟨hh.1,Sch.any hs sj fuel _ a' w' hl.2.1 hok2 (hc.set hjn) hh.2⟩) (wpOp_one (Array.getElem?_eq_some_iff.1 hoj).1 h.2.1)
  exact wpOp_mono (fun a' w' hh=>⟨hh.1,Sch.any hs sk fuel _ a' w' hl.2.2 hok3 (hc.set hkn) hh.2⟩) (wpOp_one (Array.getElem?_eq_some_iff.1 hok).1 h.2.2)
theorem wp_region_plan {id:Nat} {a:Act} {w:World} (s:Sch) (bad:List Nat) (hm:P.follows .mixedOrders=true)
  (hB:(Region.noSelect ops && decide (s.len≤ops.size) && s.ok P ops (fun i=>!bad.contains i) (Array.replicate ops.size false))=true)
  (h:s.wp P ops (fun i=>!bad.contains i) (SchEnd ops Q) a w.drew):(Code.region id ops true).wp P Q a w:=by
 simp only [Bool.and_eq_true,decide_eq_true_eq] at hB;refine Code.wp_mono OnlyN.imp ?_;exact wp_region_any hm (wpAny_of_E _ _ _ _ (Sch.any hB.1.1 s _ _ _ _ hB.1.2 hB.2 (Closed.start _) h))
structure Shut (p : Prop) : Prop where
  out:p
theorem blkStep {E:Act→World→Prop} {l:List Nat} {rest:Sch} {a:Act} {w:World} (h:∀ K:Act→World→Prop,Hid (∀ a' w',Shut (rest.wp P ops Rq E a' w')→K a' w')→wpList P ops (Exit.then K (fun _ _ _=>False)) (pick ops l) a w) :
  Shut ((Sch.blk l rest).wp P ops Rq E a w):=⟨h _ (Ac fun _ _ h=>h.out)⟩
theorem oneStep {E:Act→World→Prop} {i:Nat} {rest:Sch} {a:Act} {w:World} (h:∀ K:Act→World→Prop,Hid (∀ a' w',Ext w w'→Shut (rest.wp P ops Rq E a' w')→K a' w')→wpList P ops (Exit.then K (fun _ _ _=>False)) (pick ops [i]) a w) :
  Shut ((Sch.one i rest).wp P ops Rq E a w):=⟨h _ (Ac fun _ _ h1 h=>⟨fun _=>h1,h.out⟩)⟩
theorem badStep {E:Act→World→Prop} {i:Nat} {rest:Sch} {a:Act} {w:World} (hb:Rq i=false) (h:∀ K:Act→World→Prop,Hid (∀ a' w',Shut (rest.wp P ops Rq E a' w')→K a' w')→wpList P ops (Exit.then K (fun _ _ _=>False)) (pick ops [i]) a w) :
  Shut ((Sch.one i rest).wp P ops Rq E a w):=⟨h _ (Ac fun _ _ h=>⟨(fun e=>by rw [hb] at e;cases e),h.out⟩)⟩
theorem twoStep {E:Act→World→Prop} {i j:Nat} {si sj:Sch} {a:Act} {w:World} (h1:Shut ((Sch.one i si).wp P ops Rq E a w)) (h2:Shut ((Sch.one j sj).wp P ops Rq E a w)):Shut ((Sch.two i j si sj).wp P ops Rq E a w):=⟨h1.out,h2.out⟩
theorem triStep {E:Act→World→Prop} {i j k:Nat} {si sj sk:Sch} {a:Act} {w:World} (h1:Shut ((Sch.one i si).wp P ops Rq E a w)) (h2:Shut ((Sch.one j sj).wp P ops Rq E a w)) (h3:Shut ((Sch.one k sk).wp P ops Rq E a w)):Shut ((Sch.tri i j k si sj sk).wp P ops Rq E a w):=⟨h1.out,h2.out,h3.out⟩
theorem doneStep {a:Act} {w:World} (h1:chk ops a=true) (h2:Q .normal a w):Shut (Sch.done.wp P ops Rq (SchEnd ops Q) a w):=⟨h1,h2⟩
theorem planStep {id:Nat} {a:Act} {w:World} (s:Sch) (bad:List Nat) (hm:P.follows .mixedOrders=true)
  (hB:(Region.noSelect ops && decide (s.len≤ops.size) && s.ok P ops (fun i=>!bad.contains i) (Array.replicate ops.size false))=true)
  (h:Shut (s.wp P ops (fun i=>!bad.contains i) (SchEnd ops Q) a w.drew)):(Code.region id ops true).wp P Q a w:=wp_region_plan s bad hm hB h.out
end
end
abbrev Ap := @doneStep
abbrev Aq := @steady_pure
abbrev Ax := @planStep
abbrev Bh := @steady_stuck
abbrev Ce := @steady_underlying
end Go.Proofs.YteodlcpeoaggbaaGreat
