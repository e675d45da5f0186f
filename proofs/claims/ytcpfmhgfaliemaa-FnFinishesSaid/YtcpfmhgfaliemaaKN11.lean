/- What these laws need: FnFinishes: Contracts of the arithmetic modulo the prime, program and reference. Contracts of turning parts around, program and reference. Contracts of copying hops, parts and paths, program and reference. Plain facts on the encoding of numbers: no program. A region that draws its order, walked along one schedule: what only reads is taken as soon as it may come up; a call, an allocation, an append comes up when it alone may. Worlds in which only a cursor's block was written: what reads the same in them, and regions that draw their order among calls that move the cursor. The cursor that the draws of the laws read: its contracts say no more than the bounds of what is drawn. Blocks of five cells written whole, and one cell of a block written. A draw under way: its cursor, what has turned, and cells written in place. Rows that the call owns, by ranges of blocks, and rows that are only read from now on. -/
import Derived.Laws.BitsAllLaws
import Derived.Laws.BitsLemmas
import Derived.OrdersHeld
import Derived.Deep.LoopGhost
import Derived.Deep.DeepCutAuto
import Derived.Test.YtcpfmhgfaliemaaKN4
namespace Go.Proofs.Ytcpfmhgfaliemaa
section
open Go.ChangeShapes Go.WideShapes Go.ChangeAt Go.RowKit Go.Deep
theorem isRes_true {n : Int} : isRes n = true ↔ 0 ≤ n ∧ n ≤ 2147483646 := inR_true
theorem addMod_no1 {b s : Int} (h : isRes b = false) : addMod b s = 0 := by simp [addMod, h]
theorem addMod_no2 {b s : Int} (h : isRes s = false) : addMod b s = 0 := by simp [addMod, h]
theorem addMod_yes {b s : Int} (h : isRes b = true) (h2 : isRes s = true) : addMod b s = (b + s) % 2147483647 := by simp [addMod, h, h2]
theorem subMod_yes {b s : Int} (h : isRes b = true) (h2 : isRes s = true) : subMod b s = (b - s + 2147483647) % 2147483647 := by simp [subMod, h, h2]
theorem addMod_res (b s : Int) : isRes (addMod b s) = true := by
 rw [isRes_true]; unfold addMod; split <;> omega
theorem subMod_res (b s : Int) : isRes (subMod b s) = true := by
 rw [isRes_true]; unfold subMod; split <;> omega
set_option maxHeartbeats 400000 in
theorem i_isResidue (n : Int) (w : World) : Calls Try.prog 64 #[.int .i64 n] w fun e w' => e = .returned (.bool (isRes n)) ∧ w = w' := by
 go_enter Try.func64, Try.ntmps64
 go_wp2_with fail
 refine (i_InRange _ _ _ _).mono ?_
 rintro e w1 ⟨rfl, rfl⟩
 go_wp2_with fail
 go_ret
 exact ⟨rfl, rfl⟩
set_option maxHeartbeats 400000 in
theorem i_AddMod (b s : Int) (w : World) : Calls Try.prog 137 #[.int .i64 b, .int .i64 s] w fun e w' => e = .returned (.int .i64 (addMod b s)) ∧ w = w' := by
 go_enter Try.func137, Try.ntmps137
 go_wp2_with fail
 refine (i_isResidue _ _).mono ?_
 rintro e w1 ⟨rfl, rfl⟩
 cases h1 : isRes b
 ·
  have HE := Lib.hid (addMod_no1 (s := s) h1)
  go_wp2_with fail
  go_ret
  exact ⟨ret_int HE.out.symm, rfl⟩
 ·
  go_wp2_with fail
  refine (i_isResidue _ _).mono ?_
  rintro e w1 ⟨rfl, rfl⟩
  cases h2 : isRes s
  ·
   have HE := Lib.hid (addMod_no2 (b := b) h2)
   go_wp2_with fail
   go_ret
   exact ⟨ret_int HE.out.symm, rfl⟩
  ·
   have HE := Lib.hid (addMod_yes h1 h2)
   obtain ⟨a1, a2⟩ := isRes_true.1 h1
   obtain ⟨a3, a4⟩ := isRes_true.1 h2
   go_wp2_with fail
   go_ret
   exact ⟨ret_int HE.out.symm, rfl⟩
set_option maxHeartbeats 400000 in
theorem s_l3Ok (n : Int) (w : World) : Calls Try.prog 120 #[.int .i64 n] w fun e w' => e = .returned (.bool (isRes n)) ∧ w = w' := by
 go_enter Try.func120, Try.ntmps120
 go_wp2_with fail
 refine (s_l1In _ _ _ _).mono ?_
 rintro e w1 ⟨rfl, rfl⟩
 go_wp2_with fail
 go_ret
 exact ⟨rfl, rfl⟩
set_option maxHeartbeats 400000 in
theorem s_AddMod (b s : Int) (w : World) : Calls Try.prog 143 #[.int .i64 b, .int .i64 s] w fun e w' => e = .returned (.int .i64 (addMod b s)) ∧ w = w' := by
 go_enter Try.func143, Try.ntmps143
 go_wp2_with fail
 refine (s_l3Ok _ _).mono ?_
 rintro e w1 ⟨rfl, rfl⟩
 cases h1 : isRes b
 ·
  have HE := Lib.hid (addMod_no1 (s := s) h1)
  go_wp2_with fail
  go_ret
  exact ⟨ret_int HE.out.symm, rfl⟩
 ·
  go_wp2_with fail
  refine (s_l3Ok _ _).mono ?_
  rintro e w1 ⟨rfl, rfl⟩
  cases h2 : isRes s
  ·
   have HE := Lib.hid (addMod_no2 (b := b) h2)
   go_wp2_with fail
   go_ret
   exact ⟨ret_int HE.out.symm, rfl⟩
  ·
   have HE := Lib.hid (addMod_yes h1 h2)
   obtain ⟨a1, a2⟩ := isRes_true.1 h1
   obtain ⟨a3, a4⟩ := isRes_true.1 h2
   go_wp2_with fail
   go_ret
   exact ⟨ret_int HE.out.symm, rfl⟩
end
section
open Go.ChangeShapes Go.WideShapes Go.ChangeAt Go.RowKit Go.Deep
theorem elemHop : Nonempty (Elem Try.prog 58 108 5 40) := Elem.mk' Try.underlying58 Try.infoHop rfl (by decide)
end
section
open Go.ChangeShapes Go.WideShapes Go.ChangeAt Go.RowKit Go.Deep
set_option maxHeartbeats 400000 in
theorem i_copyHops (l : List Hop) (v : Value) (w : World) (hv : RdS Hop.rep w v l) (hl : l.length ≤ 1048576) :
  Calls Try.prog 66 #[v] w fun e w' => ∃ v', e = .returned v' ∧ OwnF Hop.f 5 w.heap.size 108 w' v' l ∧ Ext w w' := by
 obtain ⟨E⟩ := elemHop
 go_enter Try.func66, Try.ntmps66
 go_wp2_with (at_builtin; refine appS E Hop.flen Hop.one rfl _ _ rfl l rfl (OwnF.empty Hop.f 5 w.heap.size _ w (Nat.le_refl _)) rfl (hv.ext ((Ext.refl _).alloc _)) (by first | omega | (simp; omega)) (by first | (unfold maxLen; omega) | (simp [maxLen]; omega)) (by simp) ?_)
 intro v' w' ho' hg'
 have hx' : Ext w w' := ((Ext.refl w).alloc _).app hg' (OwnF.empty Hop.f 5 w.heap.size 108 w (Nat.le_refl _)) (Nat.le_refl _)
 try rw [List.nil_append] at ho'
 clear hg'
 go_wp2
 go_ret
 exact ⟨_, rfl, ho', hx'⟩
end
section
def varF : Nat → Int → List Int
  | 0, n => [n]
  | k + 1, n => if 128 ≤ n then (n % 128 + 128) :: varF k (n / 128) else [n]
def varint (n : Int) : List Int := varF n.toNat n
theorem varF_stable : ∀ (k k' : Nat) (n : Int), n.toNat ≤ k → n.toNat ≤ k' → varF k n = varF k' n
  | 0, 0, _, _, _ => rfl
  | 0, k' + 1, n, h, _ => by
    have : ¬ 128 ≤ n := by omega
    simp [varF, this]
  | k + 1, 0, n, _, h => by
    have : ¬ 128 ≤ n := by omega
    simp [varF, this]
  | k + 1, k' + 1, n, h, h' => by
    by_cases hn : 128 ≤ n
    · simp only [varF, hn, if_true]
      rw [varF_stable k k' (n / 128) (by omega) (by omega)]
    · simp [varF, hn]
theorem varint_big {n : Int} (h : 128 ≤ n) : varint n = (n % 128 + 128) :: varint (n / 128) := by
  obtain ⟨k, hk⟩ : ∃ k, n.toNat = k + 1 := ⟨n.toNat - 1, by omega⟩
  unfold varint
  rw [hk]
  simp only [varF, h, if_true]
  rw [varF_stable k (n / 128).toNat (n / 128) (by omega) (Nat.le_refl _)]
theorem varint_small {n : Int} (h : n < 128) : varint n = [n] := by
  unfold varint
  cases n.toNat with
  | zero => rfl
  | succ k => simp only [varF]; rw [if_neg (by omega)]
/-- The bytes that a number adds: none if it is out of range. -/
def varOf (n : Int) : List Int := if 0 ≤ n ∧ n ≤ 1000000000000 then varint n else []
def encInts (l : List Int) : List Int := l.flatMap varOf
theorem varint_len : ∀ (k : Nat) (n : Int), 0 ≤ n → n < 128 ^ (k + 1) → (varint n).length ≤ k + 1
  | 0, n, _, h => by rw [varint_small (by simpa using h)]; simp
  | k + 1, n, h0, h => by
    by_cases hn : 128 ≤ n
    · rw [varint_big hn, List.length_cons]
      have := varint_len k (n / 128) (by omega) (by
        rw [Int.pow_succ] at h
        omega)
      omega
    · rw [varint_small (by omega)]; simp
theorem varOf_len (n : Int) : (varOf n).length ≤ 6 := by
  unfold varOf
  split
  · rename_i h
    exact varint_len 5 n h.1 (by omega)
  · simp
theorem encInts_len (l : List Int) : (encInts l).length ≤ 6 * l.length := by
  induction l with
  | nil => simp [encInts]
  | cons a l ih =>
    have := varOf_len a
    simp only [encInts, List.flatMap_cons, List.length_append, List.length_cons] at ih ⊢
    omega
theorem ofInt_nat (a : Nat) (ha : a < 9223372036854775808) : (BitVec.ofInt 64 (a : Int)).toNat = a := by
  rw [BitVec.ofInt_natCast, BitVec.toNat_ofNat]; exact Nat.mod_eq_of_lt (by omega)
theorem and_nat (a b : Nat) (ha : a < 9223372036854775808) (hb : b < 9223372036854775808) : bits .and .i64 (a : Int) (b : Int) = ((a &&& b : Nat) : Int) := by
  have hx : a &&& b < 2 ^ 63 := Nat.and_lt_two_pow _ (by omega)
  show IntKind.i64.wrap ((BitVec.ofInt 64 (a : Int) &&& BitVec.ofInt 64 (b : Int)).toNat : Int) = _
  rw [BitVec.toNat_and, ofInt_nat a ha, ofInt_nat b hb, IntKind.wrap_i64]
  omega
theorem or_nat (a b : Nat) (ha : a < 9223372036854775808) (hb : b < 9223372036854775808) : bits .or .i64 (a : Int) (b : Int) = ((a ||| b : Nat) : Int) := by
  have hx : a ||| b < 2 ^ 63 := Nat.or_lt_two_pow (by omega) (by omega)
  show IntKind.i64.wrap ((BitVec.ofInt 64 (a : Int) ||| BitVec.ofInt 64 (b : Int)).toNat : Int) = _
  rw [BitVec.toNat_or, ofInt_nat a ha, ofInt_nat b hb, IntKind.wrap_i64]
  omega
theorem and127 (m : Int) (h0 : 0 ≤ m) (h1 : m < 9223372036854775808) : bits .and .i64 m 127 = m % 128 := by
  obtain ⟨k, rfl⟩ := Int.eq_ofNat_of_zero_le h0
  have := and_nat k 127 (by omega) (by omega)
  have h2 : k &&& 127 = k % 128 := Nat.and_two_pow_sub_one_eq_mod k 7
  rw [h2] at this
  have e : ((127 : Nat) : Int) = 127 := rfl
  rw [e] at this
  rw [this]; omega
theorem or128 (m : Int) : bits .or .i64 (m % 128) 128 = m % 128 + 128 := by
  obtain ⟨k, hk⟩ := Int.eq_ofNat_of_zero_le (show 0 ≤ m % 128 by omega)
  have hk2 : k < 128 := by omega
  rw [hk]
  have := or_nat k 128 (by omega) (by omega)
  have h2 : k ||| 128 = k + 128 := by
    have := Nat.two_pow_add_eq_or_of_lt (b := k) (i := 7) (by omega) 1
    simp only [Nat.mul_one] at this
    rw [Nat.or_comm, Nat.add_comm]
    exact this.symm
  rw [h2] at this
  have e : ((128 : Nat) : Int) = 128 := rfl
  rw [e] at this
  rw [this]; omega
end
section
open Go.ChangeShapes Go.WideShapes Go.ChangeAt Go.RowKit Go.Deep
section
variable {P : Program} {ops : Array Oper} {Q : Exit → Act → World → Prop} {C : World → Prop}
/-- Operations that hand back a value and do nothing else. -/
def plainOp : Op → Bool
  | .move _ | .assign _ | .pick .. | .load .. | .fieldAddr .. | .field .. | .indexAddr .. | .index .. | .binOp .. | .unOp .. | .convert .. | .slice .. | .extract .. | .build .. => true
  | .call { callee := .builtin .len, .. } => true
  | _ => false
def ValueOrHalt (r : Result Next) : Prop := (∃ u w', r = .ok (.value u) w') ∨ ∃ h w', r = .halt h w'
theorem vh_bind (s : Sem Value) (w : World) : ValueOrHalt ((do pure (Next.value (← s)) : Sem Next).run P w) := by
  simp only [Sem.run_bind]
  cases s.run P w with
  | ok a w' => exact .inl ⟨a, w', rfl⟩
  | halt h w' => exact .inr ⟨h, w', rfl⟩
theorem vh_map {α : Type} (s : Sem α) (f : α → Value) (w : World) : ValueOrHalt ((do let x ← s; pure (Next.value (f x)) : Sem Next).run P w) := by
  simp only [Sem.run_bind]
  cases s.run P w with
  | ok a w' => exact .inl ⟨f a, w', rfl⟩
  | halt h w' => exact .inr ⟨h, w', rfl⟩
theorem plain_run (ρ : Operand → Value) (o : Oper) (h : plainOp o.op = true) (w : World) : ValueOrHalt ((execOp ρ o).run P w) := by
  unfold execOp
  cases ho : o.op <;> simp only [ho, plainOp, Bool.false_eq_true] at h ⊢
  case pick c a b => exact vh_map (asBool (ρ c)) (fun x => if x then ρ a else ρ b) w
  case call c =>
    obtain ⟨callee, args, argTypes⟩ := c
    cases callee with
    | builtin b =>
      cases b <;> simp only [Bool.false_eq_true] at h
      exact vh_bind _ w
    | value f => simp at h
    | invoke r m => simp at h
  all_goals first
    | exact vh_bind _ w
    | exact .inl ⟨_, _, rfl⟩
/-- What a quiet walk shows of a plain operation, as the held walk asks it. -/
theorem yieldsIf_of_quiet {o : Oper} {a : Act} {v : Value} (hp : plainOp o.op = true) (hw : Region.wanted o (yielded ops a.tmps) = true) (h : ∀ w, C w → o.quietAt P a C w v) : YieldsIf P ops C o v a := by
  refine .inl ⟨hw, fun w hC => ?_⟩
  have h1 := h w hC
  unfold Oper.quietAt at h1
  rcases plain_run (P := P) a.eval o hp w with ⟨u, w', hr⟩ | ⟨x, w', hr⟩
  · rw [hr] at h1 ⊢
    obtain ⟨rfl, rfl⟩ := h1
    rfl
  · rw [hr] at h1
    exact h1.elim
/-- A schedule: (i, true): operation i is plain and may come up, and nobody who could come before it touches its temporaries; (i, false): operation i alone may come up. -/
def schedB (ops : Array Oper) : List (Nat × Bool) → Array Bool → Bool
  | [], listed => (Region.ready .any ops listed).isEmpty
  | (i, true) :: rest, listed => ((ops[i]?).map fun o => plainOp o.op).getD false && (Region.ready .any ops listed).contains i && Region.free .any ops listed i && schedB ops rest (listed.setIfInBounds i true)
  | (i, false) :: rest, listed => (Region.ready .any ops listed == [i]) && schedB ops rest (listed.setIfInBounds i true)
/-- The walk along the schedule. -/
def wpSched (P : Program) (ops : Array Oper) (Q : Exit → Act → World → Prop) (C : World → Prop) : List (Oper × Bool) → Act → World → Prop
  | [], a, w => Q .normal a w
  | (o, true) :: rest, a, w => if Region.wanted o (yielded ops a.tmps) then o.quiet P a C (fun a' => wpSched P ops Q C rest a' w) else wpSched P ops Q C rest (a.put o.dst undef) w
  | (o, false) :: rest, a, w => wpList P ops (Exit.then (fun a' w' => C w' ∧ wpSched P ops Q C rest a' w') Q) [o] a w
def schedOps (ops : Array Oper) (l : List (Nat × Bool)) : List (Oper × Bool) := l.filterMap fun x => (ops[x.1]?).map fun o => (o, x.2)
theorem wp_exit {o : Oper} {a : Act} {w : World} {K K' : Act → World → Prop} (h : o.wp P a w K (Exit.then K' Q)) : o.wp P a w K Q := by
  unfold Oper.wp at *
  generalize (execOp a.eval o).run P w = r at *
  cases r with
  | ok n w' =>
    cases n <;> simp only [Oper.upon] at h ⊢
    case enter f args => exact Calls.mono h fun e w'' he => by cases e <;> exact he
    all_goals exact h
  | halt x w' =>
    cases x <;> simp only [Oper.upon] at h ⊢
    all_goals exact h
theorem wpList_one {o : Oper} {a : Act} {w : World} {K : Act → World → Prop} {i : Nat} (ho : ops[i]? = some o) (h : wpList P ops (Exit.then K Q) [o] a w) : wpOp P ops Q i K a w := by
  unfold wpOp
  simp only [ho]
  simp only [wpList] at h
  by_cases hw : Region.wanted o (yielded ops a.tmps) = true
  · rw [if_pos hw] at h ⊢
    rcases h with h | ⟨h1, h2⟩
    · exact .inl (wp_exit h)
    · exact .inr ⟨h1, h2⟩
  · rw [if_neg hw] at h ⊢
    exact h
theorem wpAnyH_sched (hs : Region.noSelect ops = true) (hQ : ∀ c (a : Act) d v w, Q (.panic c) (a.put d v) w → Q (.panic c) a w) :
    ∀ (l : List (Nat × Bool)) (fuel : Nat) (listed : Array Bool) (a : Act) (w : World), l.length ≤ fuel → schedB ops l listed = true → C w → wpSched P ops Q C (schedOps ops l) a w → wpAnyH P .any ops Q C fuel listed a w
  | [], fuel, listed, a, w, _, hB, _, h => wpAnyH_done (by simpa [schedB] using hB) h fuel
  | (i, t) :: rest, 0, _, _, _, hf, _, _, _ => absurd hf (by simp)
  | (i, true) :: rest, fuel + 1, listed, a, w, hf, hB, hC, h => by
    simp only [schedB, Bool.and_eq_true] at hB
    obtain ⟨⟨⟨hp, hr⟩, hfr⟩, hB'⟩ := hB
    cases ho : ops[i]? with
    | none => simp [ho] at hp
    | some o =>
      have hp' : plainOp o.op = true := by simpa [ho] using hp
      have hso : schedOps ops ((i, true) :: rest) = (o, true) :: schedOps ops rest := by simp [schedOps, ho]
      rw [hso] at h
      simp only [wpSched] at h
      by_cases hw : Region.wanted o (yielded ops a.tmps) = true
      · rw [if_pos hw] at h
        obtain ⟨v, hv, hn⟩ := h
        exact wpAnyH_take ho hs hfr hr (fun c a w => hQ c a _ _ w) (yieldsIf_of_quiet hp' hw hv) hC (wpAnyH_sched hs hQ rest fuel _ _ _ (by simpa using hf) hB' hC hn)
      · rw [if_neg hw] at h
        exact wpAnyH_take (v := undef) ho hs hfr hr (fun c a w => hQ c a _ _ w) (.inr ⟨by simpa using hw, rfl⟩) hC (wpAnyH_sched hs hQ rest fuel _ _ _ (by simpa using hf) hB' hC h)
  | (i, false) :: rest, fuel + 1, listed, a, w, hf, hB, hC, h => by
    simp only [schedB, Bool.and_eq_true] at hB
    obtain ⟨hr, hB'⟩ := hB
    have hr' : Region.ready .any ops listed = [i] := by simpa using hr
    refine wpAnyH_all hr' (by simp) ?_
    intro j hj
    obtain rfl : j = i := by simpa using hj
    cases ho : ops[j]? with
    | none =>
      have hm : j ∈ Region.ready .any ops listed := by rw [hr']; simp
      obtain ⟨_, oj, hoj, _⟩ := mem_ready.1 hm
      rw [ho] at hoj; cases hoj
    | some o =>
      have hso : schedOps ops ((j, false) :: rest) = (o, false) :: schedOps ops rest := by simp [schedOps, ho]
      rw [hso] at h
      simp only [wpSched] at h
      exact wpOp_mono (fun a' w' hh => ⟨hh.1, wpAnyH_sched hs hQ rest fuel _ _ _ (by simpa using hf) hB' hh.1 hh.2⟩) (wpList_one ho h)
/-- A block of plain operations, by the quiet walk. -/
theorem wpSched_quiet {rest : List (Oper × Bool)} {w : World} : ∀ (l1 : List Oper) (a : Act), wpQuiet P ops C (fun a' => wpSched P ops Q C rest a' w) l1 a → wpSched P ops Q C (l1.map (fun o => (o, true)) ++ rest) a w
  | [], _, h => h
  | o :: l1, a, h => by
    simp only [List.map_cons, List.cons_append, wpSched, wpQuiet] at h ⊢
    by_cases hw : Region.wanted o (yielded ops a.tmps) = true
    · rw [if_pos hw] at h ⊢
      obtain ⟨v, hv, hn⟩ := h
      exact ⟨v, hv, wpSched_quiet l1 _ hn⟩
    · rw [if_neg hw] at h ⊢
      exact wpSched_quiet l1 _ h
theorem wpSched_run {o : Oper} {rest : List (Oper × Bool)} {a : Act} {w : World} (h : wpList P ops (Exit.then (fun a' w' => C w' ∧ wpSched P ops Q C rest a' w') Q) [o] a w) : wpSched P ops Q C ((o, false) :: rest) a w := h
theorem wpSched_end {a : Act} {w : World} (h : Q .normal a w) : wpSched P ops Q C [] a w := h
theorem wp_region_sched {id : Nat} {a : Act} {w : World} (l : List (Nat × Bool)) (hm : P.follows .mixedOrders = true) (hs : Region.noSelect ops = true) (hl : decide (l.length ≤ ops.size) = true) (hB : schedB ops l (Array.replicate ops.size false) = true)
    (hQ : ∀ c (a : Act) d v w, Q (.panic c) (a.put d v) w → Q (.panic c) a w) (hC : C w.drew) (h : wpSched P ops Q C (schedOps ops l) a w.drew) : (Code.region id ops true).wp P Q a w :=
  wp_region_held (S := C) hm (wpAnyH_sched hs hQ l _ _ _ _ (of_decide_eq_true hl) hB hC h)
/-- The operations of these numbers. -/
def pickOps (ops : Array Oper) (l : List Nat) : List Oper := l.filterMap fun i => ops[i]?
/-- A schedule in blocks: plain operations, then one that comes up alone; at the end plain operations. -/
def blocks : List (List Nat × Nat) → List Nat → List (Nat × Bool)
  | [], tail => tail.map fun i => (i, true)
  | (l1, s) :: bs, tail => (l1.map fun i => (i, true)) ++ (s, false) :: blocks bs tail
def wpBlocks (P : Program) (ops : Array Oper) (Q : Exit → Act → World → Prop) (C : World → Prop) : List (List Nat × Nat) → List Nat → Act → World → Prop
  | [], tail, a, w => wpQuiet P ops C (fun a' => Q .normal a' w) (pickOps ops tail) a
  | (l1, s) :: bs, tail, a, w => wpQuiet P ops C (fun a' => wpList P ops (Exit.then (fun a2 w2 => C w2 ∧ wpBlocks P ops Q C bs tail a2 w2) Q) (pickOps ops [s]) a' w) (pickOps ops l1) a
theorem schedOps_append (l l' : List (Nat × Bool)) : schedOps ops (l ++ l') = schedOps ops l ++ schedOps ops l' := by simp [schedOps]
theorem schedOps_plain (l : List Nat) : schedOps ops (l.map fun i => (i, true)) = (pickOps ops l).map fun o => (o, true) := by
  induction l with
  | nil => rfl
  | cons i l ih =>
    simp only [schedOps, pickOps] at ih ⊢
    cases ho : ops[i]? <;> simp [ho, ih]
theorem wpQuiet_mono {Q1 Q2 : Act → Prop} (hq : ∀ a, Q1 a → Q2 a) : ∀ (l : List Oper) (a : Act), wpQuiet P ops C Q1 l a → wpQuiet P ops C Q2 l a
  | [], _, h => hq _ h
  | o :: l, a, h => by
    simp only [wpQuiet] at h ⊢
    by_cases hw : Region.wanted o (yielded ops a.tmps) = true
    · rw [if_pos hw] at h ⊢
      obtain ⟨v, hv, hn⟩ := h
      exact ⟨v, hv, wpQuiet_mono hq l _ hn⟩
    · rw [if_neg hw] at h ⊢
      exact wpQuiet_mono hq l _ h
theorem wp_mono2 {o : Oper} {a : Act} {w : World} {K K' : Act → World → Prop} {Q Q' : Exit → Act → World → Prop} (hk : ∀ a w, K a w → K' a w) (hq : ∀ e a w, Q e a w → Q' e a w) (h : o.wp P a w K Q) : o.wp P a w K' Q' := by
  unfold Oper.wp at *
  generalize (execOp a.eval o).run P w = r at *
  cases r with
  | ok n w' =>
    cases n <;> simp only [Oper.upon] at h ⊢
    case enter f args =>
      refine Calls.mono h fun e w'' he => ?_
      cases e with
      | returned v => exact hk _ _ he
      | panicked c => exact hq _ _ _ he
      | outgrown => obtain ⟨a2, w2, h2⟩ := he; exact ⟨a2, w2, hq _ _ _ h2⟩
    case row r args => exact Rows.mono h fun u w'' he => hk _ _ he
    all_goals exact hk _ _ h
  | halt x w' =>
    cases x <;> simp only [Oper.upon] at h ⊢
    all_goals exact hq _ _ _ h
theorem wpList_mono {Q Q' : Exit → Act → World → Prop} (hq : ∀ e a w, Q e a w → Q' e a w) : ∀ {l : List Oper} {a : Act} {w : World}, wpList P ops Q l a w → wpList P ops Q' l a w
  | [], _, _, h => hq _ _ _ h
  | o :: l, a, w, h => by
    simp only [wpList] at h ⊢
    by_cases hw : Region.wanted o (yielded ops a.tmps) = true
    · rw [if_pos hw] at h ⊢
      rcases h with h | ⟨h1, a2, w2, h2⟩
      · exact .inl (wp_mono2 (fun a w h' => wpList_mono hq h') hq h)
      · exact .inr ⟨h1, a2, w2, hq _ _ _ h2⟩
    · rw [if_neg hw] at h ⊢
      exact wpList_mono hq h
theorem wpSched_blocks {Q : Exit → Act → World → Prop} : ∀ (bs : List (List Nat × Nat)) (tail : List Nat), (∀ b ∈ bs, b.2 < ops.size) → ∀ (a : Act) (w : World), wpBlocks P ops Q C bs tail a w → wpSched P ops Q C (schedOps ops (blocks bs tail)) a w
  | [], tail, _, a, w, h => by
    simp only [blocks, schedOps_plain]
    have := wpSched_quiet (Q := Q) (rest := []) (w := w) (pickOps ops tail) a h
    simpa using this
  | (l1, s) :: bs, tail, hb, a, w, h => by
    have hs : s < ops.size := hb (l1, s) (by simp)
    have ho : ops[s]? = some ops[s] := by simp [hs]
    have hso : schedOps ops ((s, false) :: blocks bs tail) = (ops[s], false) :: schedOps ops (blocks bs tail) := by simp [schedOps, ho]
    have hps : pickOps ops [s] = [ops[s]] := by simp [pickOps, ho]
    simp only [blocks, schedOps_append, schedOps_plain, hso]
    refine wpSched_quiet (pickOps ops l1) a (wpQuiet_mono (fun a' h' => ?_) _ _ h)
    rw [hps] at h'
    refine wpSched_run ?_
    have hm : ∀ e a2 w2, Exit.then (fun a2 w2 => C w2 ∧ wpBlocks P ops Q C bs tail a2 w2) Q e a2 w2 → Exit.then (fun a2 w2 => C w2 ∧ wpSched P ops Q C (schedOps ops (blocks bs tail)) a2 w2) Q e a2 w2 := by
      intro e a2 w2 hh
      cases e with
      | normal => exact ⟨hh.1, wpSched_blocks bs tail (fun b hbm => hb b (by simp [hbm])) a2 w2 hh.2⟩
      | _ => exact hh
    exact wpList_mono hm h'
theorem wp_region_blocks {id : Nat} {a : Act} {w : World} (bs : List (List Nat × Nat)) (tail : List Nat) (hm : P.follows .mixedOrders = true) (hs : Region.noSelect ops = true)
    (hB : (decide ((blocks bs tail).length ≤ ops.size) && bs.all (fun b => decide (b.2 < ops.size)) && schedB ops (blocks bs tail) (Array.replicate ops.size false)) = true)
    (h : wpBlocks P ops (NoPanic Q) (fun w1 => ∃ x : ExtW w, w1 = x.w') bs tail a w.drew) : (Code.region id ops true).wp P Q a w := by
  simp only [Bool.and_eq_true, List.all_eq_true] at hB
  obtain ⟨⟨h1, h2⟩, h3⟩ := hB
  refine wp_region_noPanic ?_
  exact wp_region_sched (C := fun w1 => ∃ x : ExtW w, w1 = x.w') (blocks bs tail) hm hs h1 h3 (fun _ _ _ _ _ h => h) ⟨⟨_, (Ext.refl w).drew⟩, rfl⟩ (wpSched_blocks bs tail (fun b hb => of_decide_eq_true (h2 b hb)) a w.drew h)
end
end
section
open Go.ChangeShapes Go.WideShapes Go.ChangeAt Go.RowKit Go.Deep
def at1 (g : Nat) : Nat → Prop := fun b => b = g
theorem Chg.up {g : Nat} {S : Nat → Prop} {a b c : World} (h : Chg (at1 g) a b) (k : Chg S b c) (hs : ∀ i, S i → i = g ∨ a.heap.size ≤ i) : Chg (at1 g) a c :=
  ⟨k.os.trans h.os, k.tape.trans h.tape, k.output.trans h.output, Nat.le_trans h.size k.size, fun i hi hn =>
    (k.block i (Nat.lt_of_lt_of_le hi h.size) (fun hk => by rcases hs i hk with e | e; exact hn e; omega)).trans (h.block i hi hn)⟩
theorem Chg.ext {g : Nat} {a b c : World} (h : Chg (at1 g) a b) (k : Ext b c) : Chg (at1 g) a c := h.trans (Chg.ofExt k)
theorem Chg.blkS {S : Nat → Prop} {a b : World} (h : Chg S a b) {k : Nat} {o : Obj} (hb : a.heap[k]? = some o) (hn : ¬ S k) : b.heap[k]? = some o :=
  (h.block k (blk_lt hb) hn).trans hb
theorem Chg.cell {S : Nat → Prop} {a b : World} (h : Chg S a b) {p : Addr} {v : Value} (hc : a.cell? p = some v) (hn : ¬ S p.block) : b.cell? p = some v :=
  (World.cell?_of_block (w := a) (h.block p.block (World.block_lt_of_cell? a p hc) hn)).trans hc
/-- From outside: a call whose cursor is its own. -/
theorem Ext.ofCur {a b c : World} {g : Nat} (h : Ext a b) (k : Chg (at1 g) b c) (hg : a.heap.size ≤ g) : Ext a c := h.chg k (fun i hi => by have h1 : i = g := hi; omega)
/-- What reads the same whatever becomes of block g. -/
def St {α : Type} (g : Nat) (r : Rep α) (w : World) (v : Value) (l : List α) : Prop := ∀ w', Chg (at1 g) w w' → RdS r w' v l
theorem St.rd {α : Type} {g : Nat} {r : Rep α} {w : World} {v : Value} {l : List α} (h : St g r w v l) : RdS r w v l := h w (Chg.refl _ _)
theorem St.step {α : Type} {g : Nat} {r : Rep α} {w w' : World} {v : Value} {l : List α} (h : St g r w v l) (c : Chg (at1 g) w w') : St g r w' v l := fun w2 c2 => h w2 (c.trans c2)
theorem St.ext {α : Type} {g : Nat} {r : Rep α} {w w' : World} {v : Value} {l : List α} (h : St g r w v l) (c : Ext w w') : St g r w' v l := h.step (Chg.ofExt c)
theorem St.ofOwn {α : Type} {O : Own α} {g : Nat} {S : Nat → Prop} {w : World} {v : Value} {l : List α} (h : O.own S w v l) (hg : ∀ b, S b → b ≠ g) : St g O.rep w v l := fun _ c => O.rd (O.kept h c (fun b hb e => hg b hb e))
theorem St.ofF {α : Type} {n : Nat} {f : α → List Value} {hf : ∀ a, (f a).length = n} {g base : Nat} {e : TypeId} {w : World} {v : Value} {l : List α} (h : OwnF f n base e w v l) (hg : g < base) : St g (Rep.flat n f hf) w v l :=
  fun _ c => OwnF.rd (h.chg c (fun k hk e => by have h1 := (h.block k hk).1; have h2 : k = g := e; omega))
theorem St.nil {α : Type} (g : Nat) (r : Rep α) (w : World) : St g r w (.slice none 0 0) [] := fun _ _ => RdS.nil _ _
/-- A world that differs from w at block g alone, or has more blocks. -/
structure ChgW (g : Nat) (w : World) where
  w' : World
  h : Chg (at1 g) w w'
instance (g : Nat) (w : World) : Nonempty (ChgW g w) := ⟨⟨w, Chg.refl _ w⟩⟩
theorem ChgW.cell {g : Nat} {w : World} {p : Addr} {v : Value} (h : w.cell? p = some v) (hn : p.block ≠ g) : ∀ x : ChgW g w, x.w'.cell? p = some v := fun x => x.h.cell h hn
theorem ChgW.out {g : Nat} {w w1 : World} (h : ∃ x : ChgW g w, w1 = x.w') : Chg (at1 g) w w1 := by obtain ⟨y, rfl⟩ := h; exact y.h
section
variable {P : Program} {ops : Array Oper} {Q : Exit → Act → World → Prop}
theorem wp_region_draws {id : Nat} {a : Act} {w : World} (g : Nat) (bs : List (List Nat × Nat)) (tail : List Nat) (hm : P.follows .mixedOrders = true) (hs : Region.noSelect ops = true)
    (hB : (decide ((blocks bs tail).length ≤ ops.size) && bs.all (fun b => decide (b.2 < ops.size)) && schedB ops (blocks bs tail) (Array.replicate ops.size false)) = true)
    (h : wpBlocks P ops (NoPanic Q) (fun w1 => ∃ x : ChgW g w, w1 = x.w') bs tail a w.drew) : (Code.region id ops true).wp P Q a w := by
  simp only [Bool.and_eq_true, List.all_eq_true] at hB
  obtain ⟨⟨h1, h2⟩, h3⟩ := hB
  refine wp_region_noPanic ?_
  exact wp_region_sched (C := fun w1 => ∃ x : ChgW g w, w1 = x.w') (blocks bs tail) hm hs h1 h3 (fun _ _ _ _ _ h => h) ⟨⟨_, Chg.ofExt (Ext.refl w).drew⟩, rfl⟩ (wpSched_blocks bs tail (fun b hb => of_decide_eq_true (h2 b hb)) a w.drew h)
end
/-- A world that differs from w at blocks of S alone, or has more blocks. -/
structure ChgSW (S : Nat → Prop) (w : World) where
  w' : World
  h : Chg S w w'
instance (S : Nat → Prop) (w : World) : Nonempty (ChgSW S w) := ⟨⟨w, Chg.refl _ w⟩⟩
theorem ChgSW.cell {S : Nat → Prop} {w : World} {p : Addr} {v : Value} (h : w.cell? p = some v) (hn : ¬ S p.block) : ∀ x : ChgSW S w, x.w'.cell? p = some v := fun x => x.h.cell h hn
section
variable {P : Program} {ops : Array Oper} {Q : Exit → Act → World → Prop}
theorem wp_region_set {id : Nat} {a : Act} {w : World} (S : Nat → Prop) (bs : List (List Nat × Nat)) (tail : List Nat) (hm : P.follows .mixedOrders = true) (hs : Region.noSelect ops = true)
    (hB : (decide ((blocks bs tail).length ≤ ops.size) && bs.all (fun b => decide (b.2 < ops.size)) && schedB ops (blocks bs tail) (Array.replicate ops.size false)) = true)
    (h : wpBlocks P ops (NoPanic Q) (fun w1 => ∃ x : ChgSW S w, w1 = x.w') bs tail a w.drew) : (Code.region id ops true).wp P Q a w := by
  simp only [Bool.and_eq_true, List.all_eq_true] at hB
  obtain ⟨⟨h1, h2⟩, h3⟩ := hB
  refine wp_region_noPanic ?_
  exact wp_region_sched (C := fun w1 => ∃ x : ChgSW S w, w1 = x.w') (blocks bs tail) hm hs h1 h3 (fun _ _ _ _ _ h => h) ⟨⟨_, Chg.ofExt (Ext.refl w).drew⟩, rfl⟩ (wpSched_blocks bs tail (fun b hb => of_decide_eq_true (h2 b hb)) a w.drew h)
end
theorem and255 (x : Int) : 0 ≤ IntKind.wrap .i64 ((BitVec.ofInt 64 x &&& BitVec.ofInt 64 255).toNat : Int) ∧ IntKind.wrap .i64 ((BitVec.ofInt 64 x &&& BitVec.ofInt 64 255).toNat : Int) ≤ 255 := by
  have h1 : (BitVec.ofInt 64 x &&& BitVec.ofInt 64 255).toNat ≤ 255 := by
    rw [BitVec.toNat_and]
    exact Nat.le_trans Nat.and_le_right (by decide)
  generalize (BitVec.ofInt 64 x &&& BitVec.ofInt 64 255).toNat = n at *
  have : IntKind.wrap .i64 (n : Int) = n := by
    unfold IntKind.wrap
    simp [IntKind.bits, IntKind.signed]
    omega
  omega
/-- A cursor at block g over the bytes v. -/
def Cur (g : Nat) (v : Value) (code : List Int) (w : World) : Prop :=
  (∃ i h : Int, w.heap[g]? = some (.cells #[v, .int .i64 i, .int .i64 h] 136) ∧ 0 ≤ i ∧ i ≤ code.length) ∧ St g Rep.byte w v code ∧ ∀ x ∈ code, U8 x
theorem Cur.ext {g : Nat} {v : Value} {code : List Int} {w w' : World} (h : Cur g v code w) (c : Ext w w') : Cur g v code w' := by
  obtain ⟨⟨i, hh, hb, r⟩, hs, hu⟩ := h
  exact ⟨⟨i, hh, c.block hb, r⟩, hs.ext c, hu⟩
theorem Cur.lt {g : Nat} {v : Value} {code : List Int} {w : World} (h : Cur g v code w) : g < w.heap.size := by
  obtain ⟨⟨i, hh, hb, r⟩, hs, hu⟩ := h
  exact blk_lt hb
/-- Blocks of the call's own were written. -/
theorem Cur.kept {g : Nat} {v : Value} {code : List Int} {w0 w w' : World} {S : Nat → Prop} (h0 : Cur g v code w0) (h : Cur g v code w) (c : Chg S w w') (hn : ¬ S g) (cx : Chg (at1 g) w0 w') : Cur g v code w' := by
  obtain ⟨⟨i, hh, hb, r⟩, hs, hu⟩ := h
  exact ⟨⟨i, hh, c.blkS hb hn, r⟩, h0.2.1.step cx, hu⟩
end
section
open Go.ChangeShapes Go.WideShapes Go.ChangeAt Go.RowKit Go.Deep
theorem ExtW.outD {w w1 : World} (h : ∃ x : ExtW w, w1 = x.w') : Ext w w1 := by obtain ⟨y, rfl⟩ := h; exact y.h
theorem Chg.setC {S : Nat → Prop} {a b : World} (h : Chg S a b) {p : Addr} (hp : S p.block) (u : Value) : Chg S a (b.setCell p u) :=
 h.trans ⟨rfl, rfl, rfl, by simp, fun k _ hn => Below.heap_setCell _ _ _ _ (fun e => hn (by rw [e]; exact hp))⟩
theorem OwnF.at1 {α : Type} {n : Nat} {f : α → List Value} {base g : Nat} {e : TypeId} {w w' : World} {v : Value} {l : List α} (h : OwnF f n base e w v l) (c : Chg (at1 g) w w') (hg : g < base) : OwnF f n base e w' v l :=
 h.chg c (fun k hk e => by have h1 := (h.block k hk).1; have h2 : k = g := e; omega)
theorem Chg.app {α : Type} {f : α → List Value} {n base g : Nat} {e : TypeId} {v : Value} {l : List α} {a b b' c : World} (h : Chg (at1 g) a b) (hg : b.grownBy c v.ownBlock) (ho : OwnF f n base e b' v l) (hb : a.heap.size ≤ base) : Chg (at1 g) a c :=
 h.up (Chg.ofGrown (S := fun k => v.ownBlock = some k) hg (fun _ h => h)) (fun k hk => .inr (Nat.le_trans hb (ho.block k hk).1))
theorem Cur.app {α : Type} {f : α → List Value} {n base g : Nat} {e : TypeId} {v cv : Value} {cd : List Int} {l : List α} {a b b' c : World} (h0 : Cur g cv cd a) (h : Cur g cv cd b) (hg : b.grownBy c v.ownBlock) (ho : OwnF f n base e b' v l) (hb : a.heap.size ≤ base) (cx : Chg (at1 g) a b) : Cur g cv cd c :=
 h0.kept h (Chg.ofGrown (S := fun k => v.ownBlock = some k) hg (fun _ h => h)) (fun hk => by have h1 := (ho.block g hk).1; have h2 := h0.lt; omega) (Chg.app cx hg ho hb)
set_option maxHeartbeats 400000 in
theorem l_big (code : List Int) (v : Value) (w : World) (hr : RdS Rep.byte w v code) :
  Calls Try.prog 13 #[v] w fun e w' => e = .returned (.bool (decide (1048576 < code.length))) ∧ w = w' := by
 obtain ⟨o, cap, rfl, hsm⟩ := hr.shape
 go_enter Try.func13, Try.ntmps13
 by_cases hb : 1048576 < code.length
 ·
  have h1 : decide (1048576 < (code.length : Int)) = true := by simp; omega
  have h2 : decide (1048576 < code.length) = true := by simpa using hb
  have H2 := Lib.hid h2; clear h2 hb
  go_wp2
  go_ret
  exact ⟨ret_bool H2.out.symm, rfl⟩
 ·
  have h1 : decide (1048576 < (code.length : Int)) = false := by simp; omega
  have h2 : decide (1048576 < code.length) = false := by simpa using hb
  have H2 := Lib.hid h2; clear h2 hb
  go_wp2
  go_ret
  exact ⟨ret_bool H2.out.symm, rfl⟩
set_option maxHeartbeats 400000 in
theorem l_at (code : List Int) (v : Value) (i : Int) (w : World) (hr : RdS Rep.byte w v code) (hu : ∀ x ∈ code, U8 x) (h0 : 0 ≤ i) (h1 : i ≤ 1048576) (hl : code.length ≤ 1048576) :
  Calls Try.prog 19 #[v, .int .i64 i] w fun e w' => ∃ r : Int, e = .returned (.int .i64 r) ∧ 0 ≤ r ∧ r ≤ 255 ∧ w = w' := by
 obtain ⟨o, cap, rfl, hsm⟩ := hr.shape
 obtain ⟨k, rfl⟩ := Int.eq_ofNat_of_zero_le h0
 go_enter Try.func19, Try.ntmps19
 by_cases hlt : k < code.length
 ·
  obtain ⟨b, off, rfl, hcell⟩ := bytes_at hr k hlt
  obtain ⟨hu0, hu1⟩ := hu code[k] (List.getElem_mem _)
  go_wp2
  go_ret
  exact ⟨_, rfl, by omega, by omega, rfl⟩
 ·
  go_wp2
  go_ret
  exact ⟨_, rfl, by omega, by omega, rfl⟩
set_option maxRecDepth 100000 in
set_option maxHeartbeats 2000000 in
theorem s_l1New (code : List Int) (v : Value) (w : World) (hr : RdS Rep.byte w v code) (hu : ∀ x ∈ code, U8 x) (hl : code.length ≤ 1048576) :
  Calls Try.prog 43 #[v] w fun e w' => ∃ g : Nat, e = .returned (.pointer (some ⟨g, 0, none⟩)) ∧ w.heap.size ≤ g ∧ Cur g v code w' ∧ Ext w w' := by
 obtain ⟨o, cap, rfl, hsm⟩ := hr.shape
 go_enter Try.func43, Try.ntmps43
 go_wp2
 go_loopg [3, 4] code.length (fun gk h i wr => ∃ (k : Nat) (hh : Int), gk + k = code.length ∧ i = .int .i64 k ∧ h = .int .i64 hh ∧ w = wr)
 case atStart => exact ⟨0, _, rfl, rfl, rfl, rfl⟩
 case round =>
  obtain ⟨k, hh, hgk, rfl, rfl, rfl⟩ := hrel
  by_cases hlt : k < code.length
  ·
   obtain ⟨b, off, rfl, hcell⟩ := bytes_at hr k hlt
   have hg0 : gk - 1 + (k + 1) = code.length ∧ gk - 1 < gk := by omega
   have HG := Lib.hid hg0; clear hg0 hgk
   by_cases h4 : k < 4000
   ·
    go_wp2_with fail
    go_roundg (gk - 1)
    case measure => exact HG.out.2
    case rel => exact ⟨k + 1, _, HG.out.1, by go_num, rfl, rfl⟩
   ·
    go_wp2_with fail
    go_ret
    refine ⟨w.heap.size, rfl, Nat.le_refl _, ⟨⟨0, hh, blk_new _ _, by omega, by omega⟩, fun w2 c2 => ?_, hu⟩, (Ext.refl _).alloc _⟩
    exact hr.ext (((Ext.refl w).alloc _).ofCur c2 (Nat.le_refl _))
  ·
   go_wp2_with fail
   go_ret
   refine ⟨w.heap.size, rfl, Nat.le_refl _, ⟨⟨0, hh, blk_new _ _, by omega, by omega⟩, fun w2 c2 => ?_, hu⟩, (Ext.refl _).alloc _⟩
   exact hr.ext (((Ext.refl w).alloc _).ofCur c2 (Nat.le_refl _))
set_option maxRecDepth 100000 in
set_option maxHeartbeats 2000000 in
theorem s_l1Byte (g : Nat) (v : Value) (code : List Int) (w : World) (hc : Cur g v code w) :
  Calls Try.prog 110 #[.pointer (some ⟨g, 0, none⟩)] w fun e w' => ∃ r : Int, e = .returned (.int .i64 r) ∧ 0 ≤ r ∧ r ≤ 255 ∧ Cur g v code w' ∧ Chg (at1 g) w w' := by
 have hcur := hc
 obtain ⟨⟨i, h, hb, hi0, hi1⟩, hs, hu⟩ := hc
 obtain ⟨o, cap, rfl, hsm⟩ := hs.rd.shape
 have HB := Lib.hid hb; clear hb
 have c1 := blk3 HB.out
 have f2 := fr_of HB.out 2
 go_enter Try.func110, Try.ntmps110
 go_upto_region 1 with (fail)
 go_cut [] (fun wx => ∃ H : Int, wx.heap[g]? = some (.cells #[.slice o code.length cap, .int .i64 i, .int .i64 H] 136) ∧ Chg (at1 g) w wx)
 case first =>
  go_wp2_with fail
  go_meet
  exact ⟨_, by simpa using blk_set HB.out 2 _, Chg.setC (S := at1 g) (Chg.refl _ _) (by exact rfl) _⟩
 case rest =>
 clear c1 f2
 obtain ⟨H, hb1, hx1⟩ := hcut
 obtain ⟨w1, hw1⟩ : ∃ wA : World, wA = wc := ⟨_, rfl⟩
 subst hw1
 have HB1 := Lib.hid hb1; clear hb1
 have c1 := blk3 HB1.out
 go_upto_region 2 with (fail)
 go_cut [3] (fun v3 wx => ∃ r : Int, v3 = .int .i64 r ∧ 0 ≤ r ∧ r ≤ 255 ∧ Ext w1 wx)
 case first =>
  refine wp_region_ext (by kernel_rfl) (by kernel_rfl) ?_
  have q2 := ExtW.cell c1.2.2
  repeat (first | go_big_quiet_step (fail) | quiet_step (fail))
  refine wpQuiet_nil ?_
  intro w3 hw3
  have hz3 := ExtW.outD hw3
  clear hw3 q2
  go_wp2_with fail
  go_meet
  exact ⟨_, rfl, (and255 _).1, (and255 _).2, hz3⟩
 case rest =>
 obtain ⟨r, rfl, hr0, hr1, hx2⟩ := hcut
 obtain ⟨w2, hw2⟩ : ∃ wA : World, wA = wc := ⟨_, rfl⟩
 subst hw2
 clear c1
 have HB2 := Lib.hid (hx2.block HB1.out)
 have c2 := blk3 HB2.out
 by_cases hlt : i < code.length
 ·
  obtain ⟨k, rfl⟩ : ∃ k : Nat, i = k := ⟨i.toNat, by omega⟩
  have hkl : k < code.length := by omega
  have hrd2 := (hs.step (hx1.ext hx2)).rd
  obtain ⟨b, off, rfl, hcell⟩ := bytes_at hrd2 k hkl
  obtain ⟨hu0, hu1⟩ := hu code[k] (List.getElem_mem _)
  have f1 := fr_of HB2.out 1
  go_wp2_with fail
  refine wp_region_ext (by kernel_rfl) (by kernel_rfl) ?_
  have q0 := ExtW.cell (c2.1)
  have q1 := ExtW.cell (c2.2.1)
  repeat (first | go_big_quiet_step (fail) | quiet_step (fail))
  refine wpQuiet_nil ?_
  intro w4 hw4
  have hz4 := ExtW.outD hw4
  clear hw4 q0 q1
  have c4 := blk3 (hz4.block HB2.out)
  have hcell4 := hz4.cell hcell
  clear c2 hcell
  go_upto_region 4 with (fail)
  go_cut [3] (fun v3 wx => ∃ r : Int, v3 = .int .i64 r ∧ 0 ≤ r ∧ r ≤ 255 ∧ Ext w4 wx)
  case first =>
   refine wp_region_ext (by kernel_rfl) (by kernel_rfl) ?_
   have q0 := ExtW.cell (c4.1)
   have q1 := ExtW.cell (c4.2.1)
   have q2 := ExtW.cell (hcell4)
   repeat (first | go_big_quiet_step (fail) | quiet_step (fail))
   refine wpQuiet_nil ?_
   intro w5 hw5
   have hz5 := ExtW.outD hw5
   clear hw5 q0 q1 q2
   go_wp2_with fail
   go_meet
   exact ⟨_, rfl, (and255 _).1, (and255 _).2, hz5⟩
  case rest =>
  obtain ⟨r2, rfl, hr2, hr3, hx5⟩ := hcut
  obtain ⟨w5, hw5⟩ : ∃ wA : World, wA = wc := ⟨_, rfl⟩
  subst hw5
  clear c4 hcell4 hr0 hr1
  have HB5 := Lib.hid ((hz4.trans hx5).block HB2.out)
  have c5 := blk3 HB5.out
  have f5 := fr_of HB5.out 1
  have hxx : Chg (at1 g) w w5 := hx1.ext (hx2.trans (hz4.trans hx5))
  go_wp2_with fail
  go_ret
  refine ⟨r2, rfl, hr2, hr3, ⟨⟨(k : Int) + 1, H, by simpa using blk_set HB5.out 1 _, by omega, by omega⟩, hs.step (Chg.setC (S := at1 g) hxx (by exact rfl) _), hu⟩, Chg.setC (S := at1 g) hxx (by exact rfl) _⟩
 ·
  go_wp2_with fail
  refine wp_region_ext (by kernel_rfl) (by kernel_rfl) ?_
  have q0 := ExtW.cell (c2.1)
  have q1 := ExtW.cell (c2.2.1)
  repeat (first | go_big_quiet_step (fail) | quiet_step (fail))
  refine wpQuiet_nil ?_
  intro w4 hw4
  have hz4 := ExtW.outD hw4
  clear hw4 q0 q1
  have hxx : Chg (at1 g) w w4 := hx1.ext (hx2.trans hz4)
  have HB5 := Lib.hid (hz4.block HB2.out)
  clear c2
  go_wp2_with fail
  go_ret
  exact ⟨r, rfl, hr0, hr1, ⟨⟨i, H, HB5.out, hi0, hi1⟩, hs.step hxx, hu⟩, hxx⟩
set_option maxRecDepth 100000 in
set_option maxHeartbeats 2000000 in
theorem s_l1Below (g : Nat) (n : Int) (v : Value) (code : List Int) (w : World) (hc : Cur g v code w) :
  Calls Try.prog 85 #[.pointer (some ⟨g, 0, none⟩), .int .i64 n] w fun e w' => ∃ r : Int, e = .returned (.int .i64 r) ∧ 0 ≤ r ∧ (r < n ∨ r = 0) ∧ Cur g v code w' ∧ Chg (at1 g) w w' := by
 by_cases h0 : n ≤ 0
 ·
  go_enter Try.func85, Try.ntmps85
  go_wp2_with fail
  go_ret
  exact ⟨0, rfl, Int.le_refl _, .inr rfl, hc, Chg.refl _ _⟩
 ·
  go_enter Try.func85, Try.ntmps85
  by_cases h1 : n ≤ 256
  ·
   go_wp2_with fail
   refine (s_l1Byte g v code _ hc).mono ?_
   rintro e w1 ⟨x, rfl, hx0, hx1, hc1, hz1⟩
   go_wp2_with fail
   go_ret
   have hp : 0 < n := by omega
   have hm1 := Int.emod_nonneg x (show n ≠ 0 by omega)
   have hm2 := Int.emod_lt_of_pos x hp
   exact ⟨_, rfl, by first | exact hm1 | omega, .inl (by first | exact hm2 | omega), hc1, hz1⟩
  ·
   go_wp2_with fail
   refine (s_l1Byte g v code _ hc).mono ?_
   rintro e w1 ⟨x, rfl, hx0, hx1, hc1, hz1⟩
   go_wp2_with fail
   refine (s_l1Byte g v code _ hc1).mono ?_
   rintro e w2 ⟨y, rfl, hy0, hy1, hc2, hz2⟩
   go_wp2_with fail
   refine (s_l1Byte g v code _ hc2).mono ?_
   rintro e w3 ⟨z, rfl, hu0, hu1, hc3, hz3⟩
   have hp : 0 < n := by omega
   have hm1 := Int.emod_nonneg (x * 65536 + y * 256 + z) (show n ≠ 0 by omega)
   have hm2 := Int.emod_lt_of_pos (x * 65536 + y * 256 + z) hp
   have HM := Lib.hid (And.intro hm1 hm2); clear hm1 hm2
   go_wp2_with fail
   go_ret
   exact ⟨_, rfl, HM.out.1, .inl HM.out.2, hc3, (hz1.trans hz2).trans hz3⟩
set_option maxHeartbeats 1000000 in
theorem s_l1Once (g : Nat) (n : Int) (v : Value) (code : List Int) (w : World) (hc : Cur g v code w) :
  Calls Try.prog 45 #[.pointer (some ⟨g, 0, none⟩), .int .i64 n] w fun e w' => ∃ b : Bool, e = .returned (.bool b) ∧ Cur g v code w' ∧ Chg (at1 g) w w' := by
 go_enter Try.func45, Try.ntmps45
 go_wp2_with fail
 refine (s_l1Below g n v code _ hc).mono ?_
 rintro e w1 ⟨x, rfl, hx0, hx1, hc1, hz1⟩
 clear hx1
 go_wp2_with fail
 go_ret
 exact ⟨_, rfl, hc1, hz1⟩
end
section
open Go.ChangeShapes Go.WideShapes Go.ChangeAt Go.RowKit Go.Deep
theorem rs_set {w : World} {b : Nat} {x0 x1 x2 x3 x4 : Value} {t : TypeId} (h : w.heap[b]? = some (.cells #[x0, x1, x2, x3, x4] t (0, 0))) (y0 y1 y2 y3 y4 : Value) :
    ∃ w5, w5 = ((((w.setCell ⟨b, 0, none⟩ y0).setCell ⟨b, 1, none⟩ y1).setCell ⟨b, 2, none⟩ y2).setCell ⟨b, 3, none⟩ y3).setCell ⟨b, 4, none⟩ y4 ∧ w5.heap[b]? = some (.cells #[y0, y1, y2, y3, y4] t (0, 0)) ∧ Chg (at1 b) w w5 := by
  refine ⟨_, rfl, by simpa using blk_set (blk_set (blk_set (blk_set (blk_set h 0 y0) 1 y1) 2 y2) 3 y3) 4 y4, ?_⟩
  have q (o : Nat) (u : Value) {wq : World} (h : Chg (at1 b) w wq) := Chg.setC (S := at1 b) (p := ⟨b, o, none⟩) h rfl u
  exact q _ _ (q _ _ (q _ _ (q _ _ (q _ _ (Chg.refl _ w)))))
theorem one_set {w : World} {b : Nat} {arr : Array Value} {t : TypeId} (h : w.heap[b]? = some (.cells arr t (0, 0))) (o : Nat) (u : Value) :
    ∃ w5, w5 = w.setCell ⟨b, o, none⟩ u ∧ w5.heap[b]? = some (.cells (arr.setIfInBounds o u) t (0, 0)) ∧ Chg (at1 b) w w5 := ⟨_, rfl, blk_set h o u, Chg.setC (S := at1 b) (p := ⟨b, o, none⟩) (Chg.refl _ w) rfl u⟩
end
section
open Go.ChangeShapes Go.WideShapes Go.ChangeAt Go.RowKit Go.Deep
theorem two_set {w : World} {b : Nat} {x0 x1 : Value} {t : TypeId} (h : w.heap[b]? = some (.cells #[x0, x1] t (0, 0))) (y0 y1 : Value) :
    ∃ w5, w5 = (w.setCell ⟨b, 0, none⟩ y0).setCell ⟨b, 1, none⟩ y1 ∧ w5.heap[b]? = some (.cells #[y0, y1] t (0, 0)) ∧ Chg (at1 b) w w5 :=
  ⟨_, rfl, by simpa using blk_set (blk_set h 0 y0) 1 y1, Chg.setC (S := at1 b) (p := ⟨b, 1, none⟩) (Chg.setC (S := at1 b) (p := ⟨b, 0, none⟩) (Chg.refl _ _) rfl y0) rfl y1⟩
theorem three_set {w : World} {b : Nat} {x0 x1 x2 : Value} {t : TypeId} (h : w.heap[b]? = some (.cells #[x0, x1, x2] t (0, 0))) (y0 y1 y2 : Value) :
    ∃ w5, w5 = ((w.setCell ⟨b, 0, none⟩ y0).setCell ⟨b, 1, none⟩ y1).setCell ⟨b, 2, none⟩ y2 ∧ w5.heap[b]? = some (.cells #[y0, y1, y2] t (0, 0)) ∧ Chg (at1 b) w w5 :=
  ⟨_, rfl, blk_set3 h y0 y1 y2, Chg.setC (S := at1 b) (p := ⟨b, 2, none⟩) (Chg.setC (S := at1 b) (p := ⟨b, 1, none⟩) (Chg.setC (S := at1 b) (p := ⟨b, 0, none⟩) (Chg.refl _ _) rfl y0) rfl y1) rfl y2⟩
/-- A draw under way. -/
structure DSt (g : Nat) (cv : Value) (cd : List Int) (w wr : World) : Prop where
  c : Cur g cv cd wr
  x : Chg (at1 g) w wr
  c0 : Cur g cv cd w
theorem DSt.draw {g : Nat} {cv : Value} {cd : List Int} {w wr w' : World} (s : DSt g cv cd w wr) (hc : Cur g cv cd w') (hx : Chg (at1 g) wr w') : DSt g cv cd w w' := ⟨hc, s.x.trans hx, s.c0⟩
theorem DSt.ext {g : Nat} {cv : Value} {cd : List Int} {w wr w' : World} (s : DSt g cv cd w wr) (hx : Ext wr w') : DSt g cv cd w w' := ⟨s.c.ext hx, s.x.ext hx, s.c0⟩
theorem DSt.put {g : Nat} {cv : Value} {cd : List Int} {w wr w' : World} (s : DSt g cv cd w wr) {S : Nat → Prop} (hx : Chg S wr w') (hS : ∀ k, S k → w.heap.size ≤ k) : DSt g cv cd w w' := by
  have hup := Chg.up s.x hx (fun i hi => .inr (hS i hi))
  exact ⟨Cur.kept s.c0 s.c hx (fun h => by have h1 := hS _ h; have h2 := s.c0.lt; omega) hup, hup, s.c0⟩
end
section
open Go.ChangeShapes Go.WideShapes Go.ChangeAt Go.RowKit Go.Deep
section
variable {α : Type} {O : Own α} {a b : Nat} {w w' : World} {v : Value} {l : List α}
theorem Own.at1g {g : Nat} (h : O.own (rng a b) w v l) (c : Chg (at1 g) w w') (hg : g < a ∨ b ≤ g) : O.own (rng a b) w' v l :=
  O.kept h c (fun k hk e => by have e' : k = g := e; have h1 := hk.1; have h2 := hk.2; omega)
theorem Own.lo {a' : Nat} (h : O.own (rng a b) w v l) (ha : a' ≤ a) : O.own (rng a' b) w v l := O.mono h (fun _ hk => ⟨Nat.le_trans ha hk.1, hk.2⟩)
theorem Own.upTo {c : Nat} (h : O.own (rng a b) w v l) (hc : w.heap.size ≤ c) : O.own (rng a c) w v l := O.mono (O.inb h) (fun _ hk => ⟨hk.1.1, Nat.lt_of_lt_of_le hk.2 hc⟩)
theorem Own.stR {g : Nat} (h : O.own (rng a b) w v l) (hg : g < a ∨ b ≤ g) : St g O.rep w v l := fun _ c => O.rd (Own.at1g h c hg)
theorem Own.chgR {S : Nat → Prop} (h : O.own (rng a b) w v l) (c : Chg S w w') (hs : ∀ k, S k → k < a ∨ b ≤ k) : O.own (rng a b) w' v l :=
  O.kept h c (fun k hk e => by have h1 := hk.1; have h2 := hk.2; have := hs k e; omega)
end
/-- A row that is only read: it reads the same whatever becomes of the blocks beside its own. -/
def Own.keep {α : Type} (r : Rep α) : Own α where
  rep := r
  own S w v l := ∀ w', Chg (fun b => ¬ S b) w w' → RdS r w' v l
  rd h := h _ (Chg.refl _ _)
  mono h hs := fun w' c => h w' (c.mono (fun _ hk hS => hk (hs _ hS)))
  kept h c hs := fun w2 c2 => h w2 ((c.mono (fun b hb hS => hs b hS hb)).trans c2)
  nil _ := fun w' _ => RdS.nil _ w'
  inb h := fun w' c => h w' ⟨c.os, c.tape, c.output, c.size, fun k hk hn => c.block k hk (fun hh => hn (fun hS => hh ⟨hS, hk⟩))⟩
theorem Own.toKeep {α : Type} {O : Own α} {S : Nat → Prop} {w : World} {v : Value} {l : List α} (h : O.own S w v l) : (Own.keep O.rep).own S w v l := fun _ c => O.rd (O.kept h c (fun _ hb hn => hn hb))
theorem Own.ofFr {α : Type} {f : α → List Value} {n : Nat} {hf : ∀ a, (f a).length = n} {e : TypeId} {base m : Nat} {w : World} {v : Value} {l : List α} (h : OwnF f n base e w v l) (hm : w.heap.size ≤ m) : (Own.flat f n hf e).own (rng base m) w v l :=
  Own.mono _ (Own.ofF h) (fun _ hk => ⟨hk.1, Nat.lt_of_lt_of_le hk.2 hm⟩)
theorem Own.toF {α : Type} {f : α → List Value} {n : Nat} {hf : ∀ a, (f a).length = n} {e : TypeId} {a b : Nat} {w : World} {v : Value} {l : List α} (h : (Own.flat f n hf e).own (rng a b) w v l) : OwnF f n a e w v l := by
  obtain ⟨h1, h2⟩ := h
  obtain ⟨h3, h4⟩ := h1
  refine ⟨h3, ?_⟩
  rcases h4 with h4 | ⟨g, cap, cur, rfl, hb, hg, r⟩
  · exact .inl h4
  · exact .inr ⟨g, cap, cur, rfl, (h2 g rfl).1, hg, r⟩
section
variable {α β : Type} {n : Nat} {c : α → Value → List Value} {hc : ∀ a v, (c a v).length = n} {sub : α → List β} {e : TypeId} {I : Own β}
/-- A literal row whose elements hold slices. -/
theorem nest_lit {w : World} (qs : List (Cap α)) (lo : Nat) (hlo : lo ≤ w.heap.size) (hm : qs.length ≤ maxLen)
    (hq : ∀ q ∈ qs, I.own q.set w q.val (sub q.dat) ∧ ∀ b, q.set b → lo ≤ b ∧ b < w.heap.size) (hd : ∀ (i j : Nat) (hi : i < qs.length) (hj : j < qs.length), i ≠ j → ∀ b, qs[i].set b → ¬ qs[j].set b) :
    (Own.nest n c hc sub e I).own (rng lo (w.heap.size + 1)) (w.alloc (.cells (qs.flatMap (capF c)).toArray e)) (.slice (some ⟨w.heap.size, 0, none⟩) qs.length qs.length) (qs.map (·.dat)) := by
  have ho := OwnF.lit (f := capF c) (n := n) (fun q => hc q.dat q.val) 0 e w qs (Nat.zero_le _) hm
  refine ⟨qs, rfl, ho, fun k hk => ?_, fun q h => ⟨Own.ext (hq q h).1 ((Ext.refl w).alloc _), fun b hb => ?_⟩, hd⟩
  · cases hk; exact ⟨hlo, Nat.lt_succ_self _⟩
  · obtain ⟨h1, h2⟩ := (hq q h).2 b hb
    refine ⟨⟨h1, by omega⟩, fun e => ?_, by simp; omega⟩
    have : w.heap.size = b := by simpa [Value.ownBlock] using e
    omega
end
/-- What reads the same whatever becomes of the blocks of S. -/
def KS {α : Type} (S : Nat → Prop) (r : Rep α) (w : World) (v : Value) (l : List α) : Prop := ∀ w', Chg S w w' → RdS r w' v l
theorem KS.rd {α : Type} {S : Nat → Prop} {r : Rep α} {w : World} {v : Value} {l : List α} (h : KS S r w v l) : RdS r w v l := h w (Chg.refl _ _)
theorem KS.step {α : Type} {S T : Nat → Prop} {r : Rep α} {w w' : World} {v : Value} {l : List α} (h : KS S r w v l) (c : Chg T w w') (hs : ∀ b, T b → S b) : KS S r w' v l := fun w2 c2 => h w2 ((c.mono hs).trans c2)
theorem KS.ext {α : Type} {S : Nat → Prop} {r : Rep α} {w w' : World} {v : Value} {l : List α} (h : KS S r w v l) (c : Ext w w') : KS S r w' v l := fun w2 c2 => h w2 ((Chg.ofExt c).trans c2)
theorem KS.wide {α : Type} {S T : Nat → Prop} {r : Rep α} {w : World} {v : Value} {l : List α} (h : KS S r w v l) (hs : ∀ b, T b → S b ∨ w.heap.size ≤ b) : KS T r w v l :=
  fun w2 c => h w2 ⟨c.os, c.tape, c.output, c.size, fun k hk hn => c.block k hk (fun ht => by rcases hs k ht with h1 | h1; exact hn h1; omega)⟩
theorem KS.ofOwn {α : Type} {O : Own α} {S T : Nat → Prop} {w : World} {v : Value} {l : List α} (h : O.own S w v l) (hs : ∀ b, T b → ¬ S b) : KS T O.rep w v l := fun _ c => O.rd (O.kept h c (fun b hb ht => hs b ht hb))
theorem KS.ofF {α : Type} {n : Nat} {f : α → List Value} {hf : ∀ a, (f a).length = n} {base : Nat} {e : TypeId} {w : World} {v : Value} {l : List α} {T : Nat → Prop} (h : OwnF f n base e w v l) (hs : ∀ b, T b → b < base ∨ w.heap.size ≤ b) : KS T (Rep.flat n f hf) w v l :=
  fun _ c => OwnF.rd (h.chg c (fun k hk e => by have h1 := (h.block k hk).1; have h2 := (h.block k hk).2; rcases hs k e with h3 | h3 <;> omega))
theorem KS.st {α : Type} {S : Nat → Prop} {r : Rep α} {g : Nat} {w : World} {v : Value} {l : List α} (h : KS S r w v l) (hg : S g) : St g r w v l := fun w' c => h w' (c.mono (fun b hb => by have e : b = g := hb; rw [e]; exact hg))
end
end Go.Proofs.Ytcpfmhgfaliemaa
