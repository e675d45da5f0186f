/- Part 8 of 28 of what the laws FnNoDoorTwice and FnAuthor need: Marking and holding parts and paths: the contracts of the laws' helper functions. No condition but the bounds that each theorem names. Slices of uint8: how they read, and the contracts of the laws' helper functions over them. No condition but the bounds that each theorem names. The data of packets, how they read, what they own, and the contracts of the laws' helper functions over them. No condition but the bounds that each theorem names. What is checked of hop fields, parts, paths and packets, and how a packet goes on, as plain functions. No condition. Links laid one by one, each at the next number of either end: no two of them share an end. Plain laws. No condition. What a drawn topology is: few ASes, links that are right, and no end that is shared; what follows for interfaces and far ends. Plain laws. No condition. Chains of residues and the digest, as plain functions: a chain is undone from its end; a digest tells two rows apart that differ at one place. No condition. Segments as they are drawn: grown hop by hop along the links of a right topology, each hop sealed: all of them verify. Plain laws. No condition. Appending one element that holds a slice of its own to a row of the call's own. No condition but the bound on the row's length. -/
import Derived.Test.YtjmlicmloacmaaaGreatKN5
import Derived.Deep.LoopGhost
import Derived.Test.YtjmlicmloacmaaaGreatKN1
import Derived.Test.YtjmlicmloacmaaaGreatKN7
import Derived.Test.YtjmlicmloacmaaaGreatKN2
namespace Go.Proofs.YtjmlicmloacmaaaGreat
section
open Go.ChangeShapes Go.WideShapes Go.ChangeAt Go.RowKit Go.Deep

section
variable {α β : Type} {n : Nat} {c : α → Value → List Value} {hc : ∀ a v, (c a v).length = n} {sub : α → List β} {e : TypeId} {I : Own β}
/-- Plain cells of the kth element are written; its inner slice stays. -/
theorem nest_row {S : Nat → Prop} {w w2 : World} {g m cap : Nat} {l : List α} (h : (Own.nest n c hc sub e I).own S w (.slice (some ⟨g, 0, none⟩) m cap) l) (k : Nat) (hk : k < l.length) (x : α) (hsub : sub x = sub l[k]) (hg : w.grownBy w2 (some g))
    (hrow : ∀ (qs : List (Cap α)) (_ : qs.map (·.dat) = l) (hk' : k < qs.length), OwnF (capF c) n 0 e w (.slice (some ⟨g, 0, none⟩) m cap) qs → OwnF (capF c) n 0 e w2 (.slice (some ⟨g, 0, none⟩) m cap) (qs.set k ⟨x, qs[k].val, qs[k].set⟩)) :
    (Own.nest n c hc sub e I).own S w2 (.slice (some ⟨g, 0, none⟩) m cap) (l.set k x) := by
  obtain ⟨qs, rfl, ho, hS, hq, hd⟩ := h
  have hk' : k < qs.length := by simpa using hk
  have hch : Chg (fun b => b = g) w w2 := Chg.ofGrown hg (fun k hk => by cases hk; rfl)
  have hne : ∀ b, (Value.slice (some ⟨g, 0, none⟩) m cap).ownBlock ≠ some b → ¬ b = g := fun b h e => h (by rw [e]; rfl)
  refine ⟨qs.set k ⟨x, qs[k].val, qs[k].set⟩, by simp [List.map_set], hrow qs rfl hk' ho, hS, fun q hqm => ?_, fun i j hi hj hne' b hbi => ?_⟩
  · obtain ⟨i, hi, rfl⟩ := List.getElem_of_mem hqm
    have hi' : i < qs.length := by simpa using hi
    rw [List.getElem_set]
    by_cases hki : k = i
    · subst hki
      simp only [if_pos]
      obtain ⟨a1, a2⟩ := hq qs[k] (List.getElem_mem _)
      refine ⟨?_, fun b hb => ⟨(a2 b hb).1, (a2 b hb).2.1, Nat.lt_of_lt_of_le (a2 b hb).2.2 hch.size⟩⟩
      have := I.kept a1 hch (fun b hb => hne b (a2 b hb).2.1)
      rw [hsub]
      simpa using this
    · rw [if_neg hki]
      obtain ⟨a1, a2⟩ := hq qs[i] (List.getElem_mem _)
      exact ⟨I.kept a1 hch (fun b hb => hne b (a2 b hb).2.1), fun b hb => ⟨(a2 b hb).1, (a2 b hb).2.1, Nat.lt_of_lt_of_le (a2 b hb).2.2 hch.size⟩⟩
  · have hi' : i < qs.length := by simpa using hi
    have hj' : j < qs.length := by simpa using hj
    rw [List.getElem_set] at hbi ⊢
    have s1 : qs[i].set b := by
      by_cases e1 : k = i
      · subst e1; simpa using hbi
      · rw [if_neg e1] at hbi; exact hbi
    have s2 := hd i j hi' hj' hne' b s1
    by_cases e2 : k = j
    · subst e2; simpa using s2
    · rw [if_neg e2]; exact s2
end

theorem Chg.blk {lo hi : Nat} {w w' : World} (c : Chg (rng lo hi) w w') {b : Nat} {o : Obj} (h : w.heap[b]? = some o) (hb : b < lo ∨ hi ≤ b) : w'.heap[b]? = some o :=
  (c.block b (blk_lt h) (fun hs => by rcases hb with hb | hb <;> have := hs.1 <;> have := hs.2 <;> omega)).trans h
theorem rng_apart {a b c d : Nat} (h : b ≤ c ∨ d ≤ a) : ∀ x, rng a b x → ¬ rng c d x := by
  intro x h1 h2
  have := h1.1; have := h1.2; have := h2.1; have := h2.2
  omega

def markPart (k : Int) (x : Part) : Part := ⟨k, k + 1, k + 1 + 1, markL Hop.mk' 5 (k + 1 + 1 + 1) x.hops.length⟩
def markParts (k : Int) : List Part → List Part
  | [] => []
  | x :: l => markPart k x :: markParts (k + 3 + 5 * x.hops.length) l
def markN (l : List Part) : Int := 3 * l.length + 5 * hopsN l
theorem markParts_len (k : Int) (l : List Part) : (markParts k l).length = l.length := by
  induction l generalizing k with
  | nil => rfl
  | cons x l ih => simp [markParts, ih]
theorem hopsN_cons (x : Part) (l : List Part) : hopsN (x :: l) = x.hops.length + hopsN l := by simp [hopsN, Part.size]
theorem markParts_at (k : Int) (l : List Part) (j : Nat) (hj : j < l.length) : (markParts k l)[j]'(by rw [markParts_len]; exact hj) = markPart (k + 3 * j + 5 * hopsN (l.take j)) l[j] := by
  induction l generalizing k j with
  | nil => simp at hj
  | cons x l ih =>
    cases j with
    | zero => simp [markParts, hopsN]
    | succ j =>
      have h := ih (k + 3 + 5 * x.hops.length) j (by simpa using hj)
      have e1 : k + 3 + 5 * (x.hops.length : Int) + 3 * (j : Int) + 5 * ((hopsN (l.take j) : Nat) : Int) = k + 3 * ((j + 1 : Nat) : Int) + 5 * ((hopsN ((x :: l).take (j + 1)) : Nat) : Int) := by
        rw [List.take_succ_cons, hopsN_cons]; omega
      rw [e1] at h
      simpa [markParts] using h
theorem markParts_hops (k : Int) (l : List Part) : hopsN (markParts k l) = hopsN l := by
  induction l generalizing k with
  | nil => rfl
  | cons x l ih => rw [markParts, hopsN_cons, hopsN_cons, ih]; simp [markPart, markL]
theorem take_snocM {α : Type} {xs ms : List α} {j : Nat} (h : xs.take j = ms.take j) (hj : j < xs.length) (hm : j < ms.length) (y : α) (hy : ms[j] = y) : (xs.set j y).take (j + 1) = ms.take (j + 1) := by
  rw [List.take_succ_eq_append_getElem (by simpa using hj), List.take_succ_eq_append_getElem hm, List.take_set_of_le (Nat.le_refl _), h]
  simp [hy]
theorem drop_snocM {α : Type} {xs l : List α} {j : Nat} (h : xs.drop j = l.drop j) (y : α) : (xs.set j y).drop (j + 1) = l.drop (j + 1) := by
  rw [List.drop_set_of_lt (by omega), ← List.drop_drop, h, List.drop_drop]
theorem drop_getM {α : Type} {xs l : List α} {j : Nat} (h : xs.drop j = l.drop j) (h1 : j < xs.length) (h2 : j < l.length) : xs[j] = l[j] := by
  rw [List.drop_eq_getElem_cons h1, List.drop_eq_getElem_cons h2] at h
  exact (List.cons.inj h).1
def Hop.ownS : Own Hop := Own.flat Hop.f 5 Hop.flen 44
end
section
open Go.ChangeShapes Go.WideShapes Go.ChangeAt Go.RowKit Go.Deep

def byteF (n : Int) : List Value := [.int .u8 n]
theorem byteFlen (n : Int) : (byteF n).length = 1 := rfl
theorem byteOne (n : Int) : ∀ u ∈ byteF n, u.oneCell' = true := by
  intro u hu
  simp only [byteF, List.mem_cons, List.not_mem_nil, or_false] at hu
  rw [hu]; rfl
theorem bytes_rep {base : Nat} {e : TypeId} {w : World} {v : Value} {l : List Int} (h : OwnF byteF 1 base e w v l) : RdS Rep.byte w v l := OwnF.rd (hf := byteFlen) h
theorem bytes_at {w : World} {o : Option Addr} {m cap : Nat} {l : List Int} (h : RdS Rep.byte w (.slice o m cap) l) (k : Nat) (hk : k < l.length) :
    ∃ b off, o = some ⟨b, off, none⟩ ∧ w.cell? ⟨b, off + k, none⟩ = some (.int .u8 l[k]) := by
  obtain ⟨b, off, ho, hc⟩ := RdS.at_flat h k hk
  exact ⟨b, off, ho, by simpa using hc 0 _ rfl⟩
theorem bytes_own_at {base : Nat} {e : TypeId} {w : World} {g m cap : Nat} {l : List Int} (h : OwnF byteF 1 base e w (.slice (some ⟨g, 0, none⟩) m cap) l) (k : Nat) (hk : k < l.length) :
    w.cell? ⟨g, k, none⟩ = some (.int .u8 l[k]) := by
  have hc := OwnF.cells_flat byteFlen h k hk
  simpa using hc 0 _ rfl
theorem bytes_sets {l : List Int} {k : Nat} (x : Int) : (l.flatMap byteF).set k (.int .u8 x) = (l.set k x).flatMap byteF := by
  induction l generalizing k with
  | nil => simp
  | cons a l ih =>
    cases k with
    | zero => rfl
    | succ k =>
      have := ih (k := k)
      simp only [List.flatMap_cons, List.set_cons_succ, ← this, byteF]
      rfl
theorem bytes_own_set {base : Nat} {e : TypeId} {w : World} {g m cap : Nat} {l : List Int} (h : OwnF byteF 1 base e w (.slice (some ⟨g, 0, none⟩) m cap) l) (k : Nat) (x : Int) :
    OwnF byteF 1 base e (w.setCell ⟨g, k, none⟩ (.int .u8 x)) (.slice (some ⟨g, 0, none⟩) m cap) (l.set k x) ∧ w.grownBy (w.setCell ⟨g, k, none⟩ (.int .u8 x)) (some g) := by
  obtain rfl := h.len
  obtain ⟨h0, g0⟩ := World.ownsRow.stored h k (.int .u8 x)
  rw [bytes_sets] at h0
  refine ⟨?_, g0⟩
  unfold OwnF
  rw [List.length_set]
  exact h0
theorem Tryz.infoByte : (Tryz.prog.info? 5).map (fun i => (i.zero, i.size, i.bytes)) = some (some (.int .u8 0), 1, 1) := by kernel_rfl
theorem elemByte : Nonempty (Elem Tryz.prog 22 5 1 1) := Elem.mk' Tryz.underlying22 Tryz.infoByte rfl (by decide)
theorem opensBytes : Opens Tryz.prog 22 Rep.byte.slice (fun l => ∀ x ∈ l, U8 x) := opens_slice Tryz.underlying22 (by kernel_rfl) (by decide) (opens_byte Tryz.underlying5)


def byteMk (k : Int) : Int := k % 256

end
section
open Go.ChangeShapes Go.WideShapes Go.ChangeAt Go.RowKit Go.Deep

theorem blk10 {w : World} {b : Nat} {x0 x1 x2 x3 x4 x5 x6 x7 x8 x9 : Value} {t : TypeId} {f : Nat × Nat} (h : w.heap[b]? = some (.cells #[x0, x1, x2, x3, x4, x5, x6, x7, x8, x9] t f)) :
    w.cell? ⟨b, 0, none⟩ = some x0 ∧ w.cell? ⟨b, 1, none⟩ = some x1 ∧ w.cell? ⟨b, 2, none⟩ = some x2 ∧ w.cell? ⟨b, 3, none⟩ = some x3 ∧ w.cell? ⟨b, 4, none⟩ = some x4 ∧ w.cell? ⟨b, 5, none⟩ = some x5 ∧ w.cell? ⟨b, 6, none⟩ = some x6 ∧ w.cell? ⟨b, 7, none⟩ = some x7 ∧ w.cell? ⟨b, 8, none⟩ = some x8 ∧ w.cell? ⟨b, 9, none⟩ = some x9 :=
  ⟨blk_cell h 0, blk_cell h 1, blk_cell h 2, blk_cell h 3, blk_cell h 4, blk_cell h 5, blk_cell h 6, blk_cell h 7, blk_cell h 8, blk_cell h 9⟩
theorem len10 {α : Type} : ∀ {cs : List α}, cs.length = 10 → ∃ a0 a1 a2 a3 a4 a5 a6 a7 a8 a9, cs = [a0, a1, a2, a3, a4, a5, a6, a7, a8, a9]
  | [a0, a1, a2, a3, a4, a5, a6, a7, a8, a9], _ => ⟨a0, a1, a2, a3, a4, a5, a6, a7, a8, a9, rfl⟩
theorem Chg.setCell {S : Nat → Prop} {a b : World} (h : Chg S a b) {p : Addr} (hp : S p.block) (u : Value) : Chg S a (b.setCell p u) :=
  h.trans ⟨rfl, rfl, rfl, by simp, fun k _ hn => Below.heap_setCell _ _ _ _ (fun e => hn (by rw [e]; exact hp))⟩
structure Pkt where
  kind : Int
  src : Int
  dst : Int
  path : Pth
  pi : Int
  hi : Int
  beta : Int
  rid : Int
  seq : Int
  pay : List Int
  deriving DecidableEq
def Pkt.c (x : Pkt) (h0 h1 : Value) : List Value := [.int .i64 x.kind, .int .i64 x.src, .int .i64 x.dst, h0, .int .i64 x.pi, .int .i64 x.hi, .int .i64 x.beta, .int .i64 x.rid, .int .i64 x.seq, h1]
def Pkt.size (x : Pkt) : Nat := x.path.size + x.pay.length
def Pkt.rep : Rep Pkt where
  cells := 10
  rd w cs x := ∃ v0 v1, cs = [.int .i64 x.kind, .int .i64 x.src, .int .i64 x.dst, v0, .int .i64 x.pi, .int .i64 x.hi, .int .i64 x.beta, .int .i64 x.rid, .int .i64 x.seq, v1] ∧ RdS Part.rep w v0 x.path.parts ∧ RdS Rep.byte w v1 x.pay
  len := by rintro w cs a ⟨v0, v1, rfl, _⟩; rfl
  ext := by rintro w w' cs a e ⟨v0, v1, rfl, h0, h1⟩; exact ⟨v0, v1, rfl, h0.ext e, h1.ext e⟩
def Pkt.ok (x : Pkt) : Prop := I64 x.kind ∧ I64 x.src ∧ I64 x.dst ∧ x.path.ok ∧ I64 x.pi ∧ I64 x.hi ∧ I64 x.beta ∧ I64 x.rid ∧ I64 x.seq ∧ ∀ y ∈ x.pay, U8 y
def byteOwn : Own Int := Own.flat byteF 1 byteFlen 5
/-- What a packet's two handles own: two sets that share no block. -/
def Pkt.own (S : Nat → Prop) (w : World) (h0 h1 : Value) (x : Pkt) : Prop :=
  ∃ S0 S1 : Nat → Prop, Part.own.own S0 w h0 x.path.parts ∧ byteOwn.own S1 w h1 x.pay ∧ (∀ b, S0 b → S b) ∧ (∀ b, S1 b → S b) ∧ ∀ b, S0 b → ¬ S1 b
theorem Pkt.own_kept {S T : Nat → Prop} {w w' : World} {h0 h1 : Value} {x : Pkt} (h : Pkt.own S w h0 h1 x) (c : Chg T w w') (hs : ∀ b, S b → ¬ T b) : Pkt.own S w' h0 h1 x := by
  obtain ⟨S0, S1, a, b, c0, c1, d⟩ := h
  exact ⟨S0, S1, Part.own.kept a c (fun k hk => hs k (c0 k hk)), byteOwn.kept b c (fun k hk => hs k (c1 k hk)), c0, c1, d⟩
theorem Pkt.own_ext {S : Nat → Prop} {w w' : World} {h0 h1 : Value} {x : Pkt} (h : Pkt.own S w h0 h1 x) (e : Ext w w') : Pkt.own S w' h0 h1 x :=
  Pkt.own_kept h (Chg.ofExt (S := noB) e) (fun _ _ h => h)
theorem Pkt.own_mono {S T : Nat → Prop} {w : World} {h0 h1 : Value} {x : Pkt} (h : Pkt.own S w h0 h1 x) (hs : ∀ b, S b → T b) : Pkt.own T w h0 h1 x := by
  obtain ⟨S0, S1, a, b, c0, c1, d⟩ := h
  exact ⟨S0, S1, a, b, fun k hk => hs k (c0 k hk), fun k hk => hs k (c1 k hk), d⟩
theorem Pkt.own_rd0 {S : Nat → Prop} {w : World} {h0 h1 : Value} {x : Pkt} (h : Pkt.own S w h0 h1 x) : RdS Part.rep w h0 x.path.parts := by
  obtain ⟨S0, S1, a, _⟩ := h; exact Part.own.rd a
theorem Pkt.own_rd1 {S : Nat → Prop} {w : World} {h0 h1 : Value} {x : Pkt} (h : Pkt.own S w h0 h1 x) : RdS Rep.byte w h1 x.pay := by
  obtain ⟨S0, S1, _, b, _⟩ := h; exact byteOwn.rd b
theorem Pkt.own_inb {S : Nat → Prop} {w : World} {h0 h1 : Value} {x : Pkt} (h : Pkt.own S w h0 h1 x) : Pkt.own (fun b => S b ∧ b < w.heap.size) w h0 h1 x := by
  obtain ⟨S0, S1, a, b, c0, c1, d⟩ := h
  exact ⟨_, _, Part.own.inb a, byteOwn.inb b, fun k hk => ⟨c0 k hk.1, hk.2⟩, fun k hk => ⟨c1 k hk.1, hk.2⟩, fun k hk h2 => d k hk.1 h2.1⟩
def Pkt.cnt (x : Pkt) : Int := markN x.path.parts + 1 * x.pay.length
def Pkt.marked (k : Int) (x : Pkt) : Pkt := { x with path := ⟨markParts k x.path.parts⟩, pay := markL byteMk 1 (k + markN x.path.parts) x.pay.length }
theorem Pkt.cnt_le {x : Pkt} (h : x.size ≤ 1048576) : 0 ≤ x.cnt ∧ x.cnt ≤ 5242880 := by
  unfold Pkt.size Pth.size at h; unfold Pkt.cnt markN; omega
theorem Pkt.cnt_parts {x : Pkt} : 0 ≤ markN x.path.parts ∧ markN x.path.parts ≤ x.cnt := by unfold Pkt.cnt markN; omega
end
section
open Go.RowKit

def digStep (d x : Int) : Int := (d * 1000003 + x % 2147483647 + 11) % 2147483647
def digest (l : List Int) : Int := l.foldl digStep 7
theorem digStep_res (d x : Int) : 0 ≤ digStep d x ∧ digStep d x ≤ 2147483646 := by unfold digStep; omega
def macOf (key : Int) (l : List Int) : Int := digest ([key] ++ l ++ [key])
def hopMac (key ts beta : Int) (h : Hop) : Int := macOf key [ts, beta, h.asn, h.ing, h.eg, h.exp]
def validHop (h : Hop) : Bool := inR h.asn 0 7 && inR h.ing 0 6 && inR h.eg 0 6 && (h.ing != h.eg) && inR h.exp 0 1000000 && isRes h.mac
def isAs (t : Topo) (r : Int) : Bool := inR r 0 ((t.ases.length : Int) - 1)
def asAt (t : Topo) (r : Int) : ASd := match t.ases[r.toNat]? with | some a => a | none => ⟨0, false, 0⟩
theorem asAt_at {t : Topo} {r : Int} (_ : 0 ≤ r) (h : r.toNat < t.ases.length) : asAt t r = t.ases[r.toNat] := by unfold asAt; rw [List.getElem?_eq_getElem h]
theorem isAs_lt {t : Topo} {r : Int} (h : isAs t r = true) : 0 ≤ r ∧ r.toNat < t.ases.length := by
  have := inR_true.1 h; omega
def verHop (t : Topo) (ts beta : Int) (h : Hop) : Bool := validHop h && isAs t h.asn && (h.mac == hopMac (asAt t h.asn).key ts beta h)
/-- The far end of a link: the AS and its interface. -/
def remEnd (t : Topo) (r d : Int) : Int × Int := if linkIdx t.links r d < 0 then (-1, 0) else match t.links[(linkIdx t.links r d).toNat]? with
  | some l => if (l.a == r) && (l.ai == d) then (l.b, l.bi) else (l.a, l.ai)
  | none => (-1, 0)
/-- What is at the other end. -/
def ifKind (t : Topo) (r d : Int) : Int := if d == 0 then 5 else if linkIdx t.links r d < 0 then 0 else match t.links[(linkIdx t.links r d).toNat]? with
  | some l => if l.kind == 1 then 1 else if l.kind == 3 then 4 else if l.kind == 2 then (if (l.a == r) && (l.ai == d) then 2 else 3) else 0
  | none => 0
theorem linkFrom_lt {r d : Int} : ∀ {l : List Lnk} {k : Nat}, linkFrom r d k l < (k + l.length : Int)
  | [], k => by simp [linkFrom]; omega
  | x :: l, k => by
    unfold linkFrom
    split
    · simp only [List.length_cons]; omega
    · have := linkFrom_lt (r := r) (d := d) (l := l) (k := k + 1)
      simp only [List.length_cons]; omega
theorem linkIdx_lt (l : List Lnk) (r d : Int) : linkIdx l r d < l.length := by
  have := linkFrom_lt (r := r) (d := d) (l := l) (k := 0)
  unfold linkIdx; omega

/-- The first k of a row, by their place. -/
def allTo (p : Nat → Bool) : Nat → Bool
  | 0 => true
  | k + 1 => allTo p k && p k
theorem allTo_true {p : Nat → Bool} : ∀ {n : Nat}, allTo p n = true ↔ ∀ k < n, p k = true
  | 0 => by simp [allTo]
  | n + 1 => by
    simp only [allTo, Bool.and_eq_true, allTo_true]
    constructor
    · intro h k hk
      rcases Nat.lt_or_ge k n with h1 | h1
      · exact h.1 k h1
      · obtain rfl : k = n := by omega
        exact h.2
    · intro h; exact ⟨fun k hk => h k (by omega), h n (by omega)⟩
theorem allTo_no {p : Nat → Bool} {n k : Nat} (hk : k < n) (h : p k = false) : allTo p n = false := by
  cases h1 : allTo p n
  · rfl
  · have := allTo_true.1 h1 k hk; rw [h] at this; cases this
theorem allTo_snoc {p : Nat → Bool} {k : Nat} (h : allTo p k = true) (h1 : p k = true) : allTo p (k + 1) = true := by simp [allTo, h, h1]
theorem allTo_congr {p q : Nat → Bool} {n : Nat} (h : ∀ k < n, p k = q k) : allTo p n = allTo q n := by
  induction n with
  | zero => rfl
  | succ n ih => simp only [allTo]; rw [ih (fun k hk => h k (by omega)), h n (by omega)]

def hopAt (l : List Hop) (i : Nat) : Hop := match l[i]? with | some h => h | none => ⟨0, 0, 0, 0, 0⟩
theorem hopAt_at {l : List Hop} {i : Nat} (h : i < l.length) : hopAt l i = l[i] := by unfold hopAt; rw [List.getElem?_eq_getElem h]
/-- A hop is valid, of an AS that exists, and none before it is of that AS. -/
def hopFresh (t : Topo) (l : List Hop) (i : Nat) : Bool := validHop (hopAt l i) && isAs t (hopAt l i).asn && !(hasI ((l.map (·.asn)).take i) (hopAt l i).asn)
def hopsOk (t : Topo) (l : List Hop) : Bool := inR (l.length : Int) 1 8 && allTo (hopFresh t l) l.length
/-- Hop i leads to the next one. -/
def joinAt (t : Topo) (p : Part) (i : Nat) : Bool := (partEg p i != 0) && ((remEnd t (hopAt p.hops i).asn (partEg p i)).1 == (hopAt p.hops (i + 1)).asn) && ((remEnd t (hopAt p.hops i).asn (partEg p i)).2 == partIn p (i + 1 : Nat))
def validPart (t : Topo) (p : Part) : Bool := inR p.kind 1 4 && hopsOk t p.hops && inR p.ts 0 1000000 && isRes p.beta && allTo (joinAt t p) (p.hops.length - 1)
def rank (k : Int) : Int := if k == 1 then 1 else if k == 2 || k == 3 then 2 else 3
def partAt (l : List Part) (i : Nat) : Part := match l[i]? with | some x => x | none => ⟨0, 0, 0, []⟩
theorem partAt_at {l : List Part} {i : Nat} (h : i < l.length) : partAt l i = l[i] := by unfold partAt; rw [List.getElem?_eq_getElem h]
/-- Part i follows the one before. -/
def followAt (l : List Part) (i : Nat) : Bool := decide (rank (partAt l i).kind < rank (partAt l (i + 1)).kind) && ((hopAt (partAt l i).hops ((partAt l i).hops.length - 1)).asn == (hopAt (partAt l (i + 1)).hops 0).asn)
def partOk (t : Topo) (l : List Part) (i : Nat) : Bool := validPart t (partAt l i) && (decide (i = 0) || followAt l (i - 1))
def wfPath (t : Topo) (p : Pth) : Bool := inR (p.parts.length : Int) 1 3 && allTo (partOk t p.parts) p.parts.length
def freshAt (l : List Int) (i : Nat) : Bool := match l[i]? with | some n => !(hasI (l.take i) n) | none => true
theorem freshAt_at {l : List Int} {i : Nat} (h : i < l.length) : freshAt l i = !(hasI (l.take i) l[i]) := by unfold freshAt; rw [List.getElem?_eq_getElem h]
def simple (t : Topo) (p : Pth) : Bool := wfPath t p && allTo (freshAt (usedIfs (pathSteps p.parts))) (usedIfs (pathSteps p.parts)).length
def betaFor (x : Part) (i : Nat) : Int := if isRev x.kind then betaAfter x (i + 1 : Nat) else betaAfter x i
def verPart (t : Topo) (x : Part) : Bool := allTo (fun i => verHop t x.ts (betaFor x i) (hopAt x.hops i)) x.hops.length
def verPath (t : Topo) (p : Pth) : Bool := allTo (fun i => verPart t (partAt p.parts i)) p.parts.length
def hopsIn (now : Int) (l : List Hop) : Bool := l.all (fun h => decide (now ≤ h.exp))
def partIn' (now : Int) (x : Part) : Bool := decide (x.ts ≤ now) && hopsIn now x.hops
def usable (t : Topo) (p : Pth) (now : Int) : Bool := simple t p && verPath t p && allTo (fun i => partIn' now (partAt p.parts i)) p.parts.length
/-- The least expiry. -/
def leastExp : List Hop → Int
  | [] => 0
  | h :: l => l.foldl (fun m x => if x.exp < m then x.exp else m) h.exp
theorem leastF_le (now : Int) : ∀ (l : List Hop) (m : Int), (now ≤ l.foldl (fun m x => if x.exp < m then x.exp else m) m) ↔ now ≤ m ∧ ∀ x ∈ l, now ≤ x.exp
  | [], m => by simp
  | x :: l, m => by
    rw [List.foldl_cons, leastF_le now l]
    simp only [List.mem_cons, forall_eq_or_imp]
    split <;> constructor <;> rintro ⟨h1, h2⟩ <;> refine ⟨?_, ?_⟩ <;> (first | omega | exact h2 | exact h2.2 | (refine ⟨?_, ?_⟩ <;> (first | omega | exact h2)))
theorem least_in {now : Int} {l : List Hop} (h : 0 < l.length) : hopsIn now l = decide (now ≤ leastExp l) := by
  cases l with
  | nil => simp at h
  | cons x l =>
    unfold hopsIn leastExp
    rw [Bool.eq_iff_iff]
    simp only [List.all_eq_true, decide_eq_true_eq, leastF_le, List.mem_cons, forall_eq_or_imp]

def hopsEnc (l : List Hop) : Bool := decide (l.length ≤ 8) && l.all validHop
def encPart (x : Part) : Bool := inR x.kind 1 4 && inR x.ts 0 1000000 && isRes x.beta && hopsEnc x.hops
def encPath (p : Pth) : Bool := decide (p.parts.length ≤ 3) && p.parts.all encPart
def curPart (x : Pkt) : Part := partAt x.path.parts x.pi.toNat
def curHop (x : Pkt) : Hop := hopAt (curPart x).hops x.hi.toNat
def hasHop (x : Pkt) : Bool := inR x.pi 0 ((x.path.parts.length : Int) - 1) && inR x.hi 0 (((curPart x).hops.length : Int) - 1)
def curAs (x : Pkt) : Int := if hasHop x then (curHop x).asn else -1
def validPkt (x : Pkt) : Bool := inR x.kind 1 3 && encPath x.path && hasHop x && isRes x.beta && x.path.parts.all (fun y => decide (0 < y.hops.length)) && inR x.src 0 7 && inR x.dst 0 7 && inR x.rid 0 100000 && inR x.seq 0 100000 && decide (x.pay.length ≤ 40)
def lastOf (x : Pkt) : Bool := x.hi == ((curPart x).hops.length : Int) - 1
def atLast (x : Pkt) : Bool := decide (0 ≤ curAs x) && lastOf x && (x.pi == (x.path.parts.length : Int) - 1)
def advance (x : Pkt) : Pkt := if curAs x < 0 || atLast x then x else if lastOf x then { x with pi := x.pi + 1, hi := 0, beta := (partAt x.path.parts (x.pi.toNat + 1)).beta } else { x with hi := x.hi + 1 }
def curBefore (x : Pkt) : Int := if isRev (curPart x).kind then subMod x.beta (curHop x).mac else x.beta
def curAfter (x : Pkt) : Int := if isRev (curPart x).kind then subMod x.beta (curHop x).mac else addMod x.beta (curHop x).mac
def curOk (t : Topo) (x : Pkt) : Bool := hasHop x && verHop t (curPart x).ts (curBefore x) (curHop x)
def verCur (t : Topo) (x : Pkt) : Pkt := if curOk t x then { x with beta := curAfter x } else x
def curIn (x : Pkt) (now : Int) : Bool := decide (0 ≤ curAs x) && decide ((curPart x).ts ≤ now) && decide (now ≤ (curHop x).exp)

def transitOk (a b : Int) : Bool :=
  if a == 5 || a == 2 then b == 1 || b == 2 || b == 3 || b == 5
  else if a == 3 then b == 2 || b == 5
  else if a == 1 then b == 1 || b == 2 || b == 5
  else false
def stepOk (t : Topo) (s : Step) : Bool := transitOk (ifKind t s.asn s.ing) (ifKind t s.asn s.eg) && ((s.ing != s.eg) || (s.ing == 0))
def bitAt (s : Int) : Nat → Bool
  | i => (s / 2 ^ i) % 2 == 1
def inSet (s i : Int) : Bool := inR s 0 65535 && inR i 0 15 && bitAt s i.toNat

structure Vd where
  code : Int
  eg : Int
  pkt : Pkt
  deriving DecidableEq
/-- The code of the check of a hop. -/
def chkCode (t : Topo) (now : Int) (x : Pkt) : Int := if curOk t x then (if curIn x now then 0 else 5) else 4
/-- All hops of this AS, one part after the other. -/
def chkAll (t : Topo) (now : Int) : Nat → Pkt → Int × Pkt
  | 0, x => (chkCode t now x, verCur t x)
  | f + 1, x => if chkCode t now x == 0 && lastOf (verCur t x) && !(atLast (verCur t x)) then chkAll t now f (advance (verCur t x)) else (chkCode t now x, verCur t x)
def wantIn (x : Pkt) : Int := if x.pi == 0 && x.hi == 0 then 0 else partIn (curPart x) x.hi
def forward (t : Topo) (r now dead inn : Int) (x : Pkt) : Vd :=
  if !(validPkt x && simple t x.path && (curAs x == r)) then ⟨2, 0, x⟩
  else if inn != wantIn x then ⟨3, 0, x⟩
  else
    let c := chkAll t now x.path.parts.length x
    if c.1 != 0 then ⟨c.1, 0, x⟩
    else if atLast c.2 then (if c.2.dst == r then ⟨1, 0, c.2⟩ else ⟨2, 0, x⟩)
    else
      let out := partEg (curPart c.2) c.2.hi
      if !(stepOk t ⟨r, inn, out⟩) then ⟨6, 0, x⟩
      else if inSet dead out then ⟨7, 0, x⟩
      else ⟨0, out, advance c.2⟩
structure TrSt where
  r : Int
  inn : Int
  code : Int
  steps : List Step
  pkt : Pkt
end
section
open Go.ChangeShapes Go.WideShapes Go.ChangeAt Go.RowKit Go.Deep

theorem insInt_mem {n y : Int} : ∀ {l : List Int}, y ∈ insInt n l ↔ y = n ∨ y ∈ l
  | [] => by simp [insInt]
  | x :: l => by
    unfold insInt
    split
    · rw [List.mem_cons, insInt_mem, List.mem_cons]
      constructor
      · rintro (h | h | h)
        · exact .inr (.inl h)
        · exact .inl h
        · exact .inr (.inr h)
      · rintro (h | h | h)
        · exact .inr (.inl h)
        · exact .inl h
        · exact .inr (.inr h)
    · split
      · rename_i h
        subst h
        simp
      · simp
theorem insInt_new {n : Int} : ∀ {l : List Int}, n ∉ l → (insInt n l).length = l.length + 1
  | [], _ => rfl
  | x :: l, h => by
    simp only [List.mem_cons, not_or] at h
    unfold insInt
    split
    · simp [insInt_new h.2]
    · split
      · rename_i e; exact absurd e.symm h.1
      · simp
theorem insInt_more (n : Int) (l : List Int) : l.length ≤ (insInt n l).length := by
  induction l with
  | nil => simp
  | cons x l ih => unfold insInt; split <;> (try split) <;> simp <;> omega
def lnkEnds (x : Lnk) : List (Int × Int) := [(x.a, x.ai), (x.b, x.bi)]
def allEnds (l : List Lnk) : List (Int × Int) := l.flatMap lnkEnds
theorem allEnds_app (l m : List Lnk) : allEnds (l ++ m) = allEnds l ++ allEnds m := by simp [allEnds]
theorem topoIfs_app (l : List Lnk) (x : Lnk) (r : Int) : topoIfs (l ++ [x]) r = ifStep r (topoIfs l r) x := by simp [topoIfs]
theorem ifStep_mem {r n : Int} {out : List Int} {x : Lnk} : n ∈ ifStep r out x ↔ (r, n) ∈ lnkEnds x ∨ n ∈ out := by
  unfold ifStep lnkEnds
  simp only [List.mem_cons, List.not_mem_nil, or_false, Prod.mk.injEq]
  split <;> split <;> simp_all [insInt_mem] <;> grind
theorem ifStep_more (r : Int) (out : List Int) (x : Lnk) : out.length ≤ (ifStep r out x).length := by
  unfold ifStep
  have h1 := insInt_more x.ai out
  have h2 := insInt_more x.bi out
  have h3 := insInt_more x.bi (insInt x.ai out)
  split <;> split <;> omega
theorem topoIfs_mem {r n : Int} : ∀ {l : List Lnk} {out : List Int}, n ∈ l.foldl (ifStep r) out ↔ (r, n) ∈ allEnds l ∨ n ∈ out
  | [], out => by simp [allEnds]
  | x :: l, out => by
    rw [List.foldl_cons, topoIfs_mem, ifStep_mem]
    simp only [allEnds, List.flatMap_cons, List.mem_append]
    grind
/-- Every number stands below the count of its place, and no end is shared. -/
def Laid (l : List Lnk) : Prop := (∀ r n, (r, n) ∈ allEnds l → 1 ≤ n ∧ n ≤ (topoIfs l r).length) ∧ (allEnds l).Nodup
theorem Laid.nil : Laid [] := ⟨fun _ _ h => by simp [allEnds] at h, by simp [allEnds]⟩
def addLink (l : List Lnk) (a b kind : Int) : List Lnk :=
  if (topoIfs l a).length + 1 ≤ 6 ∧ (topoIfs l b).length + 1 ≤ 6 then l ++ [⟨a, (topoIfs l a).length + 1, b, (topoIfs l b).length + 1, kind⟩] else l
theorem Laid.add {l : List Lnk} (h : Laid l) {a b : Int} (kind : Int) (hab : a ≠ b) : Laid (addLink l a b kind) := by
  unfold addLink
  split
  case isFalse => exact h
  case isTrue =>
    have hna : ((topoIfs l a).length + 1 : Int) ∉ topoIfs l a := fun hm => by
      have h1 := (topoIfs_mem (l := l) (out := [])).1 hm
      simp only [List.not_mem_nil, or_false] at h1
      have := (h.1 _ _ h1).2; omega
    have hnb : ((topoIfs l b).length + 1 : Int) ∉ topoIfs l b := fun hm => by
      have h1 := (topoIfs_mem (l := l) (out := [])).1 hm
      simp only [List.not_mem_nil, or_false] at h1
      have := (h.1 _ _ h1).2; omega
    have ea : (a, ((topoIfs l a).length + 1 : Int)) ∉ allEnds l := fun hm => by have := (h.1 _ _ hm).2; omega
    have eb : (b, ((topoIfs l b).length + 1 : Int)) ∉ allEnds l := fun hm => by have := (h.1 _ _ hm).2; omega
    have la : (topoIfs (l ++ [⟨a, (topoIfs l a).length + 1, b, (topoIfs l b).length + 1, kind⟩]) a).length = (topoIfs l a).length + 1 := by
      rw [topoIfs_app]; unfold ifStep
      simp only [beq_self_eq_true, if_true]
      rw [if_neg (by simpa using fun e => hab e.symm)]
      exact insInt_new hna
    have lb : (topoIfs (l ++ [⟨a, (topoIfs l a).length + 1, b, (topoIfs l b).length + 1, kind⟩]) b).length = (topoIfs l b).length + 1 := by
      rw [topoIfs_app]; unfold ifStep
      simp only [beq_self_eq_true, if_true]
      rw [if_neg (by simpa using hab)]
      exact insInt_new hnb
    refine ⟨fun r n hm => ?_, ?_⟩
    · rw [allEnds_app, List.mem_append] at hm
      rcases hm with hm | hm
      · have h1 := h.1 r n hm
        have h2 := ifStep_more r (topoIfs l r) ⟨a, (topoIfs l a).length + 1, b, (topoIfs l b).length + 1, kind⟩
        rw [topoIfs_app]; omega
      · simp only [allEnds, List.flatMap_cons, List.flatMap_nil, List.append_nil, lnkEnds, List.mem_cons, List.not_mem_nil, or_false, Prod.mk.injEq] at hm
        rcases hm with ⟨rfl, rfl⟩ | ⟨rfl, rfl⟩
        · rw [la]; omega
        · rw [lb]; omega
    · rw [allEnds_app, List.nodup_append]
      refine ⟨h.2, ?_, fun p hp q hq e => ?_⟩
      · simp [allEnds, lnkEnds, hab]
      · subst e
        simp only [allEnds, List.flatMap_cons, List.flatMap_nil, List.append_nil, lnkEnds, List.mem_cons, List.not_mem_nil, or_false] at hq
        rcases hq with rfl | rfl
        · exact ea hp
        · exact eb hp
/-- What is left of such links shares no end either. -/
theorem allEnds_filter (p : Lnk → Bool) : ∀ (l : List Lnk), (allEnds (l.filter p)).Sublist (allEnds l)
  | [] => .refl _
  | x :: l => by
    cases h : p x
    · rw [List.filter_cons_of_neg (by simp [h])]
      exact (allEnds_filter p l).trans (List.sublist_append_right _ _)
    · rw [List.filter_cons_of_pos h]
      exact (List.Sublist.refl _).append (allEnds_filter p l)
theorem Laid.filter {l : List Lnk} (h : Laid l) (p : Lnk → Bool) : (allEnds (l.filter p)).Nodup := h.2.sublist (allEnds_filter p l)


def lnkOk (t : Topo) (x : Lnk) : Bool :=
  isAs t x.a && isAs t x.b && decide (x.a < x.b) && inR x.ai 1 6 && inR x.bi 1 6 &&
    (if x.kind == 1 then (asAt t x.a).core && (asAt t x.b).core else if x.kind == 2 then ((asAt t x.a).isd == (asAt t x.b).isd) && !(asAt t x.b).core else (x.kind == 3) && !(asAt t x.a).core && !(asAt t x.b).core)
structure TopoOk (t : Topo) : Prop where
  n1 : 1 ≤ t.ases.length
  n8 : t.ases.length ≤ 8
  ok : ∀ x ∈ t.links, lnkOk t x = true
  ends : (allEnds t.links).Nodup
  few : t.links.length ≤ 64
theorem addLink_len (l : List Lnk) (a b k : Int) : (addLink l a b k).length ≤ l.length + 1 := by unfold addLink; split <;> simp
/-- An AS of another ISD alone: what is right of the links is asked last. -/
theorem TopoOk.filter {al : List ASd} {l : List Lnk} (h : Laid l) (n1 : 1 ≤ al.length) (n8 : al.length ≤ 8) (hl : l.length ≤ 64) : TopoOk ⟨al, l.filter (lnkOk ⟨al, l⟩)⟩ where
  n1 := n1
  n8 := n8
  ok := fun x hx => by
    have h1 := (List.mem_filter.1 hx).2
    exact h1
  ends := h.filter _
  few := Nat.le_trans (List.length_filter_le _ _) hl
theorem TopoOk.isAs0 {t : Topo} (h : TopoOk t) : isAs t 0 = true := by
  have := h.n1
  unfold isAs inR; simp; omega
theorem mem_ends {l : List Lnk} {x : Lnk} (hx : x ∈ l) : (x.a, x.ai) ∈ allEnds l ∧ (x.b, x.bi) ∈ allEnds l := by
  unfold allEnds
  exact ⟨List.mem_flatMap.2 ⟨x, hx, by simp [lnkEnds]⟩, List.mem_flatMap.2 ⟨x, hx, by simp [lnkEnds]⟩⟩
theorem ifs_end {l : List Lnk} {r n : Int} : n ∈ topoIfs l r ↔ ∃ x ∈ l, (x.a = r ∧ x.ai = n) ∨ (x.b = r ∧ x.bi = n) := by
  have h1 := topoIfs_mem (l := l) (out := []) (r := r) (n := n)
  simp only [List.not_mem_nil, or_false] at h1
  unfold topoIfs
  rw [h1]
  unfold allEnds lnkEnds
  simp only [List.mem_flatMap, List.mem_cons, List.not_mem_nil, or_false, Prod.mk.injEq]
  constructor
  · rintro ⟨x, hx, ⟨e1, e2⟩ | ⟨e1, e2⟩⟩
    · exact ⟨x, hx, .inl ⟨e1.symm, e2.symm⟩⟩
    · exact ⟨x, hx, .inr ⟨e1.symm, e2.symm⟩⟩
  · rintro ⟨x, hx, ⟨e1, e2⟩ | ⟨e1, e2⟩⟩
    · exact ⟨x, hx, .inl ⟨e1.symm, e2.symm⟩⟩
    · exact ⟨x, hx, .inr ⟨e1.symm, e2.symm⟩⟩
theorem usesIf_iff {x : Lnk} {r d : Int} : usesIf x r d = true ↔ (x.a = r ∧ x.ai = d) ∨ (x.b = r ∧ x.bi = d) := by simp [usesIf]
theorem linkFrom_hit {r d : Int} : ∀ {l : List Lnk} {k : Nat}, (∃ x ∈ l, usesIf x r d = true) → ∃ (j : Nat) (x : Lnk), linkFrom r d k l = ((k + j : Nat) : Int) ∧ l[j]? = some x ∧ usesIf x r d = true
  | [], k, h => by obtain ⟨x, hx, _⟩ := h; cases hx
  | y :: l, k, h => by
    cases hy : usesIf y r d
    · obtain ⟨x, hx, hu⟩ := h
      rcases List.mem_cons.1 hx with rfl | hx
      · rw [hy] at hu; cases hu
      · obtain ⟨j, z, h1, h2, h3⟩ := linkFrom_hit (k := k + 1) ⟨x, hx, hu⟩
        refine ⟨j + 1, z, ?_, by simpa using h2, h3⟩
        unfold linkFrom
        rw [hy, h1]
        simp; omega
    · exact ⟨0, y, by unfold linkFrom; rw [hy]; simp, by simp, hy⟩
theorem linkIdx_hit {l : List Lnk} {r d : Int} (h : ∃ x ∈ l, usesIf x r d = true) : ∃ (j : Nat) (x : Lnk), linkIdx l r d = (j : Int) ∧ l[j]? = some x ∧ usesIf x r d = true := by
  obtain ⟨j, x, h1, h2, h3⟩ := linkFrom_hit (k := 0) h
  exact ⟨j, x, by unfold linkIdx; rw [h1]; simp, h2, h3⟩
theorem lnkOk_of {t : Topo} {x : Lnk} (h : lnkOk t x = true) : isAs t x.a = true ∧ isAs t x.b = true ∧ x.a < x.b ∧ (1 ≤ x.ai ∧ x.ai ≤ 6) ∧ (1 ≤ x.bi ∧ x.bi ≤ 6) := by
  unfold lnkOk at h
  simp only [Bool.and_eq_true, decide_eq_true_eq] at h
  obtain ⟨⟨⟨⟨⟨h1, h2⟩, h3⟩, h4⟩, h5⟩, _⟩ := h
  exact ⟨h1, h2, h3, inR_true.1 h4, inR_true.1 h5⟩
/-- The far end of an interface of a right topology. -/
theorem TopoOk.far {t : Topo} (h : TopoOk t) {r d : Int} (hd : d ∈ topoIfs t.links r) :
    ∃ x ∈ t.links, (x.a = r ∧ x.ai = d ∧ remEnd t r d = (x.b, x.bi)) ∨ (x.b = r ∧ x.bi = d ∧ remEnd t r d = (x.a, x.ai)) := by
  obtain ⟨y, hy, he⟩ := ifs_end.1 hd
  obtain ⟨j, x, h1, h2, h3⟩ := linkIdx_hit (l := t.links) (r := r) (d := d) ⟨y, hy, usesIf_iff.2 he⟩
  have hm : x ∈ t.links := List.mem_of_getElem? h2
  refine ⟨x, hm, ?_⟩
  have hr : remEnd t r d = if (x.a == r) && (x.ai == d) then (x.b, x.bi) else (x.a, x.ai) := by
    unfold remEnd
    rw [if_neg (by omega), h1, Int.toNat_natCast, h2]
  obtain ⟨_, _, hab, _⟩ := lnkOk_of (h.ok x hm)
  rcases usesIf_iff.1 h3 with ⟨e1, e2⟩ | ⟨e1, e2⟩
  · exact .inl ⟨e1, e2, by rw [hr]; simp [e1, e2]⟩
  · refine .inr ⟨e1, e2, ?_⟩
    rw [hr, if_neg]
    have : x.a ≠ r := by omega
    simp [this]
theorem TopoOk.door {t : Topo} (h : TopoOk t) {r d : Int} (hd : d ∈ topoIfs t.links r) : isAs t r = true ∧ (1 ≤ d ∧ d ≤ 6) ∧ isAs t (remEnd t r d).1 = true ∧ (1 ≤ (remEnd t r d).2 ∧ (remEnd t r d).2 ≤ 6) ∧ (remEnd t r d).1 ≠ r := by
  obtain ⟨x, hx, hh⟩ := h.far hd
  obtain ⟨h1, h2, h3, h4, h5⟩ := lnkOk_of (h.ok x hx)
  rcases hh with ⟨rfl, rfl, e⟩ | ⟨rfl, rfl, e⟩
  · rw [e]; exact ⟨h1, h4, h2, h5, by show x.b ≠ x.a; omega⟩
  · rw [e]; exact ⟨h2, h5, h1, h4, by show x.a ≠ x.b; omega⟩
theorem isAs_bd {t : Topo} (h : TopoOk t) {r : Int} (hr : isAs t r = true) : 0 ≤ r ∧ r ≤ 7 := by
  have := inR_true.1 hr
  have := h.n8
  omega
/-- The interfaces of a kind. -/
def ifsKind (t : Topo) (r k : Int) : List Int := (topoIfs t.links r).filter (fun d => ifKind t r d == k)
theorem ifsKind_mem {t : Topo} {r k d : Int} (h : d ∈ ifsKind t r k) : d ∈ topoIfs t.links r ∧ ifKind t r d = k := by
  obtain ⟨h1, h2⟩ := List.mem_filter.1 h
  exact ⟨h1, by simpa using h2⟩
end
section

def chainAdd (b : Int) (l : List Int) : Int := l.foldl addMod b
def chainSub (b : Int) (l : List Int) : Int := l.foldr (fun x b => subMod b x) b
theorem chainAdd_snoc {b : Int} {l : List Int} {k : Nat} (hk : k < l.length) : chainAdd b (l.take (k + 1)) = addMod (chainAdd b (l.take k)) l[k] := by
  unfold chainAdd; rw [List.take_succ_eq_append_getElem hk, List.foldl_append]; rfl
theorem chainSub_drop {b : Int} {l : List Int} {k : Nat} (hk : k < l.length) : chainSub b (l.drop k) = subMod (chainSub b (l.drop (k + 1))) l[k] := by
  unfold chainSub; rw [List.drop_eq_getElem_cons hk]; rfl
theorem sub_add {b s : Int} (hb : isRes b = true) (hs : isRes s = true) : subMod (addMod b s) s = b := by
  have h := addMod_res b s
  rw [subMod_yes h hs, addMod_yes hb hs]
  obtain ⟨a1, a2⟩ := isRes_true.1 hb
  obtain ⟨a3, a4⟩ := isRes_true.1 hs
  omega
theorem add_sub {b s : Int} (hb : isRes b = true) (hs : isRes s = true) : addMod (subMod b s) s = b := by
  have h := subMod_res b s
  rw [addMod_yes h hs, subMod_yes hb hs]
  obtain ⟨a1, a2⟩ := isRes_true.1 hb
  obtain ⟨a3, a4⟩ := isRes_true.1 hs
  omega
theorem chainAdd_res (b : Int) (l : List Int) (hb : isRes b = true) : isRes (chainAdd b l) = true := by
  unfold chainAdd
  induction l generalizing b with
  | nil => exact hb
  | cons x l ih => exact ih _ (addMod_res b x)
theorem chain_undone : ∀ (l : List Int) (b : Int), isRes b = true → (∀ x ∈ l, isRes x = true) → chainSub (chainAdd b l) l = b
  | [], b, _, _ => rfl
  | x :: l, b, hb, hl => by
    have h := chain_undone l (addMod b x) (addMod_res b x) (fun y hy => hl y (by simp [hy]))
    show subMod (chainSub (chainAdd (addMod b x) l) l) x = b
    rw [h]
    exact sub_add hb (hl x (by simp))
theorem chainAdd_append (b : Int) (l m : List Int) : chainAdd (chainAdd b l) m = chainAdd b (l ++ m) := by unfold chainAdd; rw [List.foldl_append]

theorem digStep_bd (d x : Int) : 0 ≤ digStep d x ∧ digStep d x < 2147483647 := by unfold digStep; omega
/-- Another state of the digest stays another one. -/
theorem digStep_inj {d e x : Int} (hd : 0 ≤ d ∧ d < 2147483647) (he : 0 ≤ e ∧ e < 2147483647) (h : digStep d x = digStep e x) : d = e := by
  unfold digStep at h
  generalize x % 2147483647 = c at *
  have h1 := Int.emod_eq_emod_iff_emod_sub_eq_zero.1 h
  rw [show (d * 1000003 + c + 11) - (e * 1000003 + c + 11) = (d - e) * 1000003 by rw [Int.sub_mul]; omega] at h1
  obtain ⟨k, hk⟩ := Int.dvd_of_emod_eq_zero h1
  clear h h1
  have e1 : (1000003 * 1523789695 : Int) - 2147483647 * 709572 = 1 := by decide
  have h2 : d - e = 2147483647 * (k * 1523789695 - (d - e) * 709572) := by
    generalize d - e = X at *
    calc X = X * ((1000003 * 1523789695 : Int) - 2147483647 * 709572) := by rw [e1, Int.mul_one]
      _ = (X * 1000003) * 1523789695 - 2147483647 * (X * 709572) := by rw [Int.mul_sub, Int.mul_assoc, Int.mul_left_comm X 2147483647]
      _ = 2147483647 * (k * 1523789695 - X * 709572) := by rw [hk, Int.mul_sub, Int.mul_assoc]
  generalize k * 1523789695 - (d - e) * 709572 = m at h2
  clear hk e1
  omega
theorem digStep_new {d x y : Int} (h : x % 2147483647 ≠ y % 2147483647) : digStep d x ≠ digStep d y := by
  unfold digStep
  generalize d * 1000003 = D
  omega
theorem dig_apart : ∀ (l : List Int) {d e : Int}, (0 ≤ d ∧ d < 2147483647) → (0 ≤ e ∧ e < 2147483647) → d ≠ e → l.foldl digStep d ≠ l.foldl digStep e
  | [], _, _, _, _, h => h
  | x :: l, d, e, hd, he, h => dig_apart l (digStep_bd d x) (digStep_bd e x) (fun hh => h (digStep_inj hd he hh))
theorem digest_set (l : List Int) (i : Nat) (hi : i < l.length) (y : Int) (h : l[i] % 2147483647 ≠ y % 2147483647) : ∀ (d : Int), (l.set i y).foldl digStep d ≠ l.foldl digStep d := by
  induction l generalizing i with
  | nil => simp at hi
  | cons x l ih =>
    intro d
    cases i with
    | zero =>
      simp only [List.set_cons_zero, List.foldl_cons]
      exact dig_apart l (digStep_bd d y) (digStep_bd d x) (fun e => digStep_new h e.symm)
    | succ i =>
      simp only [List.set_cons_succ, List.foldl_cons]
      exact ih i (by simpa using hi) (by simpa using h) _
theorem mac_set (k : Int) (l : List Int) (i : Nat) (hi : i < l.length) (y : Int) (h : l[i] % 2147483647 ≠ y % 2147483647) : macOf k (l.set i y) ≠ macOf k l := by
  unfold macOf digest
  simp only [List.cons_append, List.nil_append, List.foldl_cons, List.foldl_append]
  intro e
  have a := digest_set l i hi y h (digStep 7 k)
  have bd : ∀ (l : List Int) (d : Int), (0 ≤ d ∧ d < 2147483647) → 0 ≤ l.foldl digStep d ∧ l.foldl digStep d < 2147483647 := by
    intro l
    induction l with
    | nil => intro d h; exact h
    | cons x l ih => intro d _; exact ih _ (digStep_bd d x)
  simp only [List.foldl_nil] at e
  exact a (digStep_inj (bd _ _ (digStep_bd 7 k)) (bd _ _ (digStep_bd 7 k)) e)
end
section
open Go.RowKit

structure Seg where
  ts : Int
  beta : Int
  hops : List Hop
  deriving DecidableEq
def betaAt (s : Seg) (i : Int) : Int := if inR i 0 s.hops.length then chainAdd s.beta ((s.hops.take i.toNat).map (·.mac)) else 0
def sealHop (key ts beta : Int) (h : Hop) : Hop := { h with mac := hopMac key ts beta h }
def asns (l : List Hop) : List Int := l.map (·.asn)
inductive Grown (t : Topo) (kind ts beta : Int) : Int → Int → List Hop → Prop
  | start (r : Int) : isAs t r = true → (asAt t r).core = true → Grown t kind ts beta r 0 []
  | step (r inn out e : Int) (hs : List Hop) : Grown t kind ts beta r inn hs → out ∈ ifsKind t r kind → hasI (asns hs) (remEnd t r out).1 = false → inn ≠ out → ts + 50 ≤ e → e ≤ ts + 99 →
      Grown t kind ts beta (remEnd t r out).1 (remEnd t r out).2 (hs ++ [sealHop (asAt t r).key ts (betaAt ⟨ts, beta, hs⟩ hs.length) ⟨r, inn, out, e, 0⟩])
/-- A segment as it is drawn. -/
structure SegDrawn (t : Topo) (kind : Int) (s : Seg) : Prop where
  ts : 0 ≤ s.ts ∧ s.ts ≤ 49
  beta : 0 ≤ s.beta ∧ s.beta ≤ 999999
  len : s.hops.length ≤ 5
  how : (∃ r inn, Grown t kind s.ts s.beta r inn s.hops) ∨ s.hops = [] ∨ ∃ r inn e hs, Grown t kind s.ts s.beta r inn hs ∧ inn ≠ 0 ∧ s.ts + 50 ≤ e ∧ e ≤ s.ts + 99 ∧
    s.hops = hs ++ [sealHop (asAt t r).key s.ts (betaAt ⟨s.ts, s.beta, hs⟩ hs.length) ⟨r, inn, 0, e, 0⟩]
theorem betaAt_pre {ts beta : Int} {hs ms : List Hop} {k : Nat} (hk : k ≤ hs.length) : betaAt ⟨ts, beta, hs ++ ms⟩ k = betaAt ⟨ts, beta, hs⟩ k := by
  unfold betaAt
  have h1 : inR (k : Int) 0 ((hs ++ ms).length : Nat) = true := inR_true.2 (by simp; omega)
  have h2 : inR (k : Int) 0 (hs.length : Nat) = true := inR_true.2 (by omega)
  simp only [h1, h2, if_true, Int.toNat_natCast]
  rw [List.take_append_of_le_length hk]
theorem betaAt_nat {s : Seg} {k : Nat} (hk : k ≤ s.hops.length) : betaAt s k = chainAdd s.beta ((s.hops.take k).map (·.mac)) := by
  unfold betaAt
  rw [if_pos (inR_true.2 (by omega)), Int.toNat_natCast]
theorem hopMac_res (k ts b : Int) (h : Hop) : isRes (hopMac k ts b h) = true := by
  have h1 : ∀ (l : List Int) (d : Int), 0 ≤ d ∧ d < 2147483647 → 0 ≤ l.foldl digStep d ∧ l.foldl digStep d < 2147483647 := by
    intro l
    induction l with
    | nil => exact fun d h => h
    | cons x l ih => exact fun d _ => ih _ (digStep_bd d x)
  have h2 := h1 ([k] ++ [ts, b, h.asn, h.ing, h.eg, h.exp] ++ [k]) 7 (by omega)
  exact inR_true.2 (by unfold hopMac macOf digest; omega)
/-- A hop that is sealed verifies. -/
theorem seal_ok {t : Topo} (T : TopoOk t) {ts b : Int} {h : Hop} (ha : isAs t h.asn = true) (hi : 0 ≤ h.ing ∧ h.ing ≤ 6) (ho : 0 ≤ h.eg ∧ h.eg ≤ 6) (hne : h.ing ≠ h.eg) (he : 0 ≤ h.exp ∧ h.exp ≤ 1000000) :
    verHop t ts b (sealHop (asAt t h.asn).key ts b h) = true := by
  obtain ⟨h0, h7⟩ := isAs_bd T ha
  unfold verHop validHop sealHop
  simp only [inR_true.2 ⟨h0, h7⟩, inR_true.2 hi, inR_true.2 ho, inR_true.2 he, hopMac_res, ha, Bool.true_and, Bool.and_true, Bool.and_eq_true, bne_iff_ne, ne_eq, beq_iff_eq]
  exact ⟨hne, rfl⟩
/-- All hops of a row verify. -/
def Sealed (t : Topo) (ts beta : Int) (hs : List Hop) : Prop := ∀ (k : Nat) (hk : k < hs.length), verHop t ts (betaAt ⟨ts, beta, hs⟩ k) hs[k] = true
theorem Sealed.snoc {t : Topo} {ts beta : Int} {hs : List Hop} (S : Sealed t ts beta hs) {x : Hop} (hx : verHop t ts (betaAt ⟨ts, beta, hs⟩ hs.length) x = true) : Sealed t ts beta (hs ++ [x]) := by
  intro k hk
  rw [betaAt_pre (by simp at hk; omega)]
  rcases Nat.lt_or_ge k hs.length with h1 | h1
  · rw [List.getElem_append_left h1]; exact S k h1
  · obtain rfl : k = hs.length := by simp at hk; omega
    simpa using hx
theorem Sealed.nil (t : Topo) (ts beta : Int) : Sealed t ts beta [] := fun _ hk => by cases hk
theorem Grown.good {t : Topo} (T : TopoOk t) {kind ts beta : Int} (h0 : 0 ≤ ts ∧ ts ≤ 49) {r inn : Int} {hs : List Hop} (h : Grown t kind ts beta r inn hs) :
    isAs t r = true ∧ (0 ≤ inn ∧ inn ≤ 6) ∧ Sealed t ts beta hs := by
  induction h with
  | start r h1 _ => exact ⟨h1, by omega, Sealed.nil _ _ _⟩
  | step r inn out e hs _ hout _ hne he1 he2 ih =>
    obtain ⟨i1, i2, i3⟩ := ih
    obtain ⟨_, d2, d3, d4, _⟩ := T.door (ifsKind_mem hout).1
    exact ⟨d3, by omega, i3.snoc (seal_ok T (h := ⟨r, inn, out, e, 0⟩) i1 i2 (by simp only; omega) hne (by simp only; omega))⟩
theorem SegDrawn.ver {t : Topo} (T : TopoOk t) {kind : Int} {s : Seg} (h : SegDrawn t kind s) : Sealed t s.ts s.beta s.hops := by
  rcases h.how with ⟨r, inn, g⟩ | h1 | ⟨r, inn, e, hs, g, hne, he1, he2, h1⟩
  · exact (g.good T h.ts).2.2
  · rw [h1]; exact Sealed.nil _ _ _
  · obtain ⟨i1, i2, i3⟩ := g.good T h.ts
    rw [h1]
    exact i3.snoc (seal_ok T (h := ⟨r, inn, 0, e, 0⟩) i1 i2 (by simp only; omega) hne (by have := h.ts; simp only; omega))
theorem isRes_of {n : Int} (h0 : 0 ≤ n) (h1 : n ≤ 999999) : isRes n = true := inR_true.2 (by omega)

/-! Two segments joined. -/
def splice (a : Seg) (i : Int) (b : Seg) (j : Int) : Seg := if inR i 0 a.hops.length && inR j 0 b.hops.length then ⟨a.ts, a.beta, a.hops.take i.toNat ++ b.hops.drop j.toNat⟩ else ⟨0, 0, []⟩
def badFrom (t : Topo) (s : Seg) : Nat → Nat → Int
  | 0, _ => -1
  | n + 1, k => if verHop t s.ts (betaAt s k) (hopAt s.hops k) then badFrom t s n (k + 1) else k
/-- The first hop that does not verify. -/
def firstBad (t : Topo) (s : Seg) : Int := badFrom t s s.hops.length 0
theorem badFrom_val {t : Topo} {s : Seg} : ∀ {n k : Nat}, badFrom t s n k = -1 ∨ ∃ j : Nat, k ≤ j ∧ j < k + n ∧ badFrom t s n k = j ∧ verHop t s.ts (betaAt s j) (hopAt s.hops j) = false ∧ ∀ i, k ≤ i → i < j → verHop t s.ts (betaAt s i) (hopAt s.hops i) = true
  | 0, k => .inl rfl
  | n + 1, k => by
    unfold badFrom
    cases h : verHop t s.ts (betaAt s k) (hopAt s.hops k)
    · exact .inr ⟨k, Nat.le_refl _, by omega, by simp, h, fun i h1 h2 => by omega⟩
    · rcases badFrom_val (t := t) (s := s) (n := n) (k := k + 1) with h1 | ⟨j, h1, h2, h3, h4, h5⟩
      · exact .inl (by simpa using h1)
      · refine .inr ⟨j, by omega, by omega, by simpa using h3, h4, fun i hi hj => ?_⟩
        rcases Nat.eq_or_lt_of_le hi with e | e
        · rw [← e]; exact h
        · exact h5 i e hj
theorem badFrom_hit {t : Topo} {s : Seg} : ∀ {n k j : Nat}, k ≤ j → j < k + n → (∀ i, k ≤ i → i < j → verHop t s.ts (betaAt s i) (hopAt s.hops i) = true) → verHop t s.ts (betaAt s j) (hopAt s.hops j) = false → badFrom t s n k = j
  | 0, k, j, h1, h2, _, _ => by omega
  | n + 1, k, j, h1, h2, h3, h4 => by
    unfold badFrom
    rcases Nat.eq_or_lt_of_le h1 with e | e
    · subst e; rw [h4]; simp
    · rw [h3 k (Nat.le_refl _) e, if_pos rfl]
      exact badFrom_hit e (by omega) (fun i hi hj => h3 i (by omega) hj) h4
theorem hopAt_get {l : List Hop} {k : Nat} (hk : k < l.length) : hopAt l k = l[k] := by unfold hopAt; rw [List.getElem?_eq_getElem hk]
/-- Two joined segments verify exactly if their chaining values agree. -/
theorem splice_law {t : Topo} {a b : Seg} (S : Sealed t a.ts a.beta a.hops) {k m : Nat} (hk : k ≤ a.hops.length) (hm : m < b.hops.length) :
    if verHop t a.ts (betaAt a k) b.hops[m] = true then firstBad t (splice a k b m) < 0 ∨ (k : Int) < firstBad t (splice a k b m) else firstBad t (splice a k b m) = k := by
  have hs : splice a k b m = ⟨a.ts, a.beta, a.hops.take k ++ b.hops.drop m⟩ := by
    unfold splice
    rw [if_pos (by simp only [Bool.and_eq_true, inR_true]; omega), Int.toNat_natCast, Int.toNat_natCast]
  have hl : (a.hops.take k).length = k := by simp; omega
  have hb : ∀ i : Nat, i ≤ k → betaAt ⟨a.ts, a.beta, a.hops.take k ++ b.hops.drop m⟩ i = betaAt a i := by
    intro i hi
    rw [betaAt_pre (by omega), betaAt_nat (by rw [hl]; exact hi), betaAt_nat (by omega)]
    simp only
    rw [List.take_take, Nat.min_eq_left hi]
  have hpre : ∀ i : Nat, i < k → verHop t a.ts (betaAt ⟨a.ts, a.beta, a.hops.take k ++ b.hops.drop m⟩ i) (hopAt (a.hops.take k ++ b.hops.drop m) i) = true := by
    intro i hi
    rw [hb i (by omega), hopAt_get (by simp; omega), List.getElem_append_left (by omega), List.getElem_take]
    exact S i (by omega)
  have hat : hopAt (a.hops.take k ++ b.hops.drop m) k = b.hops[m] := by
    rw [hopAt_get (by simp; omega), List.getElem_append_right (by omega)]
    simp [hl]
  rw [hs]
  have hlen : (a.hops.take k ++ b.hops.drop m).length = k + (b.hops.length - m) := by simp; omega
  unfold firstBad
  simp only
  rw [hlen]
  split
  case isFalse hv =>
    exact badFrom_hit (Nat.zero_le _) (by omega) (fun i _ hi => hpre i hi) (by simp only; rw [hb k (Nat.le_refl _), hat]; simpa using hv)
  case isTrue hv =>
    rcases badFrom_val (t := t) (s := ⟨a.ts, a.beta, a.hops.take k ++ b.hops.drop m⟩) (n := k + (b.hops.length - m)) (k := 0) with h1 | ⟨j, _, _, h3, h4, _⟩
    · rw [h1]; exact .inl (by omega)
    · rw [h3]
      rcases Nat.lt_trichotomy j k with h5 | h5 | h5
      · simp only at h4; rw [hpre j h5] at h4; cases h4
      · subst h5; simp only at h4; rw [hb j (Nat.le_refl _), hat, hv] at h4; cases h4
      · exact .inr (by omega)
theorem splice_self {a : Seg} {k : Nat} (hk : k ≤ a.hops.length) : splice a k a k = a := by
  unfold splice
  rw [if_pos (by simp only [Bool.and_eq_true, inR_true]; omega)]
  simp
end
section
open Go.ChangeShapes Go.WideShapes Go.ChangeAt Go.RowKit Go.Deep

section
variable {P : Program} {w : World} {ops : Array Oper} {rest : List Oper} {o : Oper} {a : Act} {Q : Exit → Act → World → Prop}
/-- append(out, x), and where the new row lies; what x's cells are is asked of x alone. -/
theorem app1p {t e : TypeId} {n bytes : Nat} (E : Elem P t e n bytes) {α : Type} {f : α → List Value} (hf : ∀ a, (f a).length = n) (hgd : o.guard = none) (s x : Operand)
    (ho : o.op = .call { callee := .builtin .append, args := #[s, x], argTypes := #[t, t] }) {base : Nat} {v : Value} {l : List α} (b : α) (h1 : ∀ u ∈ f b, u.oneCell' = true) (hs : a.eval s = v) (hown : OwnF f n base e w v l)
    {g c : Nat} (hx : a.eval x = .slice (some ⟨g, 0, none⟩) 1 c) (hnews : ∀ j u, (f b)[j]? = some u → w.cell? ⟨g, j, none⟩ = some u)
    (hl : (l.length + 1) * bytes ≤ 140737488355328) (hm : l.length + 1 ≤ maxLen) (hbase : base ≤ w.heap.size)
    (h : ∀ v' w', OwnF f n base e w' v' (l ++ [b]) → w.grownBy w' v.ownBlock → (v'.ownBlock = v.ownBlock ∨ v'.ownBlock = some w.heap.size) → wpList P ops Q rest (a.put o.dst v') w') : wpList P ops Q (o :: rest) a w := by
  refine wpList_append_own_at w hgd s x t ho base e E.i E.z n bytes E.ht E.hi E.hz E.hsize E.hby E.hzs E.hpos v l.length (l.flatMap f) hs hown ⟨g, 0, none⟩ 1 c (f b) hx (by rw [hf, Nat.one_mul]) ?_ h1 hm hl hbase ?_
  · intro j u hu
    have hadd : (⟨g, 0, none⟩ : Addr).add j = ⟨g, j, none⟩ := by unfold Addr.add; split <;> simp_all
    rw [hadd]
    exact hnews j u hu
  · intro v' w' ho' hg _ hat
    refine h v' w' ?_ hg hat
    unfold OwnF
    rw [List.length_append, List.flatMap_append, List.flatMap_cons, List.flatMap_nil, List.append_nil]
    exact ho'
variable {α β : Type} {n : Nat} {c : α → Value → List Value} {hc : ∀ a v, (c a v).length = n} {sub : α → List β} {e : TypeId} {I : Own β}
/-- append(out, x) where x holds a new slice: lo is where the call began. -/
theorem appN {t : TypeId} {bytes lo : Nat} (E : Elem P t e n bytes) (hgd : o.guard = none) (s x : Operand)
    (ho : o.op = .call { callee := .builtin .append, args := #[s, x], argTypes := #[t, t] }) {w0 : World} {v : Value} {l : List α} (b : α) (hv : Value) (T : Nat → Prop)
    (h1 : ∀ u ∈ c b hv, u.oneCell' = true) (hs : a.eval s = v) (hown : (Own.nest n c hc sub e I).own (rng lo w0.heap.size) w0 v l) (hx0 : Ext w0 w) (hi : I.own T w hv (sub b)) (hT : ∀ q, T q → w0.heap.size ≤ q ∧ q < w.heap.size) (hlo : lo ≤ w0.heap.size)
    {g cp : Nat} (hx : a.eval x = .slice (some ⟨g, 0, none⟩) 1 cp) (hnews : ∀ j u, (c b hv)[j]? = some u → w.cell? ⟨g, j, none⟩ = some u)
    (hl : (l.length + 1) * bytes ≤ 140737488355328) (hm : l.length + 1 ≤ maxLen)
    (h : ∀ v' w', (Own.nest n c hc sub e I).own (rng lo w'.heap.size) w' v' (l ++ [b]) → w.grownBy w' v.ownBlock → (∀ q, v.ownBlock = some q → lo ≤ q) → wpList P ops Q rest (a.put o.dst v') w') : wpList P ops Q (o :: rest) a w := by
  obtain ⟨qs, hq, hoq, hS, hqq, hd⟩ := hown
  have hlq : qs.length = l.length := by rw [← hq, List.length_map]
  refine app1p E (f := capF c) (fun q : Cap α => hc q.dat q.val) hgd s x ho (⟨b, hv, T⟩ : Cap α) h1 hs (hoq.ext hx0) hx hnews (by rw [hlq]; exact hl) (by rw [hlq]; exact hm) (Nat.zero_le _) ?_
  intro v' w' ho' hg hat
  refine h v' w' ?_ hg (fun q hq => (hS q hq).1)
  refine nest_push (S := rng lo w0.heap.size) (T := T) qs b hv hq hS hqq hd (fun k hk => (hS k hk).2) hx0 hi (fun q hTq => ⟨⟨Nat.le_trans hlo (hT q hTq).1, Nat.lt_of_lt_of_le (hT q hTq).2 hg.size⟩, (hT q hTq).1, (hT q hTq).2⟩) (fun q hq => ⟨hq.1, Nat.lt_of_lt_of_le hq.2 (Nat.le_trans hx0.size hg.size)⟩) hg ?_ ho'
  rcases hat with h2 | h2
  · exact .inl h2
  · exact .inr ⟨_, h2, Nat.le_refl _, ⟨Nat.le_trans hlo hx0.size, (ho'.block _ h2).2⟩⟩
end
end
end Go.Proofs.YtjmlicmloacmaaaGreat
