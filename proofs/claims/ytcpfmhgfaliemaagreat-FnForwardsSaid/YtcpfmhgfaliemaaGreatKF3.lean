/- What these laws need: FnForwards: The data of path parts and paths, how they read, and the contracts of the laws' helper functions over them. The data of the struct Step (Step), how a slice of it reads, and the contracts of the laws' helper functions over it. The plain functions of paths: steps, ends, interfaces. Contracts of the functions on integers that the laws of this part reach. Contracts of the functions on parts and paths, program and reference. The data of the struct Revocation (Revc), how a slice of it reads, and the contracts of the laws' helper functions over it. The data of the struct Reservation (Resv), how a slice of it reads, and the contracts of the laws' helper functions over it. The data of the struct AS (ASd), how a slice of it reads, and the contracts of the laws' helper functions over it. The data of the struct Link (Lnk), how a slice of it reads, and the contracts of the laws' helper functions over it. The data of the struct Topology, how it reads, and the contracts of the laws' helper functions over it. Contracts of the arithmetic modulo the prime, program and reference. Contracts of turning parts around, program and reference. Marking and holding parts and paths: the contracts of the laws' helper functions. Slices of uint8: how they read, and the contracts of the laws' helper functions over them. The data of packets, how they read, what they own, and the contracts of the laws' helper functions over them. -/
import Derived.Deep.DeepCutAuto
import Derived.Deep.LoopGhost
import Derived.IntWalk
import Derived.Test.YtcpfmhgfaliemaaGreatKF2
namespace Go.Proofs.YtcpfmhgfaliemaaGreat
section
open Go.ChangeShapes Go.WideShapes Go.ChangeAt Go.RowKit Go.Deep
structure Part where
  kind : Int
  ts : Int
  beta : Int
  hops : List Hop
  deriving DecidableEq
def Part.c (x : Part) (v : Value) : List Value := [.int .i64 x.kind, .int .i64 x.ts, .int .i64 x.beta, v]
theorem Part.clen (x : Part) (v : Value) : (x.c v).length = 4 := rfl
def Part.rep : Rep Part where
  cells := 4
  rd w cs x := ∃ v, cs = x.c v ∧ RdS Hop.rep w v x.hops
  len := by rintro w cs a ⟨v, rfl, _⟩; rfl
  ext := by rintro w w' cs a e ⟨v, rfl, h⟩; exact ⟨v, rfl, h.ext e⟩
def Part.ok (x : Part) : Prop := I64 x.kind ∧ I64 x.ts ∧ I64 x.beta ∧ ∀ y ∈ x.hops, Hop.ok y
def Part.size (x : Part) : Nat := x.hops.length
theorem Part.at {w : World} {o : Option Addr} {m cap : Nat} {l : List Part} (h : RdS Part.rep w (.slice o m cap) l) (k : Nat) (hk : k < l.length) :
  ∃ b off oh ch, o = some ⟨b, off, none⟩ ∧ (w.cell? ⟨b, off + k * 4, none⟩ = some (.int .i64 l[k].kind) ∧ w.cell? ⟨b, off + k * 4 + 1, none⟩ = some (.int .i64 l[k].ts) ∧ w.cell? ⟨b, off + k * 4 + 2, none⟩ = some (.int .i64 l[k].beta) ∧
   w.cell? ⟨b, off + k * 4 + 3, none⟩ = some (.slice oh l[k].hops.length ch)) ∧ RdS Hop.rep w (.slice oh l[k].hops.length ch) l[k].hops := by
 obtain ⟨o', cap', hv, h1, h2, hn, h3⟩ := h; obtain ⟨b, off, cs, ho, hc, v, rfl, hr⟩ := h3 k hk
 cases hv
 obtain ⟨oh, ch, rfl, _⟩ := hr.shape; exact ⟨b, off, oh, ch, ho, ⟨hc 0 _ rfl, hc 1 _ rfl, hc 2 _ rfl, hc 3 _ rfl⟩, hr⟩
theorem Part.at_ext {w w' : World} {b off k : Nat} {v0 v1 v2 v3 : Value} (x : Ext w w') (h : w.cell? ⟨b, off + k * 4, none⟩ = some v0 ∧ w.cell? ⟨b, off + k * 4 + 1, none⟩ = some v1 ∧ w.cell? ⟨b, off + k * 4 + 2, none⟩ = some v2 ∧ w.cell? ⟨b, off + k * 4 + 3, none⟩ = some v3) :
  w'.cell? ⟨b, off + k * 4, none⟩ = some v0 ∧ w'.cell? ⟨b, off + k * 4 + 1, none⟩ = some v1 ∧ w'.cell? ⟨b, off + k * 4 + 2, none⟩ = some v2 ∧ w'.cell? ⟨b, off + k * 4 + 3, none⟩ = some v3 :=
 ⟨x.cell h.1, x.cell h.2.1, x.cell h.2.2.1, x.cell h.2.2.2⟩
structure Pth where
  parts : List Part
  deriving DecidableEq
def Pth.c (_ : Pth) (v : Value) : List Value := [v]
def Pth.rep : Rep Pth where
  cells := 1
  rd w cs x := ∃ v, cs = x.c v ∧ RdS Part.rep w v x.parts
  len := by rintro w cs a ⟨v, rfl, _⟩; rfl
  ext := by rintro w w' cs a e ⟨v, rfl, h⟩; exact ⟨v, rfl, h.ext e⟩
def Pth.ok (x : Pth) : Prop := ∀ y ∈ x.parts, Part.ok y
def hopsN (l : List Part) : Nat := (l.map Part.size).sum
theorem hopsN_snoc {l : List Part} {k : Nat} (hk : k < l.length) : hopsN (l.take (k + 1)) = hopsN (l.take k) + l[k].hops.length := by
 unfold hopsN; rw [List.take_succ_eq_append_getElem hk, List.map_append, List.sum_append]; simp only [List.map_cons, List.map_nil, List.sum_cons, List.sum_nil, Part.size]; omega
theorem hopsN_take_le (l : List Part) (k : Nat) : hopsN (l.take k) ≤ hopsN l := by
 unfold hopsN; have h := List.take_append_drop k l; have h2 : (l.map Part.size).sum = ((l.take k ++ l.drop k).map Part.size).sum := by rw [h]
 rw [List.map_append, List.sum_append] at h2; omega
theorem hopsN_le {l : List Part} {k : Nat} (hk : k < l.length) : l[k].hops.length ≤ hopsN l := by
 have h1 := hopsN_snoc hk; have h2 := hopsN_take_le l (k + 1); omega
def Pth.size (x : Pth) : Nat := x.parts.length + hopsN x.parts
def Part.own : Own Part := Own.nest 4 Part.c Part.clen (·.hops) 74 (Own.flat Hop.f 5 Hop.flen 71)
theorem Part.ord {S : Nat → Prop} {w : World} {v : Value} {l : List Part} (h : Part.own.own S w v l) : RdS Part.rep w v l := Part.own.rd h
theorem Tryz.infoPart : (Tryz.prog.info? 74).map (fun i => (i.zero, i.size, i.bytes)) = some (some (.agg #[.int .i64 0, .int .i64 0, .int .i64 0, .slice none 0 0]), 4, 48) := by kernel_rfl
end
section
open Go.ChangeShapes Go.WideShapes Go.ChangeAt Go.RowKit Go.Deep
structure Step where
  asn : Int
  ing : Int
  eg : Int
  deriving DecidableEq
def Step.f (x : Step) : List Value := [.int .i64 x.asn, .int .i64 x.ing, .int .i64 x.eg]
theorem Step.flen (x : Step) : x.f.length = 3 := rfl
def Step.rep : Rep Step := Rep.flat 3 Step.f Step.flen
theorem Step.one (x : Step) : ∀ u ∈ x.f, u.oneCell' = true := by
 intro u hu; simp only [Step.f, List.mem_cons, List.not_mem_nil, or_false] at hu
 rcases hu with rfl | rfl | rfl <;> rfl
theorem Step.at {w : World} {o : Option Addr} {m cap : Nat} {l : List Step} (h : RdS Step.rep w (.slice o m cap) l) (k : Nat) (hk : k < l.length) :
  ∃ b off, o = some ⟨b, off, none⟩ ∧ w.cell? ⟨b, off + k * 3, none⟩ = some (.int .i64 l[k].asn) ∧ w.cell? ⟨b, off + k * 3 + 1, none⟩ = some (.int .i64 l[k].ing) ∧ w.cell? ⟨b, off + k * 3 + 2, none⟩ = some (.int .i64 l[k].eg) := by
 obtain ⟨b, off, ho, hc⟩ := RdS.at_flat h k hk; exact ⟨b, off, ho, by simpa using hc 0 _ rfl, by simpa using hc 1 _ rfl, by simpa using hc 2 _ rfl⟩
theorem Step.at_ext {w w' : World} {b off k : Nat} {l : List Step} {hk : k < l.length} (x : Ext w w') (h : w.cell? ⟨b, off + k * 3, none⟩ = some (.int .i64 l[k].asn) ∧ w.cell? ⟨b, off + k * 3 + 1, none⟩ = some (.int .i64 l[k].ing) ∧ w.cell? ⟨b, off + k * 3 + 2, none⟩ = some (.int .i64 l[k].eg)) :
  w'.cell? ⟨b, off + k * 3, none⟩ = some (.int .i64 l[k].asn) ∧ w'.cell? ⟨b, off + k * 3 + 1, none⟩ = some (.int .i64 l[k].ing) ∧ w'.cell? ⟨b, off + k * 3 + 2, none⟩ = some (.int .i64 l[k].eg) := by
 obtain ⟨h0, h1, h2⟩ := h; exact ⟨x.cell h0, x.cell h1, x.cell h2⟩
theorem Step.own_at {base : Nat} {e : TypeId} {w : World} {g m cap : Nat} {l : List Step} (h : OwnF Step.f 3 base e w (.slice (some ⟨g, 0, none⟩) m cap) l) (k : Nat) (hk : k < l.length) :
  w.cell? ⟨g, k * 3, none⟩ = some (.int .i64 l[k].asn) ∧ w.cell? ⟨g, k * 3 + 1, none⟩ = some (.int .i64 l[k].ing) ∧ w.cell? ⟨g, k * 3 + 2, none⟩ = some (.int .i64 l[k].eg) := by
 have hc := OwnF.cells_flat Step.flen h k hk; exact ⟨by simpa using hc 0 _ rfl, by simpa using hc 1 _ rfl, by simpa using hc 2 _ rfl⟩
theorem Tryz.infoStep : (Tryz.prog.info? 86).map (fun i => (i.zero, i.size, i.bytes)) = some (some (.agg #[.int .i64 0, .int .i64 0, .int .i64 0]), 3, 24) := by kernel_rfl
theorem Step.sets {l : List Step} {k : Nat} (hk : k < l.length) (x : Step) : ((((l.flatMap Step.f).set (k * 3) (.int .i64 x.asn)).set (k * 3 + 1) (.int .i64 x.ing)).set (k * 3 + 2) (.int .i64 x.eg)) = (l.set k x).flatMap Step.f := by
 induction l generalizing k with
 | nil => simp at hk
 | cons a l ih =>
  cases k with
  | zero => rfl
  | succ k =>
   have := ih (k := k) (by simpa using hk); simp only [List.flatMap_cons, List.set_cons_succ, ← this, Step.f]; rw [show (k + 1) * 3 = k * 3 + 1 + 1 + 1 from by omega]; rfl
theorem Step.own_set {base : Nat} {e : TypeId} {w : World} {g m cap : Nat} {l : List Step} (h : OwnF Step.f 3 base e w (.slice (some ⟨g, 0, none⟩) m cap) l) (k : Nat) (hk : k < l.length) (x : Step) :
  OwnF Step.f 3 base e (((w.setCell ⟨g, k * 3, none⟩ (.int .i64 x.asn)).setCell ⟨g, k * 3 + 1, none⟩ (.int .i64 x.ing)).setCell ⟨g, k * 3 + 2, none⟩ (.int .i64 x.eg)) (.slice (some ⟨g, 0, none⟩) m cap) (l.set k x) ∧
   w.grownBy (((w.setCell ⟨g, k * 3, none⟩ (.int .i64 x.asn)).setCell ⟨g, k * 3 + 1, none⟩ (.int .i64 x.ing)).setCell ⟨g, k * 3 + 2, none⟩ (.int .i64 x.eg)) (some g) := by
 obtain rfl := h.len; obtain ⟨h0, g0⟩ := World.ownsRow.stored h (k * 3) (.int .i64 x.asn); obtain ⟨h1, g1⟩ := World.ownsRow.stored h0 (k * 3 + 1) (.int .i64 x.ing); obtain ⟨h2, g2⟩ := World.ownsRow.stored h1 (k * 3 + 2) (.int .i64 x.eg); rw [Step.sets hk] at h2; refine ⟨?_, ((g0.trans g1).trans g2)⟩; unfold OwnF; rw [List.length_set]; exact h2
theorem Step.ext' {x y : Step} (h0 : x.asn = y.asn) (h1 : x.ing = y.ing) (h2 : x.eg = y.eg) : x = y := by
 cases x; cases y; simp_all
def Step.mk' (k : Int) : Step := ⟨k, k + 1, k + 1 + 1⟩
def Step.ok (x : Step) : Prop := I64 x.asn ∧ I64 x.ing ∧ I64 x.eg
end
section
open Go.RowKit
def isRev (k : Int) : Bool := k == 1 || k == 3
def hopIn (k : Int) (h : Hop) : Int := if isRev k then h.eg else h.ing
def hopEg (k : Int) (h : Hop) : Int := if isRev k then h.ing else h.eg
def partIn (p : Part) (i : Int) : Int := if 0 ≤ i ∧ i ≤ p.hops.length - 1 then (match p.hops[i.toNat]? with | some h => hopIn p.kind h | none => 0) else 0
def partEg (p : Part) (i : Int) : Int := if 0 ≤ i ∧ i ≤ p.hops.length - 1 then (match p.hops[i.toNat]? with | some h => hopEg p.kind h | none => 0) else 0
theorem partIn_at {p : Part} {i : Nat} (h : i < p.hops.length) : partIn p i = hopIn p.kind p.hops[i] := by
 unfold partIn; rw [if_pos (by omega)]; simp [h]
theorem partEg_at {p : Part} {i : Nat} (h : i < p.hops.length) : partEg p i = hopEg p.kind p.hops[i] := by
 unfold partEg; rw [if_pos (by omega)]; simp [h]
def mergeB (m : Bool) (out : List Step) (h : Hop) : Bool := m && (match out.getLast? with | some s => s.asn == h.asn | none => false)
def stepOf (k : Int) (h : Hop) : Step := ⟨h.asn, hopIn k h, hopEg k h⟩
def stepOne (m : Bool) (k : Int) (out : List Step) (h : Hop) : List Step :=
  if mergeB m out h then (match out.getLast? with | some s => out.set (out.length - 1) ⟨s.asn, s.ing, hopEg k h⟩ | none => out) else out ++ [stepOf k h]
def hopsTo (m : Bool) (k : Int) (out : List Step) (hs : List Hop) : Nat → List Step
  | 0 => out
  | i + 1 => match hs[i]? with
    | some h => stepOne (m && i == 0) k (hopsTo m k out hs i) h
    | none => hopsTo m k out hs i
def partsTo (ps : List Part) : Nat → List Step
  | 0 => []
  | k + 1 => match ps[k]? with
    | some p => hopsTo (decide (0 < k)) p.kind (partsTo ps k) p.hops p.hops.length
    | none => partsTo ps k
def endsIn (l : List Step) : List Step := if h : 0 < l.length then l.set 0 ⟨l[0].asn, 0, l[0].eg⟩ else l
def endsEg (l : List Step) : List Step := if h : 0 < l.length then l.set (l.length - 1) ⟨l[l.length - 1].asn, l[l.length - 1].ing, 0⟩ else l
def pathSteps (ps : List Part) : List Step := endsEg (endsIn (partsTo ps ps.length))
theorem hopsTo_succ {m : Bool} {k : Int} {out : List Step} {hs : List Hop} {i : Nat} (h : i < hs.length) : hopsTo m k out hs (i + 1) = stepOne (m && i == 0) k (hopsTo m k out hs i) hs[i] := by
 simp [hopsTo, h]
theorem partsTo_succ {ps : List Part} {k : Nat} (h : k < ps.length) : partsTo ps (k + 1) = hopsTo (decide (0 < k)) ps[k].kind (partsTo ps k) ps[k].hops ps[k].hops.length := by
 simp [partsTo, h]
theorem stepOne_no {m : Bool} {k : Int} {out : List Step} {h : Hop} (hm : mergeB m out h = false) : stepOne m k out h = out ++ [stepOf k h] := by simp [stepOne, hm]
theorem mergeB_len {m : Bool} {out : List Step} {h : Hop} (hm : mergeB m out h = true) : 0 < out.length := by
 cases out with
 | nil => simp [mergeB] at hm
 | cons a l => simp
theorem getLast_at {α : Type} {out : List α} (h : 0 < out.length) : out.getLast? = some out[out.length - 1] := by
 rw [List.getLast?_eq_getElem?, List.getElem?_eq_getElem (by omega)]
theorem mergeB_at {m : Bool} {out : List Step} {h : Hop} (hl : 0 < out.length) : mergeB m out h = (m && (out[out.length - 1].asn == h.asn)) := by
 unfold mergeB; rw [getLast_at hl]
theorem mergeB_nil {m : Bool} {h : Hop} : mergeB m [] h = false := by simp [mergeB]
theorem stepOne_yes {m : Bool} {k : Int} {out : List Step} {h : Hop} (hm : mergeB m out h = true) (hn : 0 < out.length) : stepOne m k out h = out.set (out.length - 1) ⟨(out[out.length - 1]'(by omega)).asn, (out[out.length - 1]'(by omega)).ing, hopEg k h⟩ := by
 simp only [stepOne, hm, if_true]; rw [getLast_at hn]
theorem stepOne_yes2 {m : Bool} {k : Int} {out : List Step} {h : Hop} (hm : mergeB m out h = true) (hn : 0 < out.length) : stepOne m k out h = out.take (out.length - 1) ++ [⟨h.asn, (out[out.length - 1]'(by omega)).ing, hopEg k h⟩] := by
 rw [stepOne_yes hm hn]
 have h1 : out[out.length - 1].asn = h.asn := by
  rw [mergeB_at hn] at hm; simp only [Bool.and_eq_true, beq_iff_eq] at hm; exact hm.2
 rw [h1]
 apply List.ext_getElem
 ·
  simp; omega
 ·
  intro i h1 h2; simp only [List.length_set] at h1; rw [List.getElem_set]
  by_cases hi : out.length - 1 = i
  ·
   subst hi; rw [if_pos rfl, List.getElem_append_right (by simp)]
   simp
  ·
   rw [if_neg hi, List.getElem_append_left (by simp; omega)]
   simp
theorem stepOne_len (m : Bool) (k : Int) (out : List Step) (h : Hop) : (stepOne m k out h).length ≤ out.length + 1 := by
 cases hm : mergeB m out h
 ·
  rw [stepOne_no hm]; simp
 ·
  rw [stepOne_yes hm (mergeB_len hm)]; simp
theorem hopsTo_len (m : Bool) (k : Int) (out : List Step) (hs : List Hop) : ∀ i, (hopsTo m k out hs i).length ≤ out.length + i
 | 0 => Nat.le_refl _
 | i + 1 => by
  have ih := hopsTo_len m k out hs i; unfold hopsTo
  split
  ·
   have := stepOne_len (m && i == 0) k (hopsTo m k out hs i) (by assumption); omega
  ·
   omega
theorem partsTo_len (ps : List Part) : ∀ k, k ≤ ps.length → (partsTo ps k).length ≤ hopsN (ps.take k)
 | 0, _ => by simp [partsTo]
 | k + 1, hk => by
  have ih := partsTo_len ps k (by omega); rw [partsTo_succ (by omega), hopsN_snoc (by omega)]; have := hopsTo_len (decide (0 < k)) ps[k].kind (partsTo ps k) ps[k].hops ps[k].hops.length; omega
theorem endsIn_len (l : List Step) : (endsIn l).length = l.length := by unfold endsIn; split <;> simp
theorem endsEg_len (l : List Step) : (endsEg l).length = l.length := by unfold endsEg; split <;> simp
theorem pathSteps_len (ps : List Part) : (pathSteps ps).length ≤ hopsN ps := by
 unfold pathSteps; rw [endsEg_len, endsIn_len]; have := partsTo_len ps ps.length (Nat.le_refl _)
 rwa [List.take_length] at this
def endsOf (l : List Step) : Int × Int := match l with
  | [] => (-1, -1)
  | a :: l => (a.asn, ((a :: l).getLast (by simp)).asn)
theorem endsOf_nil {l : List Step} (h : l.length = 0) : endsOf l = (-1, -1) := by
 unfold endsOf; rw [List.eq_nil_of_length_eq_zero h]
theorem endsOf_at {l : List Step} (h : 0 < l.length) : endsOf l = (l[0].asn, l[l.length - 1].asn) := by
 cases l with
 | nil => simp at h
 | cons a l => simp [endsOf, List.getLast_eq_getElem]
def ends (ps : List Part) : Int × Int := endsOf (pathSteps ps)
end
section
open Go.ChangeShapes Go.WideShapes Go.ChangeAt Go.RowKit Go.Deep
def inR (n a b : Int) : Bool := decide (a ≤ n) && decide (n ≤ b)
theorem inR_true {n a b : Int} : inR n a b = true ↔ a ≤ n ∧ n ≤ b := by simp [inR]
theorem inR_false {n a b : Int} : inR n a b = false ↔ ¬ (a ≤ n ∧ n ≤ b) := by rw [← inR_true]; simp
set_option maxHeartbeats 400000 in
theorem i_InRange (n a b : Int) (w : World) :
  Calls Tryz.prog 102 #[.int .i64 n, .int .i64 a, .int .i64 b] w fun e w' => e = .returned (.bool (inR n a b)) ∧ w = w' := by
 go_enter Tryz.func102, Tryz.ntmps102
 go_wp2
 all_goals
  go_ret
  refine ⟨ret_bool ?_, rfl⟩
  simp [inR, *]
  try omega
set_option maxHeartbeats 400000 in
theorem s_l1In (n a b : Int) (w : World) :
  Calls Tryz.prog 103 #[.int .i64 n, .int .i64 a, .int .i64 b] w fun e w' => e = .returned (.bool (inR n a b)) ∧ w = w' := by
 go_enter Tryz.func103, Tryz.ntmps103
 go_wp2
 all_goals
  go_ret
  refine ⟨ret_bool ?_, rfl⟩
  simp [inR, *]
  try omega
end
section
open Go.ChangeShapes Go.WideShapes Go.ChangeAt Go.RowKit Go.Deep
theorem elemStp : Nonempty (Elem Tryz.prog 92 86 3 24) := Elem.mk' Tryz.underlying92 Tryz.infoStep rfl (by decide)
set_option maxHeartbeats 400000 in
theorem i_IsReversed (k : Int) (w : World) :
  Calls Tryz.prog 123 #[.int .i64 k] w fun e w' => e = .returned (.bool (isRev k)) ∧ w = w' := by
 go_enter Tryz.func123, Tryz.ntmps123
 go_wp2
 all_goals
  go_ret
  refine ⟨ret_bool ?_, rfl⟩
  simp [isRev, *]
set_option maxHeartbeats 400000 in
theorem s_IsReversed (k : Int) (w : World) :
  Calls Tryz.prog 184 #[.int .i64 k] w fun e w' => e = .returned (.bool (isRev k)) ∧ w = w' := by
 go_enter Tryz.func184, Tryz.ntmps184
 go_wp2
 all_goals
  go_ret
  refine ⟨ret_bool ?_, rfl⟩
  simp [isRev, *]
set_option maxHeartbeats 1000000 in
theorem i_PartIngress (x : Part) (v : Value) (i : Int) (w : World) (r : RdS Hop.rep w v x.hops) :
  Calls Tryz.prog 157 #[.agg #[.int .i64 x.kind, .int .i64 x.ts, .int .i64 x.beta, v], .int .i64 i] w fun e w' => e = .returned (.int .i64 (partIn x i)) ∧ Ext w w' := by
 obtain ⟨o, cap, rfl, hsm⟩ := r.shape; have hx0 : Ext w (w.alloc (.cells #[.int .i64 x.kind, .int .i64 x.ts, .int .i64 x.beta, .slice o x.hops.length cap] 74)) := (Ext.refl _).alloc _
 go_enter Tryz.func157, Tryz.ntmps157
 go_wp2_with fail
 refine (i_InRange _ _ _ _).mono ?_; rintro e w1 ⟨rfl, rfl⟩
 cases hin : inR i 0 (x.hops.length - 1)
 ·
  have he : partIn x i = 0 := by unfold partIn; rw [if_neg (inR_false.1 hin)]
  have HE := Lib.hid he; clear he
  go_wp2_with fail
  go_ret
  exact ⟨ret_int HE.out.symm, hx0⟩
 ·
  obtain ⟨h1, h2⟩ := inR_true.1 hin; obtain ⟨k, rfl⟩ := Int.eq_ofNat_of_zero_le h1; have hk : k < x.hops.length := by omega
  have he := partIn_at hk; have HE := Lib.hid he; clear he; obtain ⟨b, off, rfl, hc⟩ := Hop.at (r.ext hx0) k hk
  go_wp2_with fail
  refine (i_IsReversed _ _).mono ?_; rintro e w1 ⟨rfl, rfl⟩
  cases hrv : isRev x.kind
  ·
   have hh : hopIn x.kind x.hops[k] = x.hops[k].ing := by simp [hopIn, hrv]
   have HH := Lib.hid (HE.out.trans hh); clear hh
   go_wp2_with fail
   go_ret
   exact ⟨ret_int HH.out.symm, hx0⟩
  ·
   have hh : hopIn x.kind x.hops[k] = x.hops[k].eg := by simp [hopIn, hrv]
   have HH := Lib.hid (HE.out.trans hh); clear hh
   go_wp2_with fail
   go_ret
   exact ⟨ret_int HH.out.symm, hx0⟩
set_option maxHeartbeats 1000000 in
theorem i_PartEgress (x : Part) (v : Value) (i : Int) (w : World) (r : RdS Hop.rep w v x.hops) :
  Calls Tryz.prog 156 #[.agg #[.int .i64 x.kind, .int .i64 x.ts, .int .i64 x.beta, v], .int .i64 i] w fun e w' => e = .returned (.int .i64 (partEg x i)) ∧ Ext w w' := by
 obtain ⟨o, cap, rfl, hsm⟩ := r.shape; have hx0 : Ext w (w.alloc (.cells #[.int .i64 x.kind, .int .i64 x.ts, .int .i64 x.beta, .slice o x.hops.length cap] 74)) := (Ext.refl _).alloc _
 go_enter Tryz.func156, Tryz.ntmps156
 go_wp2_with fail
 refine (i_InRange _ _ _ _).mono ?_; rintro e w1 ⟨rfl, rfl⟩
 cases hin : inR i 0 (x.hops.length - 1)
 ·
  have he : partEg x i = 0 := by unfold partEg; rw [if_neg (inR_false.1 hin)]
  have HE := Lib.hid he; clear he
  go_wp2_with fail
  go_ret
  exact ⟨ret_int HE.out.symm, hx0⟩
 ·
  obtain ⟨h1, h2⟩ := inR_true.1 hin; obtain ⟨k, rfl⟩ := Int.eq_ofNat_of_zero_le h1; have hk : k < x.hops.length := by omega
  have he := partEg_at hk; have HE := Lib.hid he; clear he; obtain ⟨b, off, rfl, hc⟩ := Hop.at (r.ext hx0) k hk
  go_wp2_with fail
  refine (i_IsReversed _ _).mono ?_; rintro e w1 ⟨rfl, rfl⟩
  cases hrv : isRev x.kind
  ·
   have hh : hopEg x.kind x.hops[k] = x.hops[k].eg := by simp [hopEg, hrv]
   have HH := Lib.hid (HE.out.trans hh); clear hh
   go_wp2_with fail
   go_ret
   exact ⟨ret_int HH.out.symm, hx0⟩
  ·
   have hh : hopEg x.kind x.hops[k] = x.hops[k].ing := by simp [hopEg, hrv]
   have HH := Lib.hid (HE.out.trans hh); clear hh
   go_wp2_with fail
   go_ret
   exact ⟨ret_int HH.out.symm, hx0⟩
set_option maxHeartbeats 1000000 in
theorem s_PartIngress (x : Part) (v : Value) (i : Int) (w : World) (r : RdS Hop.rep w v x.hops) :
  Calls Tryz.prog 112 #[.agg #[.int .i64 x.kind, .int .i64 x.ts, .int .i64 x.beta, v], .int .i64 i] w fun e w' => e = .returned (.int .i64 (partIn x i)) ∧ Ext w w' := by
 obtain ⟨o, cap, rfl, hsm⟩ := r.shape; have hx0 : Ext w (w.alloc (.cells #[.int .i64 x.kind, .int .i64 x.ts, .int .i64 x.beta, .slice o x.hops.length cap] 74)) := (Ext.refl _).alloc _
 go_enter Tryz.func112, Tryz.ntmps112
 go_wp2_with fail
 refine (s_l1In _ _ _ _).mono ?_; rintro e w1 ⟨rfl, rfl⟩
 cases hin : inR i 0 (x.hops.length - 1)
 ·
  have he : partIn x i = 0 := by unfold partIn; rw [if_neg (inR_false.1 hin)]
  have HE := Lib.hid he; clear he
  go_wp2_with fail
  go_ret
  exact ⟨ret_int HE.out.symm, hx0⟩
 ·
  obtain ⟨h1, h2⟩ := inR_true.1 hin; obtain ⟨k, rfl⟩ := Int.eq_ofNat_of_zero_le h1; have hk : k < x.hops.length := by omega
  have he := partIn_at hk; have HE := Lib.hid he; clear he; obtain ⟨b, off, rfl, hc⟩ := Hop.at (r.ext hx0) k hk
  go_wp2_with fail
  refine (s_IsReversed _ _).mono ?_; rintro e w1 ⟨rfl, rfl⟩
  cases hrv : isRev x.kind
  ·
   have hh : hopIn x.kind x.hops[k] = x.hops[k].ing := by simp [hopIn, hrv]
   have HH := Lib.hid (HE.out.trans hh); clear hh
   go_wp2_with fail
   go_ret
   exact ⟨ret_int HH.out.symm, hx0⟩
  ·
   have hh : hopIn x.kind x.hops[k] = x.hops[k].eg := by simp [hopIn, hrv]
   have HH := Lib.hid (HE.out.trans hh); clear hh
   go_wp2_with fail
   go_ret
   exact ⟨ret_int HH.out.symm, hx0⟩
set_option maxHeartbeats 1000000 in
theorem s_PartEgress (x : Part) (v : Value) (i : Int) (w : World) (r : RdS Hop.rep w v x.hops) :
  Calls Tryz.prog 116 #[.agg #[.int .i64 x.kind, .int .i64 x.ts, .int .i64 x.beta, v], .int .i64 i] w fun e w' => e = .returned (.int .i64 (partEg x i)) ∧ Ext w w' := by
 obtain ⟨o, cap, rfl, hsm⟩ := r.shape; have hx0 : Ext w (w.alloc (.cells #[.int .i64 x.kind, .int .i64 x.ts, .int .i64 x.beta, .slice o x.hops.length cap] 74)) := (Ext.refl _).alloc _
 go_enter Tryz.func116, Tryz.ntmps116
 go_wp2_with fail
 refine (s_l1In _ _ _ _).mono ?_; rintro e w1 ⟨rfl, rfl⟩
 cases hin : inR i 0 (x.hops.length - 1)
 ·
  have he : partEg x i = 0 := by unfold partEg; rw [if_neg (inR_false.1 hin)]
  have HE := Lib.hid he; clear he
  go_wp2_with fail
  go_ret
  exact ⟨ret_int HE.out.symm, hx0⟩
 ·
  obtain ⟨h1, h2⟩ := inR_true.1 hin; obtain ⟨k, rfl⟩ := Int.eq_ofNat_of_zero_le h1; have hk : k < x.hops.length := by omega
  have he := partEg_at hk; have HE := Lib.hid he; clear he; obtain ⟨b, off, rfl, hc⟩ := Hop.at (r.ext hx0) k hk
  go_wp2_with fail
  refine (s_IsReversed _ _).mono ?_; rintro e w1 ⟨rfl, rfl⟩
  cases hrv : isRev x.kind
  ·
   have hh : hopEg x.kind x.hops[k] = x.hops[k].eg := by simp [hopEg, hrv]
   have HH := Lib.hid (HE.out.trans hh); clear hh
   go_wp2_with fail
   go_ret
   exact ⟨ret_int HH.out.symm, hx0⟩
  ·
   have hh : hopEg x.kind x.hops[k] = x.hops[k].ing := by simp [hopEg, hrv]
   have HH := Lib.hid (HE.out.trans hh); clear hh
   go_wp2_with fail
   go_ret
   exact ⟨ret_int HH.out.symm, hx0⟩
end
section
open Go.ChangeShapes Go.WideShapes Go.ChangeAt Go.RowKit Go.Deep
structure Revc where
  asn : Int
  iface : Int
  till : Int
  deriving DecidableEq
def Revc.f (x : Revc) : List Value := [.int .i64 x.asn, .int .i64 x.iface, .int .i64 x.till]
theorem Revc.flen (x : Revc) : x.f.length = 3 := rfl
def Revc.rep : Rep Revc := Rep.flat 3 Revc.f Revc.flen
theorem Revc.one (x : Revc) : ∀ u ∈ x.f, u.oneCell' = true := by
 intro u hu; simp only [Revc.f, List.mem_cons, List.not_mem_nil, or_false] at hu
 rcases hu with rfl | rfl | rfl <;> rfl
theorem Revc.at {w : World} {o : Option Addr} {m cap : Nat} {l : List Revc} (h : RdS Revc.rep w (.slice o m cap) l) (k : Nat) (hk : k < l.length) :
  ∃ b off, o = some ⟨b, off, none⟩ ∧ w.cell? ⟨b, off + k * 3, none⟩ = some (.int .i64 l[k].asn) ∧ w.cell? ⟨b, off + k * 3 + 1, none⟩ = some (.int .i64 l[k].iface) ∧ w.cell? ⟨b, off + k * 3 + 2, none⟩ = some (.int .i64 l[k].till) := by
 obtain ⟨b, off, ho, hc⟩ := RdS.at_flat h k hk; exact ⟨b, off, ho, by simpa using hc 0 _ rfl, by simpa using hc 1 _ rfl, by simpa using hc 2 _ rfl⟩
theorem Revc.at_ext {w w' : World} {b off k : Nat} {l : List Revc} {hk : k < l.length} (x : Ext w w') (h : w.cell? ⟨b, off + k * 3, none⟩ = some (.int .i64 l[k].asn) ∧ w.cell? ⟨b, off + k * 3 + 1, none⟩ = some (.int .i64 l[k].iface) ∧ w.cell? ⟨b, off + k * 3 + 2, none⟩ = some (.int .i64 l[k].till)) :
  w'.cell? ⟨b, off + k * 3, none⟩ = some (.int .i64 l[k].asn) ∧ w'.cell? ⟨b, off + k * 3 + 1, none⟩ = some (.int .i64 l[k].iface) ∧ w'.cell? ⟨b, off + k * 3 + 2, none⟩ = some (.int .i64 l[k].till) := by
 obtain ⟨h0, h1, h2⟩ := h; exact ⟨x.cell h0, x.cell h1, x.cell h2⟩
theorem Revc.own_at {base : Nat} {e : TypeId} {w : World} {g m cap : Nat} {l : List Revc} (h : OwnF Revc.f 3 base e w (.slice (some ⟨g, 0, none⟩) m cap) l) (k : Nat) (hk : k < l.length) :
  w.cell? ⟨g, k * 3, none⟩ = some (.int .i64 l[k].asn) ∧ w.cell? ⟨g, k * 3 + 1, none⟩ = some (.int .i64 l[k].iface) ∧ w.cell? ⟨g, k * 3 + 2, none⟩ = some (.int .i64 l[k].till) := by
 have hc := OwnF.cells_flat Revc.flen h k hk; exact ⟨by simpa using hc 0 _ rfl, by simpa using hc 1 _ rfl, by simpa using hc 2 _ rfl⟩
theorem Revc.sets {l : List Revc} {k : Nat} (hk : k < l.length) (x : Revc) : ((((l.flatMap Revc.f).set (k * 3) (.int .i64 x.asn)).set (k * 3 + 1) (.int .i64 x.iface)).set (k * 3 + 2) (.int .i64 x.till)) = (l.set k x).flatMap Revc.f := by
 induction l generalizing k with
 | nil => simp at hk
 | cons a l ih =>
  cases k with
  | zero => rfl
  | succ k =>
   have := ih (k := k) (by simpa using hk); simp only [List.flatMap_cons, List.set_cons_succ, ← this, Revc.f]; rw [show (k + 1) * 3 = k * 3 + 1 + 1 + 1 from by omega]; rfl
theorem Revc.own_set {base : Nat} {e : TypeId} {w : World} {g m cap : Nat} {l : List Revc} (h : OwnF Revc.f 3 base e w (.slice (some ⟨g, 0, none⟩) m cap) l) (k : Nat) (hk : k < l.length) (x : Revc) :
  OwnF Revc.f 3 base e (((w.setCell ⟨g, k * 3, none⟩ (.int .i64 x.asn)).setCell ⟨g, k * 3 + 1, none⟩ (.int .i64 x.iface)).setCell ⟨g, k * 3 + 2, none⟩ (.int .i64 x.till)) (.slice (some ⟨g, 0, none⟩) m cap) (l.set k x) ∧
   w.grownBy (((w.setCell ⟨g, k * 3, none⟩ (.int .i64 x.asn)).setCell ⟨g, k * 3 + 1, none⟩ (.int .i64 x.iface)).setCell ⟨g, k * 3 + 2, none⟩ (.int .i64 x.till)) (some g) := by
 obtain rfl := h.len; obtain ⟨h0, g0⟩ := World.ownsRow.stored h (k * 3) (.int .i64 x.asn); obtain ⟨h1, g1⟩ := World.ownsRow.stored h0 (k * 3 + 1) (.int .i64 x.iface); obtain ⟨h2, g2⟩ := World.ownsRow.stored h1 (k * 3 + 2) (.int .i64 x.till); rw [Revc.sets hk] at h2; refine ⟨?_, ((g0.trans g1).trans g2)⟩; unfold OwnF; rw [List.length_set]; exact h2
theorem Revc.ext' {x y : Revc} (h0 : x.asn = y.asn) (h1 : x.iface = y.iface) (h2 : x.till = y.till) : x = y := by
 cases x; cases y; simp_all
def Revc.mk' (k : Int) : Revc := ⟨k, k + 1, k + 1 + 1⟩
def Revc.ok (x : Revc) : Prop := I64 x.asn ∧ I64 x.iface ∧ I64 x.till
end
section
open Go.ChangeShapes Go.WideShapes Go.ChangeAt Go.RowKit Go.Deep
structure Resv where
  id : Int
  asn : Int
  iface : Int
  rate : Int
  till : Int
  deriving DecidableEq
def Resv.f (x : Resv) : List Value := [.int .i64 x.id, .int .i64 x.asn, .int .i64 x.iface, .int .i64 x.rate, .int .i64 x.till]
theorem Resv.flen (x : Resv) : x.f.length = 5 := rfl
def Resv.rep : Rep Resv := Rep.flat 5 Resv.f Resv.flen
theorem Resv.one (x : Resv) : ∀ u ∈ x.f, u.oneCell' = true := by
 intro u hu; simp only [Resv.f, List.mem_cons, List.not_mem_nil, or_false] at hu
 rcases hu with rfl | rfl | rfl | rfl | rfl <;> rfl
theorem Resv.at {w : World} {o : Option Addr} {m cap : Nat} {l : List Resv} (h : RdS Resv.rep w (.slice o m cap) l) (k : Nat) (hk : k < l.length) :
  ∃ b off, o = some ⟨b, off, none⟩ ∧ w.cell? ⟨b, off + k * 5, none⟩ = some (.int .i64 l[k].id) ∧ w.cell? ⟨b, off + k * 5 + 1, none⟩ = some (.int .i64 l[k].asn) ∧ w.cell? ⟨b, off + k * 5 + 2, none⟩ = some (.int .i64 l[k].iface) ∧ w.cell? ⟨b, off + k * 5 + 3, none⟩ = some (.int .i64 l[k].rate) ∧ w.cell? ⟨b, off + k * 5 + 4, none⟩ = some (.int .i64 l[k].till) := by
 obtain ⟨b, off, ho, hc⟩ := RdS.at_flat h k hk; exact ⟨b, off, ho, by simpa using hc 0 _ rfl, by simpa using hc 1 _ rfl, by simpa using hc 2 _ rfl, by simpa using hc 3 _ rfl, by simpa using hc 4 _ rfl⟩
theorem Resv.at_ext {w w' : World} {b off k : Nat} {l : List Resv} {hk : k < l.length} (x : Ext w w') (h : w.cell? ⟨b, off + k * 5, none⟩ = some (.int .i64 l[k].id) ∧ w.cell? ⟨b, off + k * 5 + 1, none⟩ = some (.int .i64 l[k].asn) ∧ w.cell? ⟨b, off + k * 5 + 2, none⟩ = some (.int .i64 l[k].iface) ∧ w.cell? ⟨b, off + k * 5 + 3, none⟩ = some (.int .i64 l[k].rate) ∧ w.cell? ⟨b, off + k * 5 + 4, none⟩ = some (.int .i64 l[k].till)) :
  w'.cell? ⟨b, off + k * 5, none⟩ = some (.int .i64 l[k].id) ∧ w'.cell? ⟨b, off + k * 5 + 1, none⟩ = some (.int .i64 l[k].asn) ∧ w'.cell? ⟨b, off + k * 5 + 2, none⟩ = some (.int .i64 l[k].iface) ∧ w'.cell? ⟨b, off + k * 5 + 3, none⟩ = some (.int .i64 l[k].rate) ∧ w'.cell? ⟨b, off + k * 5 + 4, none⟩ = some (.int .i64 l[k].till) := by
 obtain ⟨h0, h1, h2, h3, h4⟩ := h; exact ⟨x.cell h0, x.cell h1, x.cell h2, x.cell h3, x.cell h4⟩
theorem Resv.own_at {base : Nat} {e : TypeId} {w : World} {g m cap : Nat} {l : List Resv} (h : OwnF Resv.f 5 base e w (.slice (some ⟨g, 0, none⟩) m cap) l) (k : Nat) (hk : k < l.length) :
  w.cell? ⟨g, k * 5, none⟩ = some (.int .i64 l[k].id) ∧ w.cell? ⟨g, k * 5 + 1, none⟩ = some (.int .i64 l[k].asn) ∧ w.cell? ⟨g, k * 5 + 2, none⟩ = some (.int .i64 l[k].iface) ∧ w.cell? ⟨g, k * 5 + 3, none⟩ = some (.int .i64 l[k].rate) ∧ w.cell? ⟨g, k * 5 + 4, none⟩ = some (.int .i64 l[k].till) := by
 have hc := OwnF.cells_flat Resv.flen h k hk; exact ⟨by simpa using hc 0 _ rfl, by simpa using hc 1 _ rfl, by simpa using hc 2 _ rfl, by simpa using hc 3 _ rfl, by simpa using hc 4 _ rfl⟩
theorem Resv.sets {l : List Resv} {k : Nat} (hk : k < l.length) (x : Resv) : ((((((l.flatMap Resv.f).set (k * 5) (.int .i64 x.id)).set (k * 5 + 1) (.int .i64 x.asn)).set (k * 5 + 2) (.int .i64 x.iface)).set (k * 5 + 3) (.int .i64 x.rate)).set (k * 5 + 4) (.int .i64 x.till)) = (l.set k x).flatMap Resv.f := by
 induction l generalizing k with
 | nil => simp at hk
 | cons a l ih =>
  cases k with
  | zero => rfl
  | succ k =>
   have := ih (k := k) (by simpa using hk); simp only [List.flatMap_cons, List.set_cons_succ, ← this, Resv.f]; rw [show (k + 1) * 5 = k * 5 + 1 + 1 + 1 + 1 + 1 from by omega]; rfl
theorem Resv.own_set {base : Nat} {e : TypeId} {w : World} {g m cap : Nat} {l : List Resv} (h : OwnF Resv.f 5 base e w (.slice (some ⟨g, 0, none⟩) m cap) l) (k : Nat) (hk : k < l.length) (x : Resv) :
  OwnF Resv.f 5 base e (((((w.setCell ⟨g, k * 5, none⟩ (.int .i64 x.id)).setCell ⟨g, k * 5 + 1, none⟩ (.int .i64 x.asn)).setCell ⟨g, k * 5 + 2, none⟩ (.int .i64 x.iface)).setCell ⟨g, k * 5 + 3, none⟩ (.int .i64 x.rate)).setCell ⟨g, k * 5 + 4, none⟩ (.int .i64 x.till)) (.slice (some ⟨g, 0, none⟩) m cap) (l.set k x) ∧
   w.grownBy (((((w.setCell ⟨g, k * 5, none⟩ (.int .i64 x.id)).setCell ⟨g, k * 5 + 1, none⟩ (.int .i64 x.asn)).setCell ⟨g, k * 5 + 2, none⟩ (.int .i64 x.iface)).setCell ⟨g, k * 5 + 3, none⟩ (.int .i64 x.rate)).setCell ⟨g, k * 5 + 4, none⟩ (.int .i64 x.till)) (some g) := by
 obtain rfl := h.len; obtain ⟨h0, g0⟩ := World.ownsRow.stored h (k * 5) (.int .i64 x.id); obtain ⟨h1, g1⟩ := World.ownsRow.stored h0 (k * 5 + 1) (.int .i64 x.asn); obtain ⟨h2, g2⟩ := World.ownsRow.stored h1 (k * 5 + 2) (.int .i64 x.iface); obtain ⟨h3, g3⟩ := World.ownsRow.stored h2 (k * 5 + 3) (.int .i64 x.rate); obtain ⟨h4, g4⟩ := World.ownsRow.stored h3 (k * 5 + 4) (.int .i64 x.till); rw [Resv.sets hk] at h4; refine ⟨?_, ((((g0.trans g1).trans g2).trans g3).trans g4)⟩; unfold OwnF; rw [List.length_set]; exact h4
theorem Resv.ext' {x y : Resv} (h0 : x.id = y.id) (h1 : x.asn = y.asn) (h2 : x.iface = y.iface) (h3 : x.rate = y.rate) (h4 : x.till = y.till) : x = y := by
 cases x; cases y; simp_all
def Resv.mk' (k : Int) : Resv := ⟨k, k + 1, k + 1 + 1, k + 1 + 1 + 1, k + 1 + 1 + 1 + 1⟩
def Resv.ok (x : Resv) : Prop := I64 x.id ∧ I64 x.asn ∧ I64 x.iface ∧ I64 x.rate ∧ I64 x.till
end
section
open Go.ChangeShapes Go.WideShapes Go.ChangeAt Go.RowKit Go.Deep
structure ASd where
  isd : Int
  core : Bool
  key : Int
  deriving DecidableEq
def ASd.f (x : ASd) : List Value := [.int .i64 x.isd, .bool x.core, .int .i64 x.key]
theorem ASd.flen (x : ASd) : x.f.length = 3 := rfl
def ASd.rep : Rep ASd := Rep.flat 3 ASd.f ASd.flen
theorem ASd.one (x : ASd) : ∀ u ∈ x.f, u.oneCell' = true := by
 intro u hu; simp only [ASd.f, List.mem_cons, List.not_mem_nil, or_false] at hu
 rcases hu with rfl | rfl | rfl <;> rfl
theorem ASd.at {w : World} {o : Option Addr} {m cap : Nat} {l : List ASd} (h : RdS ASd.rep w (.slice o m cap) l) (k : Nat) (hk : k < l.length) :
  ∃ b off, o = some ⟨b, off, none⟩ ∧ w.cell? ⟨b, off + k * 3, none⟩ = some (.int .i64 l[k].isd) ∧ w.cell? ⟨b, off + k * 3 + 1, none⟩ = some (.bool l[k].core) ∧ w.cell? ⟨b, off + k * 3 + 2, none⟩ = some (.int .i64 l[k].key) := by
 obtain ⟨b, off, ho, hc⟩ := RdS.at_flat h k hk; exact ⟨b, off, ho, by simpa using hc 0 _ rfl, by simpa using hc 1 _ rfl, by simpa using hc 2 _ rfl⟩
theorem ASd.at_ext {w w' : World} {b off k : Nat} {l : List ASd} {hk : k < l.length} (x : Ext w w') (h : w.cell? ⟨b, off + k * 3, none⟩ = some (.int .i64 l[k].isd) ∧ w.cell? ⟨b, off + k * 3 + 1, none⟩ = some (.bool l[k].core) ∧ w.cell? ⟨b, off + k * 3 + 2, none⟩ = some (.int .i64 l[k].key)) :
  w'.cell? ⟨b, off + k * 3, none⟩ = some (.int .i64 l[k].isd) ∧ w'.cell? ⟨b, off + k * 3 + 1, none⟩ = some (.bool l[k].core) ∧ w'.cell? ⟨b, off + k * 3 + 2, none⟩ = some (.int .i64 l[k].key) := by
 obtain ⟨h0, h1, h2⟩ := h; exact ⟨x.cell h0, x.cell h1, x.cell h2⟩
theorem ASd.own_at {base : Nat} {e : TypeId} {w : World} {g m cap : Nat} {l : List ASd} (h : OwnF ASd.f 3 base e w (.slice (some ⟨g, 0, none⟩) m cap) l) (k : Nat) (hk : k < l.length) :
  w.cell? ⟨g, k * 3, none⟩ = some (.int .i64 l[k].isd) ∧ w.cell? ⟨g, k * 3 + 1, none⟩ = some (.bool l[k].core) ∧ w.cell? ⟨g, k * 3 + 2, none⟩ = some (.int .i64 l[k].key) := by
 have hc := OwnF.cells_flat ASd.flen h k hk; exact ⟨by simpa using hc 0 _ rfl, by simpa using hc 1 _ rfl, by simpa using hc 2 _ rfl⟩
theorem Tryz.infoASd : (Tryz.prog.info? 198).map (fun i => (i.zero, i.size, i.bytes)) = some (some (.agg #[.int .i64 0, .bool false, .int .i64 0]), 3, 24) := by kernel_rfl
theorem ASd.sets {l : List ASd} {k : Nat} (hk : k < l.length) (x : ASd) : ((((l.flatMap ASd.f).set (k * 3) (.int .i64 x.isd)).set (k * 3 + 1) (.bool x.core)).set (k * 3 + 2) (.int .i64 x.key)) = (l.set k x).flatMap ASd.f := by
 induction l generalizing k with
 | nil => simp at hk
 | cons a l ih =>
  cases k with
  | zero => rfl
  | succ k =>
   have := ih (k := k) (by simpa using hk); simp only [List.flatMap_cons, List.set_cons_succ, ← this, ASd.f]; rw [show (k + 1) * 3 = k * 3 + 1 + 1 + 1 from by omega]; rfl
theorem ASd.own_set {base : Nat} {e : TypeId} {w : World} {g m cap : Nat} {l : List ASd} (h : OwnF ASd.f 3 base e w (.slice (some ⟨g, 0, none⟩) m cap) l) (k : Nat) (hk : k < l.length) (x : ASd) :
  OwnF ASd.f 3 base e (((w.setCell ⟨g, k * 3, none⟩ (.int .i64 x.isd)).setCell ⟨g, k * 3 + 1, none⟩ (.bool x.core)).setCell ⟨g, k * 3 + 2, none⟩ (.int .i64 x.key)) (.slice (some ⟨g, 0, none⟩) m cap) (l.set k x) ∧
   w.grownBy (((w.setCell ⟨g, k * 3, none⟩ (.int .i64 x.isd)).setCell ⟨g, k * 3 + 1, none⟩ (.bool x.core)).setCell ⟨g, k * 3 + 2, none⟩ (.int .i64 x.key)) (some g) := by
 obtain rfl := h.len; obtain ⟨h0, g0⟩ := World.ownsRow.stored h (k * 3) (.int .i64 x.isd); obtain ⟨h1, g1⟩ := World.ownsRow.stored h0 (k * 3 + 1) (.bool x.core); obtain ⟨h2, g2⟩ := World.ownsRow.stored h1 (k * 3 + 2) (.int .i64 x.key); rw [ASd.sets hk] at h2; refine ⟨?_, ((g0.trans g1).trans g2)⟩; unfold OwnF; rw [List.length_set]; exact h2
theorem ASd.ext' {x y : ASd} (h0 : x.isd = y.isd) (h1 : x.core = y.core) (h2 : x.key = y.key) : x = y := by
 cases x; cases y; simp_all
def ASd.ok (x : ASd) : Prop := I64 x.isd ∧ I64 x.key
end
section
open Go.ChangeShapes Go.WideShapes Go.ChangeAt Go.RowKit Go.Deep
structure Lnk where
  a : Int
  ai : Int
  b : Int
  bi : Int
  kind : Int
  deriving DecidableEq
def Lnk.f (x : Lnk) : List Value := [.int .i64 x.a, .int .i64 x.ai, .int .i64 x.b, .int .i64 x.bi, .int .i64 x.kind]
theorem Lnk.flen (x : Lnk) : x.f.length = 5 := rfl
def Lnk.rep : Rep Lnk := Rep.flat 5 Lnk.f Lnk.flen
theorem Lnk.one (x : Lnk) : ∀ u ∈ x.f, u.oneCell' = true := by
 intro u hu; simp only [Lnk.f, List.mem_cons, List.not_mem_nil, or_false] at hu
 rcases hu with rfl | rfl | rfl | rfl | rfl <;> rfl
theorem Lnk.at {w : World} {o : Option Addr} {m cap : Nat} {l : List Lnk} (h : RdS Lnk.rep w (.slice o m cap) l) (k : Nat) (hk : k < l.length) :
  ∃ b off, o = some ⟨b, off, none⟩ ∧ w.cell? ⟨b, off + k * 5, none⟩ = some (.int .i64 l[k].a) ∧ w.cell? ⟨b, off + k * 5 + 1, none⟩ = some (.int .i64 l[k].ai) ∧ w.cell? ⟨b, off + k * 5 + 2, none⟩ = some (.int .i64 l[k].b) ∧ w.cell? ⟨b, off + k * 5 + 3, none⟩ = some (.int .i64 l[k].bi) ∧ w.cell? ⟨b, off + k * 5 + 4, none⟩ = some (.int .i64 l[k].kind) := by
 obtain ⟨b, off, ho, hc⟩ := RdS.at_flat h k hk; exact ⟨b, off, ho, by simpa using hc 0 _ rfl, by simpa using hc 1 _ rfl, by simpa using hc 2 _ rfl, by simpa using hc 3 _ rfl, by simpa using hc 4 _ rfl⟩
theorem Lnk.at_ext {w w' : World} {b off k : Nat} {l : List Lnk} {hk : k < l.length} (x : Ext w w') (h : w.cell? ⟨b, off + k * 5, none⟩ = some (.int .i64 l[k].a) ∧ w.cell? ⟨b, off + k * 5 + 1, none⟩ = some (.int .i64 l[k].ai) ∧ w.cell? ⟨b, off + k * 5 + 2, none⟩ = some (.int .i64 l[k].b) ∧ w.cell? ⟨b, off + k * 5 + 3, none⟩ = some (.int .i64 l[k].bi) ∧ w.cell? ⟨b, off + k * 5 + 4, none⟩ = some (.int .i64 l[k].kind)) :
  w'.cell? ⟨b, off + k * 5, none⟩ = some (.int .i64 l[k].a) ∧ w'.cell? ⟨b, off + k * 5 + 1, none⟩ = some (.int .i64 l[k].ai) ∧ w'.cell? ⟨b, off + k * 5 + 2, none⟩ = some (.int .i64 l[k].b) ∧ w'.cell? ⟨b, off + k * 5 + 3, none⟩ = some (.int .i64 l[k].bi) ∧ w'.cell? ⟨b, off + k * 5 + 4, none⟩ = some (.int .i64 l[k].kind) := by
 obtain ⟨h0, h1, h2, h3, h4⟩ := h; exact ⟨x.cell h0, x.cell h1, x.cell h2, x.cell h3, x.cell h4⟩
theorem Lnk.own_at {base : Nat} {e : TypeId} {w : World} {g m cap : Nat} {l : List Lnk} (h : OwnF Lnk.f 5 base e w (.slice (some ⟨g, 0, none⟩) m cap) l) (k : Nat) (hk : k < l.length) :
  w.cell? ⟨g, k * 5, none⟩ = some (.int .i64 l[k].a) ∧ w.cell? ⟨g, k * 5 + 1, none⟩ = some (.int .i64 l[k].ai) ∧ w.cell? ⟨g, k * 5 + 2, none⟩ = some (.int .i64 l[k].b) ∧ w.cell? ⟨g, k * 5 + 3, none⟩ = some (.int .i64 l[k].bi) ∧ w.cell? ⟨g, k * 5 + 4, none⟩ = some (.int .i64 l[k].kind) := by
 have hc := OwnF.cells_flat Lnk.flen h k hk; exact ⟨by simpa using hc 0 _ rfl, by simpa using hc 1 _ rfl, by simpa using hc 2 _ rfl, by simpa using hc 3 _ rfl, by simpa using hc 4 _ rfl⟩
theorem Tryz.infoLnk : (Tryz.prog.info? 156).map (fun i => (i.zero, i.size, i.bytes)) = some (some (.agg #[.int .i64 0, .int .i64 0, .int .i64 0, .int .i64 0, .int .i64 0]), 5, 40) := by kernel_rfl
theorem Lnk.sets {l : List Lnk} {k : Nat} (hk : k < l.length) (x : Lnk) : ((((((l.flatMap Lnk.f).set (k * 5) (.int .i64 x.a)).set (k * 5 + 1) (.int .i64 x.ai)).set (k * 5 + 2) (.int .i64 x.b)).set (k * 5 + 3) (.int .i64 x.bi)).set (k * 5 + 4) (.int .i64 x.kind)) = (l.set k x).flatMap Lnk.f := by
 induction l generalizing k with
 | nil => simp at hk
 | cons a l ih =>
  cases k with
  | zero => rfl
  | succ k =>
   have := ih (k := k) (by simpa using hk); simp only [List.flatMap_cons, List.set_cons_succ, ← this, Lnk.f]; rw [show (k + 1) * 5 = k * 5 + 1 + 1 + 1 + 1 + 1 from by omega]; rfl
theorem Lnk.own_set {base : Nat} {e : TypeId} {w : World} {g m cap : Nat} {l : List Lnk} (h : OwnF Lnk.f 5 base e w (.slice (some ⟨g, 0, none⟩) m cap) l) (k : Nat) (hk : k < l.length) (x : Lnk) :
  OwnF Lnk.f 5 base e (((((w.setCell ⟨g, k * 5, none⟩ (.int .i64 x.a)).setCell ⟨g, k * 5 + 1, none⟩ (.int .i64 x.ai)).setCell ⟨g, k * 5 + 2, none⟩ (.int .i64 x.b)).setCell ⟨g, k * 5 + 3, none⟩ (.int .i64 x.bi)).setCell ⟨g, k * 5 + 4, none⟩ (.int .i64 x.kind)) (.slice (some ⟨g, 0, none⟩) m cap) (l.set k x) ∧
   w.grownBy (((((w.setCell ⟨g, k * 5, none⟩ (.int .i64 x.a)).setCell ⟨g, k * 5 + 1, none⟩ (.int .i64 x.ai)).setCell ⟨g, k * 5 + 2, none⟩ (.int .i64 x.b)).setCell ⟨g, k * 5 + 3, none⟩ (.int .i64 x.bi)).setCell ⟨g, k * 5 + 4, none⟩ (.int .i64 x.kind)) (some g) := by
 obtain rfl := h.len; obtain ⟨h0, g0⟩ := World.ownsRow.stored h (k * 5) (.int .i64 x.a); obtain ⟨h1, g1⟩ := World.ownsRow.stored h0 (k * 5 + 1) (.int .i64 x.ai); obtain ⟨h2, g2⟩ := World.ownsRow.stored h1 (k * 5 + 2) (.int .i64 x.b); obtain ⟨h3, g3⟩ := World.ownsRow.stored h2 (k * 5 + 3) (.int .i64 x.bi); obtain ⟨h4, g4⟩ := World.ownsRow.stored h3 (k * 5 + 4) (.int .i64 x.kind); rw [Lnk.sets hk] at h4; refine ⟨?_, ((((g0.trans g1).trans g2).trans g3).trans g4)⟩; unfold OwnF; rw [List.length_set]; exact h4
theorem Lnk.ext' {x y : Lnk} (h0 : x.a = y.a) (h1 : x.ai = y.ai) (h2 : x.b = y.b) (h3 : x.bi = y.bi) (h4 : x.kind = y.kind) : x = y := by
 cases x; cases y; simp_all
def Lnk.mk' (k : Int) : Lnk := ⟨k, k + 1, k + 1 + 1, k + 1 + 1 + 1, k + 1 + 1 + 1 + 1⟩
def Lnk.ok (x : Lnk) : Prop := I64 x.a ∧ I64 x.ai ∧ I64 x.b ∧ I64 x.bi ∧ I64 x.kind
end
section
open Go.ChangeShapes Go.WideShapes Go.ChangeAt Go.RowKit Go.Deep
structure Topo where
  ases : List ASd
  links : List Lnk
  deriving DecidableEq
def Topo.size (x : Topo) : Nat := x.ases.length + x.links.length
def Topo.rep : Rep Topo where
  cells := 2
  rd w cs x := ∃ v1 v2, cs = [v1, v2] ∧ RdS ASd.rep w v1 x.ases ∧ RdS Lnk.rep w v2 x.links
  len := by rintro w cs a ⟨v1, v2, rfl, _⟩; rfl
  ext := by rintro w w' cs a e ⟨v1, v2, rfl, h1, h2⟩; exact ⟨v1, v2, rfl, h1.ext e, h2.ext e⟩
def Topo.ok (x : Topo) : Prop := (∀ y ∈ x.ases, ASd.ok y) ∧ ∀ y ∈ x.links, Lnk.ok y
end
section
open Go.ChangeShapes Go.WideShapes Go.ChangeAt Go.RowKit Go.Deep
def isRes (n : Int) : Bool := inR n 0 2147483646
def addMod (b s : Int) : Int := if isRes b && isRes s then (b + s) % 2147483647 else 0
def subMod (b s : Int) : Int := if isRes b && isRes s then (b - s + 2147483647) % 2147483647 else 0
theorem isRes_true {n : Int} : isRes n = true ↔ 0 ≤ n ∧ n ≤ 2147483646 := inR_true
theorem addMod_no1 {b s : Int} (h : isRes b = false) : addMod b s = 0 := by simp [addMod, h]
theorem addMod_no2 {b s : Int} (h : isRes s = false) : addMod b s = 0 := by simp [addMod, h]
theorem addMod_yes {b s : Int} (h : isRes b = true) (h2 : isRes s = true) : addMod b s = (b + s) % 2147483647 := by simp [addMod, h, h2]
theorem subMod_no1 {b s : Int} (h : isRes b = false) : subMod b s = 0 := by simp [subMod, h]
theorem subMod_no2 {b s : Int} (h : isRes s = false) : subMod b s = 0 := by simp [subMod, h]
theorem subMod_yes {b s : Int} (h : isRes b = true) (h2 : isRes s = true) : subMod b s = (b - s + 2147483647) % 2147483647 := by simp [subMod, h, h2]
theorem addMod_res (b s : Int) : isRes (addMod b s) = true := by
 rw [isRes_true]; unfold addMod; split <;> omega
set_option maxHeartbeats 400000 in
theorem i_isResidue (n : Int) (w : World) : Calls Tryz.prog 193 #[.int .i64 n] w fun e w' => e = .returned (.bool (isRes n)) ∧ w = w' := by
 go_enter Tryz.func193, Tryz.ntmps193
 go_wp2_with fail
 refine (i_InRange _ _ _ _).mono ?_; rintro e w1 ⟨rfl, rfl⟩
 go_wp2_with fail
 go_ret
 exact ⟨rfl, rfl⟩
set_option maxHeartbeats 400000 in
theorem i_AddMod (b s : Int) (w : World) : Calls Tryz.prog 122 #[.int .i64 b, .int .i64 s] w fun e w' => e = .returned (.int .i64 (addMod b s)) ∧ w = w' := by
 go_enter Tryz.func122, Tryz.ntmps122
 go_wp2_with fail
 refine (i_isResidue _ _).mono ?_; rintro e w1 ⟨rfl, rfl⟩
 cases h1 : isRes b
 ·
  have HE := Lib.hid (addMod_no1 (s := s) h1)
  go_wp2_with fail
  go_ret
  exact ⟨ret_int HE.out.symm, rfl⟩
 ·
  go_wp2_with fail
  refine (i_isResidue _ _).mono ?_; rintro e w1 ⟨rfl, rfl⟩
  cases h2 : isRes s
  ·
   have HE := Lib.hid (addMod_no2 (b := b) h2)
   go_wp2_with fail
   go_ret
   exact ⟨ret_int HE.out.symm, rfl⟩
  ·
   have HE := Lib.hid (addMod_yes h1 h2); obtain ⟨a1, a2⟩ := isRes_true.1 h1; obtain ⟨a3, a4⟩ := isRes_true.1 h2
   go_wp2_with fail
   go_ret
   exact ⟨ret_int HE.out.symm, rfl⟩
set_option maxHeartbeats 400000 in
theorem i_SubMod (b s : Int) (w : World) : Calls Tryz.prog 124 #[.int .i64 b, .int .i64 s] w fun e w' => e = .returned (.int .i64 (subMod b s)) ∧ w = w' := by
 go_enter Tryz.func124, Tryz.ntmps124
 go_wp2_with fail
 refine (i_isResidue _ _).mono ?_; rintro e w1 ⟨rfl, rfl⟩
 cases h1 : isRes b
 ·
  have HE := Lib.hid (subMod_no1 (s := s) h1)
  go_wp2_with fail
  go_ret
  exact ⟨ret_int HE.out.symm, rfl⟩
 ·
  go_wp2_with fail
  refine (i_isResidue _ _).mono ?_; rintro e w1 ⟨rfl, rfl⟩
  cases h2 : isRes s
  ·
   have HE := Lib.hid (subMod_no2 (b := b) h2)
   go_wp2_with fail
   go_ret
   exact ⟨ret_int HE.out.symm, rfl⟩
  ·
   have HE := Lib.hid (subMod_yes h1 h2); obtain ⟨a1, a2⟩ := isRes_true.1 h1; obtain ⟨a3, a4⟩ := isRes_true.1 h2
   go_wp2_with fail
   go_ret
   exact ⟨ret_int HE.out.symm, rfl⟩
set_option maxHeartbeats 400000 in
theorem s_l3Ok (n : Int) (w : World) : Calls Tryz.prog 182 #[.int .i64 n] w fun e w' => e = .returned (.bool (isRes n)) ∧ w = w' := by
 go_enter Tryz.func182, Tryz.ntmps182
 go_wp2_with fail
 refine (s_l1In _ _ _ _).mono ?_; rintro e w1 ⟨rfl, rfl⟩
 go_wp2_with fail
 go_ret
 exact ⟨rfl, rfl⟩
set_option maxHeartbeats 400000 in
theorem s_AddMod (b s : Int) (w : World) : Calls Tryz.prog 228 #[.int .i64 b, .int .i64 s] w fun e w' => e = .returned (.int .i64 (addMod b s)) ∧ w = w' := by
 go_enter Tryz.func228, Tryz.ntmps228
 go_wp2_with fail
 refine (s_l3Ok _ _).mono ?_; rintro e w1 ⟨rfl, rfl⟩
 cases h1 : isRes b
 ·
  have HE := Lib.hid (addMod_no1 (s := s) h1)
  go_wp2_with fail
  go_ret
  exact ⟨ret_int HE.out.symm, rfl⟩
 ·
  go_wp2_with fail
  refine (s_l3Ok _ _).mono ?_; rintro e w1 ⟨rfl, rfl⟩
  cases h2 : isRes s
  ·
   have HE := Lib.hid (addMod_no2 (b := b) h2)
   go_wp2_with fail
   go_ret
   exact ⟨ret_int HE.out.symm, rfl⟩
  ·
   have HE := Lib.hid (addMod_yes h1 h2); obtain ⟨a1, a2⟩ := isRes_true.1 h1; obtain ⟨a3, a4⟩ := isRes_true.1 h2
   go_wp2_with fail
   go_ret
   exact ⟨ret_int HE.out.symm, rfl⟩
set_option maxHeartbeats 400000 in
theorem s_SubMod (b s : Int) (w : World) : Calls Tryz.prog 226 #[.int .i64 b, .int .i64 s] w fun e w' => e = .returned (.int .i64 (subMod b s)) ∧ w = w' := by
 go_enter Tryz.func226, Tryz.ntmps226
 go_wp2_with fail
 refine (s_l3Ok _ _).mono ?_; rintro e w1 ⟨rfl, rfl⟩
 cases h1 : isRes b
 ·
  have HE := Lib.hid (subMod_no1 (s := s) h1)
  go_wp2_with fail
  go_ret
  exact ⟨ret_int HE.out.symm, rfl⟩
 ·
  go_wp2_with fail
  refine (s_l3Ok _ _).mono ?_; rintro e w1 ⟨rfl, rfl⟩
  cases h2 : isRes s
  ·
   have HE := Lib.hid (subMod_no2 (b := b) h2)
   go_wp2_with fail
   go_ret
   exact ⟨ret_int HE.out.symm, rfl⟩
  ·
   have HE := Lib.hid (subMod_yes h1 h2); obtain ⟨a1, a2⟩ := isRes_true.1 h1; obtain ⟨a3, a4⟩ := isRes_true.1 h2
   go_wp2_with fail
   go_ret
   exact ⟨ret_int HE.out.symm, rfl⟩
end
section
open Go.ChangeShapes Go.WideShapes Go.ChangeAt Go.RowKit Go.Deep
def betaTo (x : Part) : Nat → Int
 | 0 => x.beta
 | k + 1 => match x.hops[k]? with
  | some h => if isRev x.kind then subMod (betaTo x k) h.mac else addMod (betaTo x k) h.mac
  | none => betaTo x k
theorem betaTo_succ {x : Part} {k : Nat} (h : k < x.hops.length) : betaTo x (k + 1) = if isRev x.kind then subMod (betaTo x k) x.hops[k].mac else addMod (betaTo x k) x.hops[k].mac := by simp [betaTo, h]
def betaAfter (x : Part) (i : Int) : Int := if 0 ≤ i ∧ i ≤ x.hops.length then betaTo x i.toNat else 0
theorem elemHop : Nonempty (Elem Tryz.prog 72 71 5 40) := Elem.mk' Tryz.underlying72 Tryz.infoHop rfl (by decide)
theorem rev_drop {α : Type} {l : List α} {k : Nat} (hk : k < l.length) : (l.drop (k + 1)).reverse ++ [l[k]] = (l.drop k).reverse := by
 rw [List.drop_eq_getElem_cons hk, List.reverse_cons]
theorem RdS.upto {α : Type} {r : Rep α} {w : World} {o : Option Addr} {m cap : Nat} {l : List α} (h : RdS r w (.slice o m cap) l) (k : Nat) (hk : k ≤ l.length) : RdS r w (.slice o k cap) (l.take k) := by
 obtain ⟨o', cap', hv, h1, h2, hn, h3⟩ := h
 cases hv
 have hl : (l.take k).length = k := by simp; omega
 refine ⟨o, cap, by rw [hl], by omega, h2, hn, fun i hi => ?_⟩; obtain ⟨b, off, cs, a1, a2, a3⟩ := h3 i (by omega); exact ⟨b, off, cs, a1, a2, by simpa using a3⟩
end
section
open Go.ChangeShapes Go.WideShapes Go.ChangeAt Go.RowKit Go.Deep
section
variable {α β : Type} {n : Nat} {c : α → Value → List Value} {hc : ∀ a v, (c a v).length = n} {sub : α → List β} {e : TypeId} {I : Own β}
theorem nest_row {S : Nat → Prop} {w w2 : World} {g m cap : Nat} {l : List α} (h : (Own.nest n c hc sub e I).own S w (.slice (some ⟨g, 0, none⟩) m cap) l) (k : Nat) (hk : k < l.length) (x : α) (hsub : sub x = sub l[k]) (hg : w.grownBy w2 (some g))
  (hrow : ∀ (qs : List (Cap α)) (_ : qs.map (·.dat) = l) (hk' : k < qs.length), OwnF (capF c) n 0 e w (.slice (some ⟨g, 0, none⟩) m cap) qs → OwnF (capF c) n 0 e w2 (.slice (some ⟨g, 0, none⟩) m cap) (qs.set k ⟨x, qs[k].val, qs[k].set⟩)) :
  (Own.nest n c hc sub e I).own S w2 (.slice (some ⟨g, 0, none⟩) m cap) (l.set k x) := by
 obtain ⟨qs, rfl, ho, hS, hq, hd⟩ := h; have hk' : k < qs.length := by simpa using hk
 have hch : Chg (fun b => b = g) w w2 := Chg.ofGrown hg (fun k hk => by cases hk; rfl); have hne : ∀ b, (Value.slice (some ⟨g, 0, none⟩) m cap).ownBlock ≠ some b → ¬ b = g := fun b h e => h (by rw [e]; rfl)
 refine ⟨qs.set k ⟨x, qs[k].val, qs[k].set⟩, by simp [List.map_set], hrow qs rfl hk' ho, hS, fun q hqm => ?_, fun i j hi hj hne' b hbi => ?_⟩
 ·
  obtain ⟨i, hi, rfl⟩ := List.getElem_of_mem hqm; have hi' : i < qs.length := by simpa using hi
  rw [List.getElem_set]
  by_cases hki : k = i
  ·
   subst hki; simp only [if_pos]; obtain ⟨a1, a2⟩ := hq qs[k] (List.getElem_mem _); refine ⟨?_, fun b hb => ⟨(a2 b hb).1, (a2 b hb).2.1, Nat.lt_of_lt_of_le (a2 b hb).2.2 hch.size⟩⟩; have := I.kept a1 hch (fun b hb => hne b (a2 b hb).2.1); rw [hsub]
   simpa using this
  ·
   rw [if_neg hki]; obtain ⟨a1, a2⟩ := hq qs[i] (List.getElem_mem _); exact ⟨I.kept a1 hch (fun b hb => hne b (a2 b hb).2.1), fun b hb => ⟨(a2 b hb).1, (a2 b hb).2.1, Nat.lt_of_lt_of_le (a2 b hb).2.2 hch.size⟩⟩
 ·
  have hi' : i < qs.length := by simpa using hi
  have hj' : j < qs.length := by simpa using hj
  rw [List.getElem_set] at hbi ⊢
  have s1 : qs[i].set b := by
   by_cases e1 : k = i
   ·
    subst e1; simpa using hbi
   ·
    rw [if_neg e1] at hbi; exact hbi
  have s2 := hd i j hi' hj' hne' b s1
  by_cases e2 : k = j
  ·
   subst e2; simpa using s2
  ·
   rw [if_neg e2]; exact s2
end
theorem Chg.blk {lo hi : Nat} {w w' : World} (c : Chg (rng lo hi) w w') {b : Nat} {o : Obj} (h : w.heap[b]? = some o) (hb : b < lo ∨ hi ≤ b) : w'.heap[b]? = some o :=
 (c.block b (blk_lt h) (fun hs => by rcases hb with hb | hb <;> have := hs.1 <;> have := hs.2 <;> omega)).trans h
end
section
open Go.ChangeShapes Go.WideShapes Go.ChangeAt Go.RowKit Go.Deep
def byteF (n : Int) : List Value := [.int .u8 n]
theorem byteFlen (n : Int) : (byteF n).length = 1 := rfl
theorem byteOne (n : Int) : ∀ u ∈ byteF n, u.oneCell' = true := by
 intro u hu; simp only [byteF, List.mem_cons, List.not_mem_nil, or_false] at hu; rw [hu]; rfl
theorem bytes_at {w : World} {o : Option Addr} {m cap : Nat} {l : List Int} (h : RdS Rep.byte w (.slice o m cap) l) (k : Nat) (hk : k < l.length) :
  ∃ b off, o = some ⟨b, off, none⟩ ∧ w.cell? ⟨b, off + k, none⟩ = some (.int .u8 l[k]) := by
 obtain ⟨b, off, ho, hc⟩ := RdS.at_flat h k hk; exact ⟨b, off, ho, by simpa using hc 0 _ rfl⟩
theorem Tryz.infoByte : (Tryz.prog.info? 5).map (fun i => (i.zero, i.size, i.bytes)) = some (some (.int .u8 0), 1, 1) := by kernel_rfl
theorem elemByte : Nonempty (Elem Tryz.prog 22 5 1 1) := Elem.mk' Tryz.underlying22 Tryz.infoByte rfl (by decide)
end
section
open Go.ChangeShapes Go.WideShapes Go.ChangeAt Go.RowKit Go.Deep
theorem blk10 {w : World} {b : Nat} {x0 x1 x2 x3 x4 x5 x6 x7 x8 x9 : Value} {t : TypeId} {f : Nat × Nat} (h : w.heap[b]? = some (.cells #[x0, x1, x2, x3, x4, x5, x6, x7, x8, x9] t f)) :
  w.cell? ⟨b, 0, none⟩ = some x0 ∧ w.cell? ⟨b, 1, none⟩ = some x1 ∧ w.cell? ⟨b, 2, none⟩ = some x2 ∧ w.cell? ⟨b, 3, none⟩ = some x3 ∧ w.cell? ⟨b, 4, none⟩ = some x4 ∧ w.cell? ⟨b, 5, none⟩ = some x5 ∧ w.cell? ⟨b, 6, none⟩ = some x6 ∧ w.cell? ⟨b, 7, none⟩ = some x7 ∧ w.cell? ⟨b, 8, none⟩ = some x8 ∧ w.cell? ⟨b, 9, none⟩ = some x9 :=
 ⟨blk_cell h 0, blk_cell h 1, blk_cell h 2, blk_cell h 3, blk_cell h 4, blk_cell h 5, blk_cell h 6, blk_cell h 7, blk_cell h 8, blk_cell h 9⟩
theorem Chg.setCell {S : Nat → Prop} {a b : World} (h : Chg S a b) {p : Addr} (hp : S p.block) (u : Value) : Chg S a (b.setCell p u) :=
 h.trans ⟨rfl, rfl, rfl, by simp, fun k _ hn => Below.heap_setCell _ _ _ _ (fun e => hn (by rw [e]; exact hp))⟩
structure Pkt where
  kind : Int
  src : Int
  dst : Int
  path : Pth
  pi : Int
  hi : Int
  beta : Int
  rid : Int
  seq : Int
  pay : List Int
  deriving DecidableEq
def Pkt.c (x : Pkt) (h0 h1 : Value) : List Value := [.int .i64 x.kind, .int .i64 x.src, .int .i64 x.dst, h0, .int .i64 x.pi, .int .i64 x.hi, .int .i64 x.beta, .int .i64 x.rid, .int .i64 x.seq, h1]
def Pkt.size (x : Pkt) : Nat := x.path.size + x.pay.length
def Pkt.rep : Rep Pkt where
  cells := 10
  rd w cs x := ∃ v0 v1, cs = [.int .i64 x.kind, .int .i64 x.src, .int .i64 x.dst, v0, .int .i64 x.pi, .int .i64 x.hi, .int .i64 x.beta, .int .i64 x.rid, .int .i64 x.seq, v1] ∧ RdS Part.rep w v0 x.path.parts ∧ RdS Rep.byte w v1 x.pay
  len := by rintro w cs a ⟨v0, v1, rfl, _⟩; rfl
  ext := by rintro w w' cs a e ⟨v0, v1, rfl, h0, h1⟩; exact ⟨v0, v1, rfl, h0.ext e, h1.ext e⟩
def Pkt.ok (x : Pkt) : Prop := I64 x.kind ∧ I64 x.src ∧ I64 x.dst ∧ x.path.ok ∧ I64 x.pi ∧ I64 x.hi ∧ I64 x.beta ∧ I64 x.rid ∧ I64 x.seq ∧ ∀ y ∈ x.pay, U8 y
def byteOwn : Own Int := Own.flat byteF 1 byteFlen 5
def Pkt.own (S : Nat → Prop) (w : World) (h0 h1 : Value) (x : Pkt) : Prop :=
  ∃ S0 S1 : Nat → Prop, Part.own.own S0 w h0 x.path.parts ∧ byteOwn.own S1 w h1 x.pay ∧ (∀ b, S0 b → S b) ∧ (∀ b, S1 b → S b) ∧ ∀ b, S0 b → ¬ S1 b
theorem Pkt.own_kept {S T : Nat → Prop} {w w' : World} {h0 h1 : Value} {x : Pkt} (h : Pkt.own S w h0 h1 x) (c : Chg T w w') (hs : ∀ b, S b → ¬ T b) : Pkt.own S w' h0 h1 x := by
 obtain ⟨S0, S1, a, b, c0, c1, d⟩ := h; exact ⟨S0, S1, Part.own.kept a c (fun k hk => hs k (c0 k hk)), byteOwn.kept b c (fun k hk => hs k (c1 k hk)), c0, c1, d⟩
theorem Pkt.own_ext {S : Nat → Prop} {w w' : World} {h0 h1 : Value} {x : Pkt} (h : Pkt.own S w h0 h1 x) (e : Ext w w') : Pkt.own S w' h0 h1 x :=
 Pkt.own_kept h (Chg.ofExt (S := noB) e) (fun _ _ h => h)
theorem Pkt.own_mono {S T : Nat → Prop} {w : World} {h0 h1 : Value} {x : Pkt} (h : Pkt.own S w h0 h1 x) (hs : ∀ b, S b → T b) : Pkt.own T w h0 h1 x := by
 obtain ⟨S0, S1, a, b, c0, c1, d⟩ := h; exact ⟨S0, S1, a, b, fun k hk => hs k (c0 k hk), fun k hk => hs k (c1 k hk), d⟩
theorem Pkt.own_rd0 {S : Nat → Prop} {w : World} {h0 h1 : Value} {x : Pkt} (h : Pkt.own S w h0 h1 x) : RdS Part.rep w h0 x.path.parts := by
 obtain ⟨S0, S1, a, _⟩ := h; exact Part.own.rd a
theorem Pkt.own_rd1 {S : Nat → Prop} {w : World} {h0 h1 : Value} {x : Pkt} (h : Pkt.own S w h0 h1 x) : RdS Rep.byte w h1 x.pay := by
 obtain ⟨S0, S1, _, b, _⟩ := h; exact byteOwn.rd b
end
end Go.Proofs.YtcpfmhgfaliemaaGreat
