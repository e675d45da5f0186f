/- Links laid one by one, each at the next number of either end: no two of them share an end. Plain laws. No condition. What a drawn topology is: few ASes, links that are right, and no end that is shared; what follows for interfaces and far ends. Plain laws. No condition. -/
import Derived.Test.YtkolfiedakojoaaW05t
import Derived.Test.YtkolfiedakojoaaPlain28
namespace Go.Proofs.Ytkolfiedakojoaa
open Go.ChangeShapes Go.WideShapes Go.ChangeAt Go.RowKit Go.Deep

theorem insInt_mem {n y : Int} : ∀ {l : List Int}, y ∈ insInt n l ↔ y = n ∨ y ∈ l
  | [] => by simp [insInt]
  | x :: l => by
    unfold insInt
    split
    · rw [List.mem_cons, insInt_mem, List.mem_cons]
      constructor
      · rintro (h | h | h)
        · exact .inr (.inl h)
        · exact .inl h
        · exact .inr (.inr h)
      · rintro (h | h | h)
        · exact .inr (.inl h)
        · exact .inl h
        · exact .inr (.inr h)
    · split
      · rename_i h
        subst h
        simp
      · simp
theorem insInt_new {n : Int} : ∀ {l : List Int}, n ∉ l → (insInt n l).length = l.length + 1
  | [], _ => rfl
  | x :: l, h => by
    simp only [List.mem_cons, not_or] at h
    unfold insInt
    split
    · simp [insInt_new h.2]
    · split
      · rename_i e; exact absurd e.symm h.1
      · simp
theorem insInt_more (n : Int) (l : List Int) : l.length ≤ (insInt n l).length := by
  induction l with
  | nil => simp
  | cons x l ih => unfold insInt; split <;> (try split) <;> simp <;> omega
def lnkEnds (x : Lnk) : List (Int × Int) := [(x.a, x.ai), (x.b, x.bi)]
def allEnds (l : List Lnk) : List (Int × Int) := l.flatMap lnkEnds
theorem allEnds_app (l m : List Lnk) : allEnds (l ++ m) = allEnds l ++ allEnds m := by simp [allEnds]
theorem topoIfs_app (l : List Lnk) (x : Lnk) (r : Int) : topoIfs (l ++ [x]) r = ifStep r (topoIfs l r) x := by simp [topoIfs]
theorem ifStep_mem {r n : Int} {out : List Int} {x : Lnk} : n ∈ ifStep r out x ↔ (r, n) ∈ lnkEnds x ∨ n ∈ out := by
  unfold ifStep lnkEnds
  simp only [List.mem_cons, List.not_mem_nil, or_false, Prod.mk.injEq]
  split <;> split <;> simp_all [insInt_mem] <;> grind
theorem ifStep_more (r : Int) (out : List Int) (x : Lnk) : out.length ≤ (ifStep r out x).length := by
  unfold ifStep
  have h1 := insInt_more x.ai out
  have h2 := insInt_more x.bi out
  have h3 := insInt_more x.bi (insInt x.ai out)
  split <;> split <;> omega
theorem topoIfs_mem {r n : Int} : ∀ {l : List Lnk} {out : List Int}, n ∈ l.foldl (ifStep r) out ↔ (r, n) ∈ allEnds l ∨ n ∈ out
  | [], out => by simp [allEnds]
  | x :: l, out => by
    rw [List.foldl_cons, topoIfs_mem, ifStep_mem]
    simp only [allEnds, List.flatMap_cons, List.mem_append]
    grind
/-- Every number stands below the count of its place, and no end is shared. -/
def Laid (l : List Lnk) : Prop := (∀ r n, (r, n) ∈ allEnds l → 1 ≤ n ∧ n ≤ (topoIfs l r).length) ∧ (allEnds l).Nodup
theorem Laid.nil : Laid [] := ⟨fun _ _ h => by simp [allEnds] at h, by simp [allEnds]⟩
def addLink (l : List Lnk) (a b kind : Int) : List Lnk :=
  if (topoIfs l a).length + 1 ≤ 6 ∧ (topoIfs l b).length + 1 ≤ 6 then l ++ [⟨a, (topoIfs l a).length + 1, b, (topoIfs l b).length + 1, kind⟩] else l
theorem Laid.add {l : List Lnk} (h : Laid l) {a b : Int} (kind : Int) (hab : a ≠ b) : Laid (addLink l a b kind) := by
  unfold addLink
  split
  case isFalse => exact h
  case isTrue =>
    have hna : ((topoIfs l a).length + 1 : Int) ∉ topoIfs l a := fun hm => by
      have h1 := (topoIfs_mem (l := l) (out := [])).1 hm
      simp only [List.not_mem_nil, or_false] at h1
      have := (h.1 _ _ h1).2; omega
    have hnb : ((topoIfs l b).length + 1 : Int) ∉ topoIfs l b := fun hm => by
      have h1 := (topoIfs_mem (l := l) (out := [])).1 hm
      simp only [List.not_mem_nil, or_false] at h1
      have := (h.1 _ _ h1).2; omega
    have ea : (a, ((topoIfs l a).length + 1 : Int)) ∉ allEnds l := fun hm => by have := (h.1 _ _ hm).2; omega
    have eb : (b, ((topoIfs l b).length + 1 : Int)) ∉ allEnds l := fun hm => by have := (h.1 _ _ hm).2; omega
    have la : (topoIfs (l ++ [⟨a, (topoIfs l a).length + 1, b, (topoIfs l b).length + 1, kind⟩]) a).length = (topoIfs l a).length + 1 := by
      rw [topoIfs_app]; unfold ifStep
      simp only [beq_self_eq_true, if_true]
      rw [if_neg (by simpa using fun e => hab e.symm)]
      exact insInt_new hna
    have lb : (topoIfs (l ++ [⟨a, (topoIfs l a).length + 1, b, (topoIfs l b).length + 1, kind⟩]) b).length = (topoIfs l b).length + 1 := by
      rw [topoIfs_app]; unfold ifStep
      simp only [beq_self_eq_true, if_true]
      rw [if_neg (by simpa using hab)]
      exact insInt_new hnb
    refine ⟨fun r n hm => ?_, ?_⟩
    · rw [allEnds_app, List.mem_append] at hm
      rcases hm with hm | hm
      · have h1 := h.1 r n hm
        have h2 := ifStep_more r (topoIfs l r) ⟨a, (topoIfs l a).length + 1, b, (topoIfs l b).length + 1, kind⟩
        rw [topoIfs_app]; omega
      · simp only [allEnds, List.flatMap_cons, List.flatMap_nil, List.append_nil, lnkEnds, List.mem_cons, List.not_mem_nil, or_false, Prod.mk.injEq] at hm
        rcases hm with ⟨rfl, rfl⟩ | ⟨rfl, rfl⟩
        · rw [la]; omega
        · rw [lb]; omega
    · rw [allEnds_app, List.nodup_append]
      refine ⟨h.2, ?_, fun p hp q hq e => ?_⟩
      · simp [allEnds, lnkEnds, hab]
      · subst e
        simp only [allEnds, List.flatMap_cons, List.flatMap_nil, List.append_nil, lnkEnds, List.mem_cons, List.not_mem_nil, or_false] at hq
        rcases hq with rfl | rfl
        · exact ea hp
        · exact eb hp
/-- What is left of such links shares no end either. -/
theorem allEnds_filter (p : Lnk → Bool) : ∀ (l : List Lnk), (allEnds (l.filter p)).Sublist (allEnds l)
  | [] => .refl _
  | x :: l => by
    cases h : p x
    · rw [List.filter_cons_of_neg (by simp [h])]
      exact (allEnds_filter p l).trans (List.sublist_append_right _ _)
    · rw [List.filter_cons_of_pos h]
      exact (List.Sublist.refl _).append (allEnds_filter p l)
theorem Laid.filter {l : List Lnk} (h : Laid l) (p : Lnk → Bool) : (allEnds (l.filter p)).Nodup := h.2.sublist (allEnds_filter p l)


def lnkOk (t : Topo) (x : Lnk) : Bool :=
  isAs t x.a && isAs t x.b && decide (x.a < x.b) && inR x.ai 1 6 && inR x.bi 1 6 &&
    (if x.kind == 1 then (asAt t x.a).core && (asAt t x.b).core else if x.kind == 2 then ((asAt t x.a).isd == (asAt t x.b).isd) && !(asAt t x.b).core else (x.kind == 3) && !(asAt t x.a).core && !(asAt t x.b).core)
structure TopoOk (t : Topo) : Prop where
  n1 : 1 ≤ t.ases.length
  n8 : t.ases.length ≤ 8
  ok : ∀ x ∈ t.links, lnkOk t x = true
  ends : (allEnds t.links).Nodup
  few : t.links.length ≤ 64
theorem addLink_len (l : List Lnk) (a b k : Int) : (addLink l a b k).length ≤ l.length + 1 := by unfold addLink; split <;> simp
/-- An AS of another ISD alone: what is right of the links is asked last. -/
theorem TopoOk.filter {al : List ASd} {l : List Lnk} (h : Laid l) (n1 : 1 ≤ al.length) (n8 : al.length ≤ 8) (hl : l.length ≤ 64) : TopoOk ⟨al, l.filter (lnkOk ⟨al, l⟩)⟩ where
  n1 := n1
  n8 := n8
  ok := fun x hx => by
    have h1 := (List.mem_filter.1 hx).2
    exact h1
  ends := h.filter _
  few := Nat.le_trans (List.length_filter_le _ _) hl
theorem TopoOk.isAs0 {t : Topo} (h : TopoOk t) : isAs t 0 = true := by
  have := h.n1
  unfold isAs inR; simp; omega
theorem mem_ends {l : List Lnk} {x : Lnk} (hx : x ∈ l) : (x.a, x.ai) ∈ allEnds l ∧ (x.b, x.bi) ∈ allEnds l := by
  unfold allEnds
  exact ⟨List.mem_flatMap.2 ⟨x, hx, by simp [lnkEnds]⟩, List.mem_flatMap.2 ⟨x, hx, by simp [lnkEnds]⟩⟩
theorem ifs_end {l : List Lnk} {r n : Int} : n ∈ topoIfs l r ↔ ∃ x ∈ l, (x.a = r ∧ x.ai = n) ∨ (x.b = r ∧ x.bi = n) := by
  have h1 := topoIfs_mem (l := l) (out := []) (r := r) (n := n)
  simp only [List.not_mem_nil, or_false] at h1
  unfold topoIfs
  rw [h1]
  unfold allEnds lnkEnds
  simp only [List.mem_flatMap, List.mem_cons, List.not_mem_nil, or_false, Prod.mk.injEq]
  constructor
  · rintro ⟨x, hx, ⟨e1, e2⟩ | ⟨e1, e2⟩⟩
    · exact ⟨x, hx, .inl ⟨e1.symm, e2.symm⟩⟩
    · exact ⟨x, hx, .inr ⟨e1.symm, e2.symm⟩⟩
  · rintro ⟨x, hx, ⟨e1, e2⟩ | ⟨e1, e2⟩⟩
    · exact ⟨x, hx, .inl ⟨e1.symm, e2.symm⟩⟩
    · exact ⟨x, hx, .inr ⟨e1.symm, e2.symm⟩⟩
theorem usesIf_iff {x : Lnk} {r d : Int} : usesIf x r d = true ↔ (x.a = r ∧ x.ai = d) ∨ (x.b = r ∧ x.bi = d) := by simp [usesIf]
theorem linkFrom_hit {r d : Int} : ∀ {l : List Lnk} {k : Nat}, (∃ x ∈ l, usesIf x r d = true) → ∃ (j : Nat) (x : Lnk), linkFrom r d k l = ((k + j : Nat) : Int) ∧ l[j]? = some x ∧ usesIf x r d = true
  | [], k, h => by obtain ⟨x, hx, _⟩ := h; cases hx
  | y :: l, k, h => by
    cases hy : usesIf y r d
    · obtain ⟨x, hx, hu⟩ := h
      rcases List.mem_cons.1 hx with rfl | hx
      · rw [hy] at hu; cases hu
      · obtain ⟨j, z, h1, h2, h3⟩ := linkFrom_hit (k := k + 1) ⟨x, hx, hu⟩
        refine ⟨j + 1, z, ?_, by simpa using h2, h3⟩
        unfold linkFrom
        rw [hy, h1]
        simp; omega
    · exact ⟨0, y, by unfold linkFrom; rw [hy]; simp, by simp, hy⟩
theorem linkIdx_hit {l : List Lnk} {r d : Int} (h : ∃ x ∈ l, usesIf x r d = true) : ∃ (j : Nat) (x : Lnk), linkIdx l r d = (j : Int) ∧ l[j]? = some x ∧ usesIf x r d = true := by
  obtain ⟨j, x, h1, h2, h3⟩ := linkFrom_hit (k := 0) h
  exact ⟨j, x, by unfold linkIdx; rw [h1]; simp, h2, h3⟩
theorem lnkOk_of {t : Topo} {x : Lnk} (h : lnkOk t x = true) : isAs t x.a = true ∧ isAs t x.b = true ∧ x.a < x.b ∧ (1 ≤ x.ai ∧ x.ai ≤ 6) ∧ (1 ≤ x.bi ∧ x.bi ≤ 6) := by
  unfold lnkOk at h
  simp only [Bool.and_eq_true, decide_eq_true_eq] at h
  obtain ⟨⟨⟨⟨⟨h1, h2⟩, h3⟩, h4⟩, h5⟩, _⟩ := h
  exact ⟨h1, h2, h3, inR_true.1 h4, inR_true.1 h5⟩
/-- The far end of an interface of a right topology. -/
theorem TopoOk.far {t : Topo} (h : TopoOk t) {r d : Int} (hd : d ∈ topoIfs t.links r) :
    ∃ x ∈ t.links, (x.a = r ∧ x.ai = d ∧ remEnd t r d = (x.b, x.bi)) ∨ (x.b = r ∧ x.bi = d ∧ remEnd t r d = (x.a, x.ai)) := by
  obtain ⟨y, hy, he⟩ := ifs_end.1 hd
  obtain ⟨j, x, h1, h2, h3⟩ := linkIdx_hit (l := t.links) (r := r) (d := d) ⟨y, hy, usesIf_iff.2 he⟩
  have hm : x ∈ t.links := List.mem_of_getElem? h2
  refine ⟨x, hm, ?_⟩
  have hr : remEnd t r d = if (x.a == r) && (x.ai == d) then (x.b, x.bi) else (x.a, x.ai) := by
    unfold remEnd
    rw [if_neg (by omega), h1, Int.toNat_natCast, h2]
  obtain ⟨_, _, hab, _⟩ := lnkOk_of (h.ok x hm)
  rcases usesIf_iff.1 h3 with ⟨e1, e2⟩ | ⟨e1, e2⟩
  · exact .inl ⟨e1, e2, by rw [hr]; simp [e1, e2]⟩
  · refine .inr ⟨e1, e2, ?_⟩
    rw [hr, if_neg]
    have : x.a ≠ r := by omega
    simp [this]
theorem TopoOk.door {t : Topo} (h : TopoOk t) {r d : Int} (hd : d ∈ topoIfs t.links r) : isAs t r = true ∧ (1 ≤ d ∧ d ≤ 6) ∧ isAs t (remEnd t r d).1 = true ∧ (1 ≤ (remEnd t r d).2 ∧ (remEnd t r d).2 ≤ 6) ∧ (remEnd t r d).1 ≠ r := by
  obtain ⟨x, hx, hh⟩ := h.far hd
  obtain ⟨h1, h2, h3, h4, h5⟩ := lnkOk_of (h.ok x hx)
  rcases hh with ⟨rfl, rfl, e⟩ | ⟨rfl, rfl, e⟩
  · rw [e]; exact ⟨h1, h4, h2, h5, by show x.b ≠ x.a; omega⟩
  · rw [e]; exact ⟨h2, h5, h1, h4, by show x.a ≠ x.b; omega⟩
theorem isAs_bd {t : Topo} (h : TopoOk t) {r : Int} (hr : isAs t r = true) : 0 ≤ r ∧ r ≤ 7 := by
  have := inR_true.1 hr
  have := h.n8
  omega
/-- The interfaces of a kind. -/
def ifsKind (t : Topo) (r k : Int) : List Int := (topoIfs t.links r).filter (fun d => ifKind t r d == k)
theorem ifsKind_mem {t : Topo} {r k d : Int} (h : d ∈ ifsKind t r k) : d ∈ topoIfs t.links r ∧ ifKind t r d = k := by
  obtain ⟨h1, h2⟩ := List.mem_filter.1 h
  exact ⟨h1, by simpa using h2⟩
end Go.Proofs.Ytkolfiedakojoaa
