/- Segments as they are drawn: grown hop by hop along the links of a right topology, each hop sealed: all of them verify. Plain laws. No condition. -/
import Derived.Test.YtkolfiedakojoaaPlainY
import Derived.Test.YtkolfiedakojoaaPlainM
namespace Go.Proofs.Ytkolfiedakojoaa
open Go.RowKit

structure Seg where
  ts : Int
  beta : Int
  hops : List Hop
  deriving DecidableEq
def betaAt (s : Seg) (i : Int) : Int := if inR i 0 s.hops.length then chainAdd s.beta ((s.hops.take i.toNat).map (·.mac)) else 0
def sealHop (key ts beta : Int) (h : Hop) : Hop := { h with mac := hopMac key ts beta h }
def asns (l : List Hop) : List Int := l.map (·.asn)
inductive Grown (t : Topo) (kind ts beta : Int) : Int → Int → List Hop → Prop
  | start (r : Int) : isAs t r = true → (asAt t r).core = true → Grown t kind ts beta r 0 []
  | step (r inn out e : Int) (hs : List Hop) : Grown t kind ts beta r inn hs → out ∈ ifsKind t r kind → hasI (asns hs) (remEnd t r out).1 = false → inn ≠ out → ts + 50 ≤ e → e ≤ ts + 99 →
      Grown t kind ts beta (remEnd t r out).1 (remEnd t r out).2 (hs ++ [sealHop (asAt t r).key ts (betaAt ⟨ts, beta, hs⟩ hs.length) ⟨r, inn, out, e, 0⟩])
/-- A segment as it is drawn. -/
structure SegDrawn (t : Topo) (kind : Int) (s : Seg) : Prop where
  ts : 0 ≤ s.ts ∧ s.ts ≤ 49
  beta : 0 ≤ s.beta ∧ s.beta ≤ 999999
  len : s.hops.length ≤ 5
  how : (∃ r inn, Grown t kind s.ts s.beta r inn s.hops) ∨ s.hops = [] ∨ ∃ r inn e hs, Grown t kind s.ts s.beta r inn hs ∧ inn ≠ 0 ∧ s.ts + 50 ≤ e ∧ e ≤ s.ts + 99 ∧
    s.hops = hs ++ [sealHop (asAt t r).key s.ts (betaAt ⟨s.ts, s.beta, hs⟩ hs.length) ⟨r, inn, 0, e, 0⟩]
theorem betaAt_pre {ts beta : Int} {hs ms : List Hop} {k : Nat} (hk : k ≤ hs.length) : betaAt ⟨ts, beta, hs ++ ms⟩ k = betaAt ⟨ts, beta, hs⟩ k := by
  unfold betaAt
  have h1 : inR (k : Int) 0 ((hs ++ ms).length : Nat) = true := inR_true.2 (by simp; omega)
  have h2 : inR (k : Int) 0 (hs.length : Nat) = true := inR_true.2 (by omega)
  simp only [h1, h2, if_true, Int.toNat_natCast]
  rw [List.take_append_of_le_length hk]
theorem betaAt_nat {s : Seg} {k : Nat} (hk : k ≤ s.hops.length) : betaAt s k = chainAdd s.beta ((s.hops.take k).map (·.mac)) := by
  unfold betaAt
  rw [if_pos (inR_true.2 (by omega)), Int.toNat_natCast]
theorem hopMac_res (k ts b : Int) (h : Hop) : isRes (hopMac k ts b h) = true := by
  have h1 : ∀ (l : List Int) (d : Int), 0 ≤ d ∧ d < 2147483647 → 0 ≤ l.foldl digStep d ∧ l.foldl digStep d < 2147483647 := by
    intro l
    induction l with
    | nil => exact fun d h => h
    | cons x l ih => exact fun d _ => ih _ (digStep_bd d x)
  have h2 := h1 ([k] ++ [ts, b, h.asn, h.ing, h.eg, h.exp] ++ [k]) 7 (by omega)
  exact inR_true.2 (by unfold hopMac macOf digest; omega)
/-- A hop that is sealed verifies. -/
theorem seal_ok {t : Topo} (T : TopoOk t) {ts b : Int} {h : Hop} (ha : isAs t h.asn = true) (hi : 0 ≤ h.ing ∧ h.ing ≤ 6) (ho : 0 ≤ h.eg ∧ h.eg ≤ 6) (hne : h.ing ≠ h.eg) (he : 0 ≤ h.exp ∧ h.exp ≤ 1000000) :
    verHop t ts b (sealHop (asAt t h.asn).key ts b h) = true := by
  obtain ⟨h0, h7⟩ := isAs_bd T ha
  unfold verHop validHop sealHop
  simp only [inR_true.2 ⟨h0, h7⟩, inR_true.2 hi, inR_true.2 ho, inR_true.2 he, hopMac_res, ha, Bool.true_and, Bool.and_true, Bool.and_eq_true, bne_iff_ne, ne_eq, beq_iff_eq]
  exact ⟨hne, rfl⟩
/-- All hops of a row verify. -/
def Sealed (t : Topo) (ts beta : Int) (hs : List Hop) : Prop := ∀ (k : Nat) (hk : k < hs.length), verHop t ts (betaAt ⟨ts, beta, hs⟩ k) hs[k] = true
theorem Sealed.snoc {t : Topo} {ts beta : Int} {hs : List Hop} (S : Sealed t ts beta hs) {x : Hop} (hx : verHop t ts (betaAt ⟨ts, beta, hs⟩ hs.length) x = true) : Sealed t ts beta (hs ++ [x]) := by
  intro k hk
  rw [betaAt_pre (by simp at hk; omega)]
  rcases Nat.lt_or_ge k hs.length with h1 | h1
  · rw [List.getElem_append_left h1]; exact S k h1
  · obtain rfl : k = hs.length := by simp at hk; omega
    simpa using hx
theorem Sealed.nil (t : Topo) (ts beta : Int) : Sealed t ts beta [] := fun _ hk => by cases hk
theorem Grown.good {t : Topo} (T : TopoOk t) {kind ts beta : Int} (h0 : 0 ≤ ts ∧ ts ≤ 49) {r inn : Int} {hs : List Hop} (h : Grown t kind ts beta r inn hs) :
    isAs t r = true ∧ (0 ≤ inn ∧ inn ≤ 6) ∧ Sealed t ts beta hs := by
  induction h with
  | start r h1 _ => exact ⟨h1, by omega, Sealed.nil _ _ _⟩
  | step r inn out e hs _ hout _ hne he1 he2 ih =>
    obtain ⟨i1, i2, i3⟩ := ih
    obtain ⟨_, d2, d3, d4, _⟩ := T.door (ifsKind_mem hout).1
    exact ⟨d3, by omega, i3.snoc (seal_ok T (h := ⟨r, inn, out, e, 0⟩) i1 i2 (by simp only; omega) hne (by simp only; omega))⟩
theorem SegDrawn.ver {t : Topo} (T : TopoOk t) {kind : Int} {s : Seg} (h : SegDrawn t kind s) : Sealed t s.ts s.beta s.hops := by
  rcases h.how with ⟨r, inn, g⟩ | h1 | ⟨r, inn, e, hs, g, hne, he1, he2, h1⟩
  · exact (g.good T h.ts).2.2
  · rw [h1]; exact Sealed.nil _ _ _
  · obtain ⟨i1, i2, i3⟩ := g.good T h.ts
    rw [h1]
    exact i3.snoc (seal_ok T (h := ⟨r, inn, 0, e, 0⟩) i1 i2 (by simp only; omega) hne (by have := h.ts; simp only; omega))
theorem isRes_of {n : Int} (h0 : 0 ≤ n) (h1 : n ≤ 999999) : isRes n = true := inR_true.2 (by omega)

/-! Two segments joined. -/
def splice (a : Seg) (i : Int) (b : Seg) (j : Int) : Seg := if inR i 0 a.hops.length && inR j 0 b.hops.length then ⟨a.ts, a.beta, a.hops.take i.toNat ++ b.hops.drop j.toNat⟩ else ⟨0, 0, []⟩
def badFrom (t : Topo) (s : Seg) : Nat → Nat → Int
  | 0, _ => -1
  | n + 1, k => if verHop t s.ts (betaAt s k) (hopAt s.hops k) then badFrom t s n (k + 1) else k
/-- The first hop that does not verify. -/
def firstBad (t : Topo) (s : Seg) : Int := badFrom t s s.hops.length 0
theorem badFrom_val {t : Topo} {s : Seg} : ∀ {n k : Nat}, badFrom t s n k = -1 ∨ ∃ j : Nat, k ≤ j ∧ j < k + n ∧ badFrom t s n k = j ∧ verHop t s.ts (betaAt s j) (hopAt s.hops j) = false ∧ ∀ i, k ≤ i → i < j → verHop t s.ts (betaAt s i) (hopAt s.hops i) = true
  | 0, k => .inl rfl
  | n + 1, k => by
    unfold badFrom
    cases h : verHop t s.ts (betaAt s k) (hopAt s.hops k)
    · exact .inr ⟨k, Nat.le_refl _, by omega, by simp, h, fun i h1 h2 => by omega⟩
    · rcases badFrom_val (t := t) (s := s) (n := n) (k := k + 1) with h1 | ⟨j, h1, h2, h3, h4, h5⟩
      · exact .inl (by simpa using h1)
      · refine .inr ⟨j, by omega, by omega, by simpa using h3, h4, fun i hi hj => ?_⟩
        rcases Nat.eq_or_lt_of_le hi with e | e
        · rw [← e]; exact h
        · exact h5 i e hj
theorem badFrom_hit {t : Topo} {s : Seg} : ∀ {n k j : Nat}, k ≤ j → j < k + n → (∀ i, k ≤ i → i < j → verHop t s.ts (betaAt s i) (hopAt s.hops i) = true) → verHop t s.ts (betaAt s j) (hopAt s.hops j) = false → badFrom t s n k = j
  | 0, k, j, h1, h2, _, _ => by omega
  | n + 1, k, j, h1, h2, h3, h4 => by
    unfold badFrom
    rcases Nat.eq_or_lt_of_le h1 with e | e
    · subst e; rw [h4]; simp
    · rw [h3 k (Nat.le_refl _) e, if_pos rfl]
      exact badFrom_hit e (by omega) (fun i hi hj => h3 i (by omega) hj) h4
theorem hopAt_get {l : List Hop} {k : Nat} (hk : k < l.length) : hopAt l k = l[k] := by unfold hopAt; rw [List.getElem?_eq_getElem hk]
/-- Two joined segments verify exactly if their chaining values agree. -/
theorem splice_law {t : Topo} {a b : Seg} (S : Sealed t a.ts a.beta a.hops) {k m : Nat} (hk : k ≤ a.hops.length) (hm : m < b.hops.length) :
    if verHop t a.ts (betaAt a k) b.hops[m] = true then firstBad t (splice a k b m) < 0 ∨ (k : Int) < firstBad t (splice a k b m) else firstBad t (splice a k b m) = k := by
  have hs : splice a k b m = ⟨a.ts, a.beta, a.hops.take k ++ b.hops.drop m⟩ := by
    unfold splice
    rw [if_pos (by simp only [Bool.and_eq_true, inR_true]; omega), Int.toNat_natCast, Int.toNat_natCast]
  have hl : (a.hops.take k).length = k := by simp; omega
  have hb : ∀ i : Nat, i ≤ k → betaAt ⟨a.ts, a.beta, a.hops.take k ++ b.hops.drop m⟩ i = betaAt a i := by
    intro i hi
    rw [betaAt_pre (by omega), betaAt_nat (by rw [hl]; exact hi), betaAt_nat (by omega)]
    simp only
    rw [List.take_take, Nat.min_eq_left hi]
  have hpre : ∀ i : Nat, i < k → verHop t a.ts (betaAt ⟨a.ts, a.beta, a.hops.take k ++ b.hops.drop m⟩ i) (hopAt (a.hops.take k ++ b.hops.drop m) i) = true := by
    intro i hi
    rw [hb i (by omega), hopAt_get (by simp; omega), List.getElem_append_left (by omega), List.getElem_take]
    exact S i (by omega)
  have hat : hopAt (a.hops.take k ++ b.hops.drop m) k = b.hops[m] := by
    rw [hopAt_get (by simp; omega), List.getElem_append_right (by omega)]
    simp [hl]
  rw [hs]
  have hlen : (a.hops.take k ++ b.hops.drop m).length = k + (b.hops.length - m) := by simp; omega
  unfold firstBad
  simp only
  rw [hlen]
  split
  case isFalse hv =>
    exact badFrom_hit (Nat.zero_le _) (by omega) (fun i _ hi => hpre i hi) (by simp only; rw [hb k (Nat.le_refl _), hat]; simpa using hv)
  case isTrue hv =>
    rcases badFrom_val (t := t) (s := ⟨a.ts, a.beta, a.hops.take k ++ b.hops.drop m⟩) (n := k + (b.hops.length - m)) (k := 0) with h1 | ⟨j, _, _, h3, h4, _⟩
    · rw [h1]; exact .inl (by omega)
    · rw [h3]
      rcases Nat.lt_trichotomy j k with h5 | h5 | h5
      · simp only at h4; rw [hpre j h5] at h4; cases h4
      · subst h5; simp only at h4; rw [hb j (Nat.le_refl _), hat, hv] at h4; cases h4
      · exact .inr (by omega)
theorem splice_self {a : Seg} {k : Nat} (hk : k ≤ a.hops.length) : splice a k a k = a := by
  unfold splice
  rw [if_pos (by simp only [Bool.and_eq_true, inR_true]; omega)]
  simp
end Go.Proofs.Ytkolfiedakojoaa
