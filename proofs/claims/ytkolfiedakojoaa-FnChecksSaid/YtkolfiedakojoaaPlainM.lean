/- Chains of residues and the digest, as plain functions: a chain is undone from its end; a digest tells two rows apart that differ at one place. No condition. -/
import Derived.Test.YtkolfiedakojoaaW03
import Derived.Test.YtkolfiedakojoaaPlain28
namespace Go.Proofs.Ytkolfiedakojoaa

def chainAdd (b : Int) (l : List Int) : Int := l.foldl addMod b
def chainSub (b : Int) (l : List Int) : Int := l.foldr (fun x b => subMod b x) b
theorem chainAdd_snoc {b : Int} {l : List Int} {k : Nat} (hk : k < l.length) : chainAdd b (l.take (k + 1)) = addMod (chainAdd b (l.take k)) l[k] := by
  unfold chainAdd; rw [List.take_succ_eq_append_getElem hk, List.foldl_append]; rfl
theorem chainSub_drop {b : Int} {l : List Int} {k : Nat} (hk : k < l.length) : chainSub b (l.drop k) = subMod (chainSub b (l.drop (k + 1))) l[k] := by
  unfold chainSub; rw [List.drop_eq_getElem_cons hk]; rfl
theorem sub_add {b s : Int} (hb : isRes b = true) (hs : isRes s = true) : subMod (addMod b s) s = b := by
  have h := addMod_res b s
  rw [subMod_yes h hs, addMod_yes hb hs]
  obtain ⟨a1, a2⟩ := isRes_true.1 hb
  obtain ⟨a3, a4⟩ := isRes_true.1 hs
  omega
theorem add_sub {b s : Int} (hb : isRes b = true) (hs : isRes s = true) : addMod (subMod b s) s = b := by
  have h := subMod_res b s
  rw [addMod_yes h hs, subMod_yes hb hs]
  obtain ⟨a1, a2⟩ := isRes_true.1 hb
  obtain ⟨a3, a4⟩ := isRes_true.1 hs
  omega
theorem chainAdd_res (b : Int) (l : List Int) (hb : isRes b = true) : isRes (chainAdd b l) = true := by
  unfold chainAdd
  induction l generalizing b with
  | nil => exact hb
  | cons x l ih => exact ih _ (addMod_res b x)
theorem chain_undone : ∀ (l : List Int) (b : Int), isRes b = true → (∀ x ∈ l, isRes x = true) → chainSub (chainAdd b l) l = b
  | [], b, _, _ => rfl
  | x :: l, b, hb, hl => by
    have h := chain_undone l (addMod b x) (addMod_res b x) (fun y hy => hl y (by simp [hy]))
    show subMod (chainSub (chainAdd (addMod b x) l) l) x = b
    rw [h]
    exact sub_add hb (hl x (by simp))
theorem chainAdd_append (b : Int) (l m : List Int) : chainAdd (chainAdd b l) m = chainAdd b (l ++ m) := by unfold chainAdd; rw [List.foldl_append]

theorem digStep_bd (d x : Int) : 0 ≤ digStep d x ∧ digStep d x < 2147483647 := by unfold digStep; omega
/-- Another state of the digest stays another one. -/
theorem digStep_inj {d e x : Int} (hd : 0 ≤ d ∧ d < 2147483647) (he : 0 ≤ e ∧ e < 2147483647) (h : digStep d x = digStep e x) : d = e := by
  unfold digStep at h
  generalize x % 2147483647 = c at *
  have h1 := Int.emod_eq_emod_iff_emod_sub_eq_zero.1 h
  rw [show (d * 1000003 + c + 11) - (e * 1000003 + c + 11) = (d - e) * 1000003 by rw [Int.sub_mul]; omega] at h1
  obtain ⟨k, hk⟩ := Int.dvd_of_emod_eq_zero h1
  clear h h1
  have e1 : (1000003 * 1523789695 : Int) - 2147483647 * 709572 = 1 := by decide
  have h2 : d - e = 2147483647 * (k * 1523789695 - (d - e) * 709572) := by
    generalize d - e = X at *
    calc X = X * ((1000003 * 1523789695 : Int) - 2147483647 * 709572) := by rw [e1, Int.mul_one]
      _ = (X * 1000003) * 1523789695 - 2147483647 * (X * 709572) := by rw [Int.mul_sub, Int.mul_assoc, Int.mul_left_comm X 2147483647]
      _ = 2147483647 * (k * 1523789695 - X * 709572) := by rw [hk, Int.mul_sub, Int.mul_assoc]
  generalize k * 1523789695 - (d - e) * 709572 = m at h2
  clear hk e1
  omega
theorem digStep_new {d x y : Int} (h : x % 2147483647 ≠ y % 2147483647) : digStep d x ≠ digStep d y := by
  unfold digStep
  generalize d * 1000003 = D
  omega
theorem dig_apart : ∀ (l : List Int) {d e : Int}, (0 ≤ d ∧ d < 2147483647) → (0 ≤ e ∧ e < 2147483647) → d ≠ e → l.foldl digStep d ≠ l.foldl digStep e
  | [], _, _, _, _, h => h
  | x :: l, d, e, hd, he, h => dig_apart l (digStep_bd d x) (digStep_bd e x) (fun hh => h (digStep_inj hd he hh))
theorem digest_set (l : List Int) (i : Nat) (hi : i < l.length) (y : Int) (h : l[i] % 2147483647 ≠ y % 2147483647) : ∀ (d : Int), (l.set i y).foldl digStep d ≠ l.foldl digStep d := by
  induction l generalizing i with
  | nil => simp at hi
  | cons x l ih =>
    intro d
    cases i with
    | zero =>
      simp only [List.set_cons_zero, List.foldl_cons]
      exact dig_apart l (digStep_bd d y) (digStep_bd d x) (fun e => digStep_new h e.symm)
    | succ i =>
      simp only [List.set_cons_succ, List.foldl_cons]
      exact ih i (by simpa using hi) (by simpa using h) _
theorem mac_set (k : Int) (l : List Int) (i : Nat) (hi : i < l.length) (y : Int) (h : l[i] % 2147483647 ≠ y % 2147483647) : macOf k (l.set i y) ≠ macOf k l := by
  unfold macOf digest
  simp only [List.cons_append, List.nil_append, List.foldl_cons, List.foldl_append]
  intro e
  have a := digest_set l i hi y h (digStep 7 k)
  have bd : ∀ (l : List Int) (d : Int), (0 ≤ d ∧ d < 2147483647) → 0 ≤ l.foldl digStep d ∧ l.foldl digStep d < 2147483647 := by
    intro l
    induction l with
    | nil => intro d h; exact h
    | cons x l ih => intro d _; exact ih _ (digStep_bd d x)
  simp only [List.foldl_nil] at e
  exact a (digStep_inj (bd _ _ (digStep_bd 7 k)) (bd _ _ (digStep_bd 7 k)) e)
end Go.Proofs.Ytkolfiedakojoaa
