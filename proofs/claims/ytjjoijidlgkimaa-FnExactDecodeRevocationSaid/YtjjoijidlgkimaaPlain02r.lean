/- Reading numbers out of bytes, as plain functions. No condition. -/
import Derived.Test.YtjjoijidlgkimaaW01
namespace Go.Proofs.Ytjjoijidlgkimaa

/-- One number from place a on: the kth byte comes next, n is what was read. -/
def rvGo (b : List Int) : Nat → Nat → Nat → Int → Int × Int × Bool
  | 0, _, _, _ => (0, 0, false)
  | f + 1, k, a, n =>
    if h : a < b.length then
      if b[a] < 128 then (if (b[a] == 0 && decide (0 < k)) || decide (1000000000000 < n + b[a] % 128 * 2 ^ (7 * k)) then (0, 0, false) else (n + b[a] % 128 * 2 ^ (7 * k), (a : Int) + 1, true))
      else rvGo b f (k + 1) (a + 1) (n + b[a] % 128 * 2 ^ (7 * k))
    else (0, 0, false)
def readVar (b : List Int) (a : Int) : Int × Int × Bool := if a < 0 then (0, 0, false) else rvGo b 6 0 a.toNat 0
theorem rvGo_end {b : List Int} {f k a : Nat} {n : Int} (h : ¬ a < b.length) : rvGo b f k a n = (0, 0, false) := by
  cases f with
  | zero => rfl
  | succ f => unfold rvGo; rw [dif_neg h]
theorem rvGo_more {b : List Int} {f k a : Nat} {n : Int} (h : a < b.length) (hx : ¬ b[a] < 128) : rvGo b (f + 1) k a n = rvGo b f (k + 1) (a + 1) (n + b[a] % 128 * 2 ^ (7 * k)) := by
  rw [rvGo, dif_pos h, if_neg hx]
theorem rvGo_bad {b : List Int} {f k a : Nat} {n : Int} (h : a < b.length) (hx : b[a] < 128) (hb : ((b[a] == 0 && decide (0 < k)) || decide (1000000000000 < n + b[a] % 128 * 2 ^ (7 * k))) = true) : rvGo b (f + 1) k a n = (0, 0, false) := by
  rw [rvGo, dif_pos h, if_pos hx, if_pos hb]
theorem rvGo_ok {b : List Int} {f k a : Nat} {n : Int} (h : a < b.length) (hx : b[a] < 128) (hb : ((b[a] == 0 && decide (0 < k)) || decide (1000000000000 < n + b[a] % 128 * 2 ^ (7 * k))) = false) : rvGo b (f + 1) k a n = (n + b[a] % 128 * 2 ^ (7 * k), (a : Int) + 1, true) := by
  rw [rvGo, dif_pos h, if_pos hx, if_neg (by rw [hb]; decide)]
theorem rvGo_at (b : List Int) : ∀ (f k a : Nat) (n : Int), (rvGo b f k a n).2.2 = true → 0 ≤ (rvGo b f k a n).2.1 ∧ (rvGo b f k a n).2.1 ≤ b.length
  | 0, _, _, _, h => by simp [rvGo] at h
  | f + 1, k, a, n, h => by
    by_cases ha : a < b.length
    · by_cases hx : b[a] < 128
      · cases hb : ((b[a] == 0 && decide (0 < k)) || decide (1000000000000 < n + b[a] % 128 * 2 ^ (7 * k)))
        · rw [rvGo_ok ha hx hb]; constructor <;> (simp only; omega)
        · rw [rvGo_bad ha hx hb] at h; simp at h
      · rw [rvGo_more ha hx] at h ⊢; exact rvGo_at b f _ _ _ h
    · rw [rvGo_end ha] at h; simp at h
theorem readVar_at {b : List Int} {a : Int} (h : (readVar b a).2.2 = true) : 0 ≤ (readVar b a).2.1 ∧ (readVar b a).2.1 ≤ b.length := by
  unfold readVar at h ⊢
  split at h
  · simp at h
  · rename_i ha; rw [if_neg ha]; exact rvGo_at b _ _ _ _ h
def decGo (b : List Int) : Nat → Int → List Int → List Int × Int × Bool
  | 0, a, out => (out, a, true)
  | n + 1, a, out => if (readVar b a).2.2 then decGo b n (readVar b a).2.1 (out ++ [(readVar b a).1]) else ([], 0, false)
def decInts (b : List Int) (a n : Int) : List Int × Int × Bool := if inR n 0 100 && inR a 0 b.length then decGo b n.toNat a [] else ([], 0, false)
theorem decGo_len (b : List Int) : ∀ (n : Nat) (a : Int) (out : List Int), (decGo b n a out).2.2 = true → (decGo b n a out).1.length = out.length + n
  | 0, _, _, _ => rfl
  | n + 1, a, out, h => by
    unfold decGo at h ⊢
    split at h
    · rename_i hr; rw [if_pos hr, decGo_len b n _ _ h, List.length_append]; simp; omega
    · simp at h
theorem decInts_len {b : List Int} {a n : Int} (h : (decInts b a n).2.2 = true) : ((decInts b a n).1.length : Int) = n := by
  unfold decInts at h ⊢
  split at h
  · rename_i hr
    rw [if_pos hr, decGo_len b _ _ _ h]
    simp only [Bool.and_eq_true] at hr
    have := inR_true.1 hr.1
    simp; omega
  · simp at h
/-- or of two numbers that share no digit. -/
theorem or_add (n y : Int) (k : Nat) (hn : 0 ≤ n) (hk : n < 2 ^ (7 * k)) (hy : 0 ≤ y) (hy2 : y < 128) (hk6 : k < 6) : ((BitVec.ofInt 64 n ||| BitVec.ofInt 64 (y * 2 ^ (7 * k))).toNat : Int) = n + y * 2 ^ (7 * k) := by
  obtain ⟨a, rfl⟩ := Int.eq_ofNat_of_zero_le hn
  obtain ⟨c, rfl⟩ := Int.eq_ofNat_of_zero_le hy
  have hc : c < 128 := by omega
  have hk' : a < 2 ^ (7 * k) := by exact_mod_cast hk
  have hp : 2 ^ (7 * k) ≤ 2 ^ 35 := Nat.pow_le_pow_right (by decide) (by omega)
  have hm : c * 2 ^ (7 * k) < 128 * 2 ^ 35 := by
    have h1 : c * 2 ^ (7 * k) ≤ c * 2 ^ 35 := Nat.mul_le_mul_left _ hp
    omega
  have e1 : (BitVec.ofInt 64 (a : Int)).toNat = a := by
    rw [BitVec.toNat_ofInt]
    have : ((a : Int) % ((2 ^ 64 : Nat) : Int)) = a := Int.emod_eq_of_lt (by omega) (by omega)
    omega
  have e2 : (BitVec.ofInt 64 ((c : Int) * 2 ^ (7 * k))).toNat = c * 2 ^ (7 * k) := by
    rw [BitVec.toNat_ofInt]
    have h3 : ((c : Int) * 2 ^ (7 * k)) = ((c * 2 ^ (7 * k) : Nat) : Int) := by push_cast; rfl
    rw [h3]
    have : (((c * 2 ^ (7 * k) : Nat) : Int) % ((2 ^ 64 : Nat) : Int)) = ((c * 2 ^ (7 * k) : Nat) : Int) := Int.emod_eq_of_lt (by omega) (by omega)
    omega
  rw [BitVec.toNat_or, e1, e2]
  have h4 : a ||| c * 2 ^ (7 * k) = a + c * 2 ^ (7 * k) := by
    have := Nat.shiftLeft_add_eq_or_of_lt hk' c
    rw [Nat.shiftLeft_eq] at this
    rw [Nat.or_comm, ← this, Nat.add_comm]
  rw [h4]
  push_cast
  rfl
end Go.Proofs.Ytjjoijidlgkimaa
