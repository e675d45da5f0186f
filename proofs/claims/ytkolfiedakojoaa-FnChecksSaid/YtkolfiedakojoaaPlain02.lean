/- Plain facts on the encoding of numbers: no program. -/
import Derived.Test.YtkolfiedakojoaaApp
import Derived.Laws.BitsAllLaws
import Derived.Laws.BitsLemmas
namespace Go.Proofs.Ytkolfiedakojoaa

def varF : Nat → Int → List Int
  | 0, n => [n]
  | k + 1, n => if 128 ≤ n then (n % 128 + 128) :: varF k (n / 128) else [n]
def varint (n : Int) : List Int := varF n.toNat n

theorem varF_stable : ∀ (k k' : Nat) (n : Int), n.toNat ≤ k → n.toNat ≤ k' → varF k n = varF k' n
  | 0, 0, _, _, _ => rfl
  | 0, k' + 1, n, h, _ => by
    have : ¬ 128 ≤ n := by omega
    simp [varF, this]
  | k + 1, 0, n, _, h => by
    have : ¬ 128 ≤ n := by omega
    simp [varF, this]
  | k + 1, k' + 1, n, h, h' => by
    by_cases hn : 128 ≤ n
    · simp only [varF, hn, if_true]
      rw [varF_stable k k' (n / 128) (by omega) (by omega)]
    · simp [varF, hn]

theorem varint_big {n : Int} (h : 128 ≤ n) : varint n = (n % 128 + 128) :: varint (n / 128) := by
  obtain ⟨k, hk⟩ : ∃ k, n.toNat = k + 1 := ⟨n.toNat - 1, by omega⟩
  unfold varint
  rw [hk]
  simp only [varF, h, if_true]
  rw [varF_stable k (n / 128).toNat (n / 128) (by omega) (Nat.le_refl _)]
theorem varint_small {n : Int} (h : n < 128) : varint n = [n] := by
  unfold varint
  cases n.toNat with
  | zero => rfl
  | succ k => simp only [varF]; rw [if_neg (by omega)]

/-- The bytes that a number adds: none if it is out of range. -/
def varOf (n : Int) : List Int := if 0 ≤ n ∧ n ≤ 1000000000000 then varint n else []
def encInts (l : List Int) : List Int := l.flatMap varOf

theorem varint_len : ∀ (k : Nat) (n : Int), 0 ≤ n → n < 128 ^ (k + 1) → (varint n).length ≤ k + 1
  | 0, n, _, h => by rw [varint_small (by simpa using h)]; simp
  | k + 1, n, h0, h => by
    by_cases hn : 128 ≤ n
    · rw [varint_big hn, List.length_cons]
      have := varint_len k (n / 128) (by omega) (by
        rw [Int.pow_succ] at h
        omega)
      omega
    · rw [varint_small (by omega)]; simp
theorem varOf_len (n : Int) : (varOf n).length ≤ 6 := by
  unfold varOf
  split
  · rename_i h
    exact varint_len 5 n h.1 (by omega)
  · simp
theorem encInts_len (l : List Int) : (encInts l).length ≤ 6 * l.length := by
  induction l with
  | nil => simp [encInts]
  | cons a l ih =>
    have := varOf_len a
    simp only [encInts, List.flatMap_cons, List.length_append, List.length_cons] at ih ⊢
    omega

theorem ofInt_nat (a : Nat) (ha : a < 9223372036854775808) : (BitVec.ofInt 64 (a : Int)).toNat = a := by
  rw [BitVec.ofInt_natCast, BitVec.toNat_ofNat]; exact Nat.mod_eq_of_lt (by omega)
theorem and_nat (a b : Nat) (ha : a < 9223372036854775808) (hb : b < 9223372036854775808) : bits .and .i64 (a : Int) (b : Int) = ((a &&& b : Nat) : Int) := by
  have hx : a &&& b < 2 ^ 63 := Nat.and_lt_two_pow _ (by omega)
  show IntKind.i64.wrap ((BitVec.ofInt 64 (a : Int) &&& BitVec.ofInt 64 (b : Int)).toNat : Int) = _
  rw [BitVec.toNat_and, ofInt_nat a ha, ofInt_nat b hb, IntKind.wrap_i64]
  omega
theorem or_nat (a b : Nat) (ha : a < 9223372036854775808) (hb : b < 9223372036854775808) : bits .or .i64 (a : Int) (b : Int) = ((a ||| b : Nat) : Int) := by
  have hx : a ||| b < 2 ^ 63 := Nat.or_lt_two_pow (by omega) (by omega)
  show IntKind.i64.wrap ((BitVec.ofInt 64 (a : Int) ||| BitVec.ofInt 64 (b : Int)).toNat : Int) = _
  rw [BitVec.toNat_or, ofInt_nat a ha, ofInt_nat b hb, IntKind.wrap_i64]
  omega
theorem and127 (m : Int) (h0 : 0 ≤ m) (h1 : m < 9223372036854775808) : bits .and .i64 m 127 = m % 128 := by
  obtain ⟨k, rfl⟩ := Int.eq_ofNat_of_zero_le h0
  have := and_nat k 127 (by omega) (by omega)
  have h2 : k &&& 127 = k % 128 := Nat.and_two_pow_sub_one_eq_mod k 7
  rw [h2] at this
  have e : ((127 : Nat) : Int) = 127 := rfl
  rw [e] at this
  rw [this]; omega
theorem or128 (m : Int) : bits .or .i64 (m % 128) 128 = m % 128 + 128 := by
  obtain ⟨k, hk⟩ := Int.eq_ofNat_of_zero_le (show 0 ≤ m % 128 by omega)
  have hk2 : k < 128 := by omega
  rw [hk]
  have := or_nat k 128 (by omega) (by omega)
  have h2 : k ||| 128 = k + 128 := by
    have := Nat.two_pow_add_eq_or_of_lt (b := k) (i := 7) (by omega) 1
    simp only [Nat.mul_one] at this
    rw [Nat.or_comm, Nat.add_comm]
    exact this.symm
  rw [h2] at this
  have e : ((128 : Nat) : Int) = 128 := rfl
  rw [e] at this
  rw [this]; omega

end Go.Proofs.Ytkolfiedakojoaa
