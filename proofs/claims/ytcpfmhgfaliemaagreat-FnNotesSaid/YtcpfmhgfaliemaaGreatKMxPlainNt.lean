/- Revocations written and read, added, and paths put in order. No program in sight. No condition. -/
import Derived.Test.YtcpfmhgfaliemaaGreatKM7
import Derived.Test.YtcpfmhgfaliemaaGreatKM11
namespace Go.Proofs.YtcpfmhgfaliemaaGreat
open Go.RowKit

theorem getElem_mid {pre : List Int} {x : Int} {post : List Int} (h : pre.length < (pre ++ (x :: post)).length) : (pre ++ (x :: post))[pre.length] = x := by
  rw [List.getElem_append_right (Nat.le_refl _)]; simp
theorem rv_var (post : List Int) : ∀ (f k : Nat) (n acc : Int) (pre : List Int), 0 ≤ n → n < 128 ^ (f + 1) → (k = 0 ∨ 0 < n) → acc + n * 2 ^ (7 * k) ≤ 1000000000000 →
    rvGo (pre ++ (varint n ++ post)) (f + 1) k pre.length acc = (acc + n * 2 ^ (7 * k), (pre.length : Int) + (varint n).length, true)
  | f, k, n, acc, pre, h0, hf, hk, hb => by
    by_cases hn : n < 128
    · rw [varint_small hn]
      have hlt : pre.length < (pre ++ ([n] ++ post)).length := by simp
      have hx : (pre ++ ([n] ++ post))[pre.length] = n := getElem_mid hlt
      have hm : n % 128 = n := Int.emod_eq_of_lt h0 hn
      rw [rvGo_ok hlt (by rw [hx]; exact hn) (by
        rw [hx, hm]
        simp only [Bool.or_eq_false_iff, Bool.and_eq_false_iff, beq_eq_false_iff_ne, decide_eq_false_iff_not]
        exact ⟨by omega, by omega⟩)]
      rw [hx, hm]; simp
    · have hn' : 128 ≤ n := by omega
      rw [varint_big hn']
      cases f with
      | zero => simp at hf; omega
      | succ f =>
        have hlt : pre.length < (pre ++ (((n % 128 + 128) :: varint (n / 128)) ++ post)).length := by simp
        have hx : (pre ++ (((n % 128 + 128) :: varint (n / 128)) ++ post))[pre.length] = n % 128 + 128 := getElem_mid hlt
        have hm : (n % 128 + 128) % 128 = n % 128 := by omega
        rw [rvGo_more hlt (by rw [hx]; omega), hx, hm]
        have e1 : pre ++ (((n % 128 + 128) :: varint (n / 128)) ++ post) = (pre ++ [n % 128 + 128]) ++ (varint (n / 128) ++ post) := by simp
        have e2 : pre.length + 1 = (pre ++ [n % 128 + 128]).length := by simp
        have e3 : acc + n % 128 * 2 ^ (7 * k) + n / 128 * 2 ^ (7 * (k + 1)) = acc + n * 2 ^ (7 * k) := by
          rw [show 7 * (k + 1) = 7 * k + 7 by omega, Int.pow_add]
          generalize (2 : Int) ^ (7 * k) = p
          have h1 : n = n % 128 + 128 * (n / 128) := (Int.emod_add_mul_ediv n 128).symm
          have h2 : n / 128 * (p * 2 ^ 7) = (128 * (n / 128)) * p := by
            rw [show (2 : Int) ^ 7 = 128 by decide, Int.mul_comm p 128, ← Int.mul_assoc, Int.mul_comm (n / 128) 128]
          rw [h2, Int.add_assoc, ← Int.add_mul, ← h1]
        rw [e1, e2, rv_var post f (k + 1) (n / 128) _ (pre ++ [n % 128 + 128]) (by omega) (by rw [Int.pow_succ] at hf; omega) (.inr (by omega)) (by rw [e3]; exact hb), e3]
        simp; omega
theorem read_var {n : Int} (h0 : 0 ≤ n) (h1 : n ≤ 1000000) (pre post : List Int) : readVar (pre ++ (varint n ++ post)) pre.length = (n, (pre.length : Int) + (varint n).length, true) := by
  unfold readVar
  rw [if_neg (by omega), Int.toNat_natCast, rv_var post 5 0 n 0 pre h0 (by rw [show (128 : Int) ^ (5 + 1) = 4398046511104 by decide]; omega) (.inl rfl) (by simp; omega)]
  simp
theorem dec_enc {x : Revc} (h : validRev x = true) : decRev (encRev x) = (x, true) := by
  have h2 := h
  unfold validRev at h2
  simp only [Bool.and_eq_true] at h2
  obtain ⟨⟨a1, a2⟩, a3⟩ := h2
  have b1 := inR_true.1 a1
  have b2 := inR_true.1 a2
  have b3 := inR_true.1 a3
  have v (n : Int) (h0 : 0 ≤ n) (h1 : n ≤ 1000000) : varOf n = varint n := by unfold varOf; rw [if_pos ⟨h0, by omega⟩]
  have he : encRev x = varint x.asn ++ (varint x.iface ++ varint x.till) := by
    unfold encRev encInts
    rw [if_pos h]
    simp [v x.asn (by omega) (by omega), v x.iface (by omega) (by omega), v x.till (by omega) (by omega)]
  have r1 := read_var (n := x.asn) (by omega) (by omega) [] (varint x.iface ++ varint x.till)
  have r2 := read_var (n := x.iface) (by omega) (by omega) (varint x.asn) (varint x.till)
  have r3 := read_var (n := x.till) (by omega) (by omega) (varint x.asn ++ varint x.iface) []
  simp only [List.nil_append, List.length_nil, List.append_nil, List.append_assoc, List.length_append] at r1 r2 r3
  have hd : decInts (encRev x) 0 3 = ([x.asn, x.iface, x.till], ((encRev x).length : Int), true) := by
    unfold decInts
    rw [if_pos (by rw [Bool.and_eq_true]; exact ⟨by decide, inR_true.2 (by omega)⟩), he]
    show decGo _ 3 0 [] = _
    have r1' : readVar (varint x.asn ++ (varint x.iface ++ varint x.till)) 0 = (x.asn, ((varint x.asn).length : Int), true) := by simpa using r1
    have r3' : readVar (varint x.asn ++ (varint x.iface ++ varint x.till)) ((varint x.asn).length + (varint x.iface).length) = (x.till, ((varint x.asn).length : Int) + (varint x.iface).length + (varint x.till).length, true) := by simpa using r3
    simp only [decGo, r1', r2, r3', if_true]
    simp; omega
  have hr : revOf [x.asn, x.iface, x.till] = x := rfl
  rw [decRev_yes (by rw [hd]; simp only [hr, h]; simp), hd]
  simp only [hr]
theorem dec_none {x : Revc} (h : validRev x = false) : (decRev (encRev x)).2 = false := by
  have he : encRev x = [] := by unfold encRev; rw [h]; rfl
  have hr : readVar [] 0 = (0, 0, false) := by unfold readVar; rw [if_neg (by omega)]; exact rvGo_end (by simp)
  have hd : decInts [] 0 3 = ([], 0, false) := by
    unfold decInts
    rw [if_pos (by decide)]
    show decGo _ 3 0 [] = _
    simp [decGo, hr]
  rw [he, decRev_no (by rw [hd]; rfl)]
theorem prolong_mem {x : Revc} : ∀ {l m : List Revc}, prolong x l = some m → ∃ y ∈ m, x.till ≤ y.till
  | [], m, h => by simp [prolong] at h
  | y :: l, m, h => by
    simp only [prolong] at h
    split at h
    · cases h; exact ⟨_, List.mem_cons_self .., by simp only; omega⟩
    · simp only [Option.map_eq_some_iff] at h
      obtain ⟨m', hm', rfl⟩ := h
      obtain ⟨z, hz, h2⟩ := prolong_mem hm'
      exact ⟨z, List.mem_cons_of_mem _ hz, h2⟩
theorem add_active {m : List Revc} {x : Revc} (hv : validRev x = true) (hm : m.length < 16) : 0 < (activeRevs x.till (addRev m x)).length := by
  have h : ∃ y ∈ addRev m x, x.till ≤ y.till := by
    unfold addRev
    rw [if_pos hv]
    split
    · rename_i l hl; exact prolong_mem hl
    · rw [if_neg (by omega)]; exact ⟨x, by simp, Int.le_refl _⟩
  obtain ⟨y, hy, h2⟩ := h
  unfold activeRevs
  exact List.length_pos_of_mem (List.mem_filter.2 ⟨hy, by simpa using h2⟩)
theorem prefer_next {rl : List Revc} {ps : List Pth} {now : Int} {i : Nat} (h : i + 1 < (prefer rl ps now).length) (hr : revoked rl ((prefer rl ps now)[i]'(by omega)) now = true) : revoked rl (prefer rl ps now)[i + 1] now = true := by
  unfold prefer at h hr ⊢
  by_cases h1 : i < (goodP rl now ps).length
  · rw [List.getElem_append_left h1] at hr
    have h2 := List.getElem_mem h1
    unfold goodP at h2
    have h3 := (List.mem_filter.1 h2).2
    unfold goodP at hr
    rw [hr] at h3; cases h3
  · rw [List.getElem_append_right (by omega)]
    have h2 := List.getElem_mem (l := badP rl now ps) (n := i + 1 - (goodP rl now ps).length) (by rw [List.length_append] at h; omega)
    unfold badP at h2
    exact (List.mem_filter.1 h2).2
theorem prefer_count (rl : List Revc) (ps : List Pth) (now : Int) : (prefer rl ps now).length = ps.length := by
  unfold prefer goodP badP
  rw [List.length_append]
  induction ps with
  | nil => rfl
  | cons p ps ih =>
    simp only [List.filter_cons]
    cases revoked rl p now <;> simp <;> omega
theorem prefer_mem {rl : List Revc} {ps : List Pth} {now : Int} {y : Pth} (h : y ∈ prefer rl ps now) : y ∈ ps := by
  unfold prefer goodP badP at h
  rcases List.mem_append.1 h with h | h
  · exact (List.mem_filter.1 h).1
  · exact (List.mem_filter.1 h).1
end Go.Proofs.YtcpfmhgfaliemaaGreat
