/- What these laws need: FnFinishes: Contracts of the interfaces that paths use and of what revocations affect, program and reference. -/
import Derived.Test.YtcpfmhgfaliemaaKN6
namespace Go.Proofs.Ytcpfmhgfaliemaa
section
open Go.ChangeShapes Go.WideShapes Go.ChangeAt Go.RowKit Go.Deep
theorem any_snoc {α : Type} (p : α → Bool) {l : List α} {k : Nat} (hk : k < l.length) : (l.take (k + 1)).any p = ((l.take k).any p || p l[k]) := by
 rw [List.take_succ_eq_append_getElem hk, List.any_append]; simp
theorem any_hit {α : Type} (p : α → Bool) {l : List α} {k : Nat} (hk : k < l.length) (h : p l[k] = true) : l.any p = true := List.any_eq_true.2 ⟨l[k], List.getElem_mem _, h⟩
set_option maxHeartbeats 400000 in
theorem i_hasInt (l : List Int) (v : Value) (n : Int) (w : World) (hv : RdS Rep.int w v l) :
  Calls Try.prog 57 #[v, .int .i64 n] w fun e w' => e = .returned (.bool (hasI l n)) ∧ w = w' := by
 obtain ⟨o, cap, rfl, hsm⟩ := hv.shape
 go_enter Try.func57, Try.ntmps57
 go_wp2
 go_loop [9] (fun i => ∃ k : Nat, k ≤ l.length ∧ i = .int .i64 k ∧ hasI (l.take k) n = false) (fun i => l.length - (intOf i).toNat)
 case atStart => exact ⟨0, Nat.zero_le _, rfl, rfl⟩
 case round =>
  obtain ⟨k, hk, rfl, hno⟩ := hrel
  have HN := Lib.hid hno; clear hno
  by_cases hlt : k < l.length
  ·
   obtain ⟨b, off, rfl, hc⟩ := ints_at hv k hlt
   cases he : (l[k] == n)
   ·
    go_wp2
    go_round
    case rel => exact ⟨k + 1, by omega, by go_num, by unfold hasI; rw [any_snoc _ hlt, he, Bool.or_false]; exact HN.out⟩
    case measure => simp [intOf]; omega
   ·
    have hy : hasI l n = true := any_hit _ hlt he
    have HY := Lib.hid hy; clear hy
    go_wp2
    go_ret
    exact ⟨ret_bool HY.out.symm, rfl⟩
  ·
   have hy : hasI l n = false := by rw [← HN.out, List.take_of_length_le (by omega)]
   have HY := Lib.hid hy; clear hy
   go_wp2
   go_ret
   exact ⟨ret_bool HY.out.symm, rfl⟩
set_option maxHeartbeats 400000 in
theorem s_l9Has (l : List Int) (v : Value) (n : Int) (w : World) (hv : RdS Rep.int w v l) :
  Calls Try.prog 93 #[v, .int .i64 n] w fun e w' => e = .returned (.bool (hasI l n)) ∧ w = w' := by
 obtain ⟨o, cap, rfl, hsm⟩ := hv.shape
 go_enter Try.func93, Try.ntmps93
 go_wp2
 go_loop [5] (fun i => ∃ k : Nat, k ≤ l.length ∧ i = .int .i64 k ∧ hasI (l.take k) n = false) (fun i => l.length - (intOf i).toNat)
 case atStart => exact ⟨0, Nat.zero_le _, rfl, rfl⟩
 case round =>
  obtain ⟨k, hk, rfl, hno⟩ := hrel
  have HN := Lib.hid hno; clear hno
  by_cases hlt : k < l.length
  ·
   obtain ⟨b, off, rfl, hc⟩ := ints_at hv k hlt
   cases he : (l[k] == n)
   ·
    go_wp2
    go_round
    case rel => exact ⟨k + 1, by omega, by go_num, by unfold hasI; rw [any_snoc _ hlt, he, Bool.or_false]; exact HN.out⟩
    case measure => simp [intOf]; omega
   ·
    have hy : hasI l n = true := any_hit _ hlt he
    have HY := Lib.hid hy; clear hy
    go_wp2
    go_ret
    exact ⟨ret_bool HY.out.symm, rfl⟩
  ·
   have hy : hasI l n = false := by rw [← HN.out, List.take_of_length_le (by omega)]
   have HY := Lib.hid hy; clear hy
   go_wp2
   go_ret
   exact ⟨ret_bool HY.out.symm, rfl⟩
end
end Go.Proofs.Ytcpfmhgfaliemaa
