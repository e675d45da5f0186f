/- What these laws need: FnLeases: Contracts of what becomes of a packet at an AS, program and reference. What forwarding keeps of a packet, and its codes: plain laws. Contracts of the walk of a packet, program and reference. The length of a path; whether a number is among others; how long a trace is. -/
import Derived.Test.YtikbeiafobnblaaKQ44
namespace Go.Proofs.Ytikbeiafobnblaa
section
open Go.ChangeShapes Go.WideShapes Go.ChangeAt Go.RowKit Go.Deep
theorem adv_path (x : Pkt) : (advance x).path = x.path := by unfold advance; split; rfl; split <;> rfl
end
section
open Go.ChangeShapes Go.WideShapes Go.ChangeAt Go.RowKit Go.Deep
theorem fw_adv_pay (x : Pkt) : (advance x).pay = x.pay := by unfold advance; split; rfl; split <;> rfl
theorem fw_ver_pay (t : Topo) (x : Pkt) : (verCur t x).pay = x.pay := by unfold verCur; split <;> rfl
theorem fw_chkAll (t : Topo) (now : Int) : ∀ (f : Nat) (x : Pkt), (chkAll t now f x).2.path = x.path ∧ (chkAll t now f x).2.pay = x.pay
  | 0, x => ⟨verCur_path t x, fw_ver_pay t x⟩
  | f + 1, x => by
    unfold chkAll
    split
    · have h := fw_chkAll t now f (advance (verCur t x))
      rw [h.1, h.2, adv_path, fw_adv_pay]; exact ⟨verCur_path t x, fw_ver_pay t x⟩
    · exact ⟨verCur_path t x, fw_ver_pay t x⟩
theorem fw_pp (t : Topo) (r now dead inn : Int) (x : Pkt) : (forward t r now dead inn x).pkt.path = x.path ∧ (forward t r now dead inn x).pkt.pay = x.pay := by
  have h := fw_chkAll t now x.path.parts.length x
  unfold forward
  simp only
  repeat' split
  all_goals first | exact ⟨rfl, rfl⟩ | exact h | exact ⟨(adv_path _).trans h.1, (fw_adv_pay _).trans h.2⟩
theorem fw_size (t : Topo) (r now dead inn : Int) (x : Pkt) : (forward t r now dead inn x).pkt.size = x.size := by
  have h := fw_pp t r now dead inn x
  unfold Pkt.size; rw [h.1, h.2]
theorem fw_chk_nn (t : Topo) (now : Int) (x : Pkt) : 0 ≤ chkCode t now x := by unfold chkCode; split; split; all_goals omega
theorem fw_all_nn (t : Topo) (now : Int) : ∀ (f : Nat) (x : Pkt), 0 ≤ (chkAll t now f x).1
  | 0, x => fw_chk_nn t now x
  | f + 1, x => by
    unfold chkAll
    split
    · exact fw_all_nn t now f _
    · exact fw_chk_nn t now x
theorem fw_nn (t : Topo) (r now dead inn : Int) (x : Pkt) : 0 ≤ (forward t r now dead inn x).code := by
  have h := fw_all_nn t now x.path.parts.length x
  unfold forward
  simp only
  repeat' split
  all_goals first | exact h | (dsimp only; omega)
end
section
open Go.ChangeShapes Go.WideShapes Go.ChangeAt Go.RowKit Go.Deep
theorem Trc.own_of {lo : Nat} {S : Nat → Prop} {w : World} {h0 h1 h2 : Value} {cd : Int} {l : List Step} {z : Pkt} {lo1 : Nat} (a : OwnF Step.f 3 lo1 120 w h0 l) (b : Pkt.own S w h1 h2 z) (hlo : lo ≤ lo1) (hS : ∀ b, S b → lo ≤ b ∧ b < w.heap.size ∧ h0.ownBlock ≠ some b) : Trc.own (rng lo w.heap.size) w h0 h1 h2 ⟨cd, l, z⟩ :=
 ⟨fun b => h0.ownBlock = some b, S, ⟨a.to0, fun _ h => h⟩, b, fun b hb => ⟨Nat.le_trans hlo (a.block b hb).1, (a.block b hb).2⟩, fun b hb => ⟨(hS b hb).1, (hS b hb).2.1⟩, fun b hb h2 => (hS b h2).2.2 hb⟩
end
section
open Go.ChangeShapes Go.WideShapes Go.ChangeAt Go.RowKit Go.Deep
theorem trav_size (t : Topo) (now : Int) (dead : List Int) : ∀ (f : Nat) (r inn : Int) (x : Pkt) (l : List Step), (trav t now dead f r inn x l).pkt.size = x.size ∧ (trav t now dead f r inn x l).steps.length ≤ l.length + f
 | 0, r, inn, x, l => ⟨rfl, Nat.le_refl _⟩
 | f + 1, r, inn, x, l => by
  obtain ⟨v, hv⟩ : ∃ v, forward t r now (failedIfs t dead r) inn x = v := ⟨_, rfl⟩
  obtain ⟨cd, eg, z⟩ := v
  have hz : z.size = x.size := by have h := fw_size t r now (failedIfs t dead r) inn x; rw [hv] at h; exact h
  by_cases h0 : cd = 0
  ·
   subst h0
   rw [trav_go hv]
   obtain ⟨h1, h2⟩ := trav_size t now dead f (remEnd t r eg).1 (remEnd t r eg).2 z (l ++ [⟨r, inn, eg⟩])
   exact ⟨h1.trans hz, by simp at h2; omega⟩
  ·
   by_cases h1 : cd = 1
   ·
    subst h1
    rw [trav_del hv]
    exact ⟨hz, by simp⟩
   ·
    rw [trav_bad hv h0 h1]
    exact ⟨hz, by simp⟩
theorem traverse_size (t : Topo) (now : Int) (dead : List Int) (x : Pkt) : (traverse t now dead x).size ≤ x.size + 30 := by
 obtain ⟨h1, h2⟩ := trav_size t now dead 30 x.src 0 x []
 have e1 : (traverse t now dead x).pkt.size = x.size := h1
 have e2 : (traverse t now dead x).steps.length ≤ 0 + 30 := h2
 unfold Trc.size; omega
set_option maxHeartbeats 400000 in
theorem l_in (l : List Int) (v : Value) (n : Int) (w : World) (hv : RdS Rep.int w v l) :
  Calls Try.prog 70 #[v, .int .i64 n] w fun e w' => e = .returned (.bool (hasI l n)) ∧ Ext w w' := by
 obtain ⟨o, cap, rfl, hsm⟩ := hv.shape
 go_enter Try.func70, Try.ntmps70
 go_wp2
 go_loop [5] (fun i => ∃ k : Nat, k ≤ l.length ∧ i = .int .i64 k ∧ hasI (l.take k) n = false) (fun i => l.length - (intOf i).toNat)
 case atStart => exact ⟨0, Nat.zero_le _, rfl, rfl⟩
 case round =>
  obtain ⟨k, hk, rfl, hno⟩ := hrel
  have HN := Lib.hid hno; clear hno
  by_cases hlt : k < l.length
  ·
   obtain ⟨b, off, rfl, hc⟩ := ints_at hv k hlt
   cases he : (l[k] == n)
   ·
    go_wp2
    go_round
    case rel => exact ⟨k + 1, by omega, by go_num, by unfold hasI; rw [any_snoc _ hlt, he, Bool.or_false]; exact HN.out⟩
    case measure => simp [intOf]; omega
   ·
    have hy : hasI l n = true := any_hit _ hlt he
    have HY := Lib.hid hy; clear hy
    go_wp2
    go_ret
    exact ⟨ret_bool HY.out.symm, Ext.refl _⟩
  ·
   have hy : hasI l n = false := by rw [← HN.out, List.take_of_length_le (by omega)]
   have HY := Lib.hid hy; clear hy
   go_wp2
   go_ret
   exact ⟨ret_bool HY.out.symm, Ext.refl _⟩
theorem nodup_has {l : List Int} (h : l.Nodup) {k : Nat} (hk : k < l.length) : hasI (l.take k) l[k] = false := by
 rw [List.nodup_iff_pairwise_ne, List.pairwise_iff_getElem] at h
 unfold hasI
 simp only [List.any_eq_false, beq_iff_eq]
 intro y hy e
 obtain ⟨j, hj, rfl⟩ := List.mem_take_iff_getElem.1 hy
 exact h j k (by omega) hk (by omega) e
end
end Go.Proofs.Ytikbeiafobnblaa
