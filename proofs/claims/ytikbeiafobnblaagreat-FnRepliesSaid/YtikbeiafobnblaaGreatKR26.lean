/- What these laws need: FnForwards, FnHopsPassed, FnReplies: Contracts of what becomes of a packet at an AS, program and reference. What forwarding keeps of a packet, and its codes: plain laws. -/
import Derived.Test.YtikbeiafobnblaaGreatKR25
namespace Go.Proofs.YtikbeiafobnblaaGreat
section
open Go.ChangeShapes Go.WideShapes Go.ChangeAt Go.RowKit Go.Deep
theorem fw_bad {t : Topo} {r now dead inn : Int} {x : Pkt} (h : (validPkt x && simple t x.path && (curAs x == r)) = false) : forward t r now dead inn x = ⟨2, 0, x⟩ := by unfold forward; rw [h]; rfl
theorem fw_in {t : Topo} {r now dead inn : Int} {x : Pkt} (h : (validPkt x && simple t x.path && (curAs x == r)) = true) (h2 : (inn != wantIn x) = true) : forward t r now dead inn x = ⟨3, 0, x⟩ := by unfold forward; rw [h, h2]; rfl
theorem fw_chk {t : Topo} {r now dead inn c : Int} {x z : Pkt} (h : (validPkt x && simple t x.path && (curAs x == r)) = true) (h2 : (inn != wantIn x) = false) (hc : chkAll t now x.path.parts.length x = (c, z)) (h3 : ¬ c = 0) : forward t r now dead inn x = ⟨c, 0, x⟩ := by
 unfold forward; rw [h, h2, hc]; simp [h3]
theorem fw_del {t : Topo} {r now dead inn : Int} {x z : Pkt} (h : (validPkt x && simple t x.path && (curAs x == r)) = true) (h2 : (inn != wantIn x) = false) (hc : chkAll t now x.path.parts.length x = (0, z)) (h3 : atLast z = true) : forward t r now dead inn x = if z.dst == r then ⟨1, 0, z⟩ else ⟨2, 0, x⟩ := by
 unfold forward; rw [h, h2, hc]; simp [h3]
theorem fw_out {t : Topo} {r now dead inn : Int} {x z : Pkt} (h : (validPkt x && simple t x.path && (curAs x == r)) = true) (h2 : (inn != wantIn x) = false) (hc : chkAll t now x.path.parts.length x = (0, z)) (h3 : atLast z = false) :
  forward t r now dead inn x = if !(stepOk t ⟨r, inn, partEg (curPart z) z.hi⟩) then ⟨6, 0, x⟩ else if inSet dead (partEg (curPart z) z.hi) then ⟨7, 0, x⟩ else ⟨0, partEg (curPart z) z.hi, advance z⟩ := by
 unfold forward; rw [h, h2, hc]; simp [h3]
theorem chk_stop {t : Topo} {now : Int} {f : Nat} {x : Pkt} (h : (chkCode t now x == 0 && lastOf (verCur t x) && !(atLast (verCur t x))) = false) : chkAll t now f x = (chkCode t now x, verCur t x) := by
 cases f with
 | zero => rfl
 | succ f => unfold chkAll; rw [h]; rfl
theorem chk_go {t : Topo} {now : Int} {f : Nat} {x : Pkt} (h : chkCode t now x = 0) (h2 : lastOf (verCur t x) = true) (h3 : atLast (verCur t x) = false) : chkAll t now (f + 1) x = chkAll t now f (advance (verCur t x)) := by
 rw [chkAll, h, h2, h3]; rfl
theorem code_has {t : Topo} {now : Int} {x : Pkt} (h : chkCode t now x = 0) : hasHop (verCur t x) = true ∧ ¬ curAs (verCur t x) < 0 := by
 have h1 : curOk t x = true := by
  cases hh : curOk t x
  ·
   rw [code_4 hh] at h; exact absurd h (by decide)
  ·
   rfl
 have h2 : ¬ curAs (verCur t x) < 0 := by
  intro hn
  rw [verCur_curAs] at hn
  rw [curOk_neg hn] at h1; cases h1
 exact ⟨curAs_has h2, h2⟩
theorem adv_path (x : Pkt) : (advance x).path = x.path := by unfold advance; split; rfl; split <;> rfl
theorem adv_size (x : Pkt) : (advance x).size = x.size := by unfold Pkt.size; rw [adv_path]; unfold advance; split; rfl; split <;> rfl
theorem adv_pi {x : Pkt} (h : ¬ curAs x < 0) (h2 : atLast x = false) (h3 : lastOf x = true) : (advance x).pi.toNat = x.pi.toNat + 1 := by
 obtain ⟨⟨p0, _⟩, _⟩ := hasHop_parts (curAs_has h)
 rw [adv_3 h h2 h3]; show (x.pi + 1).toNat = _; omega
theorem wantIn_t {x : Pkt} (h : ((x.pi == 0) && (x.hi == 0)) = true) : wantIn x = 0 := by unfold wantIn; rw [h]; rfl
theorem wantIn_f {x : Pkt} (h : ((x.pi == 0) && (x.hi == 0)) = false) : wantIn x = partIn (curPart x) x.hi := by unfold wantIn; rw [h]; rfl
theorem valid_has {x : Pkt} (h : validPkt x = true) : hasHop x = true := by
 rw [validPkt_eq] at h; simp only [Bool.and_eq_true] at h; exact h.1.1.1.2
/-- The block of the current packet: its cells, and what its handles own where the check passed. -/
def CurSt (lo g : Nat) (z : Pkt) (c : Int) (w : World) : Prop :=
 ∃ (o0 : Option Addr) (n0 c0 : Nat) (o1 : Option Addr) (n1 c1 : Nat) (S : Nat → Prop), w.heap[g]? = some (.cells #[.int .i64 z.kind, .int .i64 z.src, .int .i64 z.dst, .slice o0 n0 c0, .int .i64 z.pi, .int .i64 z.hi, .int .i64 z.beta, .int .i64 z.rid, .int .i64 z.seq, .slice o1 n1 c1] 28) ∧
  (c = 0 → Pkt.own S w (.slice o0 n0 c0) (.slice o1 n1 c1) z) ∧ ∀ b, S b → lo ≤ b ∧ b < w.heap.size ∧ b ≠ g
end
section
open Go.ChangeShapes Go.WideShapes Go.ChangeAt Go.RowKit Go.Deep
theorem fw_adv_pay (x : Pkt) : (advance x).pay = x.pay := by unfold advance; split; rfl; split <;> rfl
theorem fw_ver_pay (t : Topo) (x : Pkt) : (verCur t x).pay = x.pay := by unfold verCur; split <;> rfl
theorem fw_chkAll (t : Topo) (now : Int) : ∀ (f : Nat) (x : Pkt), (chkAll t now f x).2.path = x.path ∧ (chkAll t now f x).2.pay = x.pay
  | 0, x => ⟨verCur_path t x, fw_ver_pay t x⟩
  | f + 1, x => by
    unfold chkAll
    split
    · have h := fw_chkAll t now f (advance (verCur t x))
      rw [h.1, h.2, adv_path, fw_adv_pay]; exact ⟨verCur_path t x, fw_ver_pay t x⟩
    · exact ⟨verCur_path t x, fw_ver_pay t x⟩
theorem fw_pp (t : Topo) (r now dead inn : Int) (x : Pkt) : (forward t r now dead inn x).pkt.path = x.path ∧ (forward t r now dead inn x).pkt.pay = x.pay := by
  have h := fw_chkAll t now x.path.parts.length x
  unfold forward
  simp only
  repeat' split
  all_goals first | exact ⟨rfl, rfl⟩ | exact h | exact ⟨(adv_path _).trans h.1, (fw_adv_pay _).trans h.2⟩
end
end Go.Proofs.YtikbeiafobnblaaGreat
