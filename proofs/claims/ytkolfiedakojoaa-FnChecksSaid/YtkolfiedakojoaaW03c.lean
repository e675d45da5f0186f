/- Contracts of chains of residues, of comparing rows of numbers, and of keys, program and reference. No condition but the bounds that each theorem names. -/
import Derived.Test.YtkolfiedakojoaaPlainM
import Derived.Test.YtkolfiedakojoaaTyInt
import Derived.Test.YtkolfiedakojoaaW10v
import Derived.Deep.LoopGhost
namespace Go.Proofs.Ytkolfiedakojoaa
open Go.ChangeShapes Go.WideShapes Go.ChangeAt Go.RowKit Go.Deep

theorem sameExt {P : Program} {fn : FuncId} {args : Array Value} {w : World} {u : Ending} (h : Calls P fn args w fun e w' => e = u ∧ w = w') : Calls P fn args w fun e w' => e = u ∧ Ext w w' :=
  h.mono fun _ _ h => ⟨h.1, h.2 ▸ Ext.refl _⟩

set_option maxRecDepth 100000 in
set_option maxHeartbeats 1000000 in
theorem i_ChainAdd (b : Int) (l : List Int) (v : Value) (w : World) (hv : RdS Rep.int w v l) :
    Calls Try.prog 118 #[.int .i64 b, v] w fun e w' => e = .returned (.int .i64 (chainAdd b l)) ∧ w = w' := by
  obtain ⟨o, cap, rfl, hsm⟩ := hv.shape
  go_enter Try.func118, Try.ntmps118
  go_wp2
  go_loopg [0, 9] l.length (fun gk bb i wr => ∃ (k : Nat), gk + k = l.length ∧ i = .int .i64 k ∧ bb = .int .i64 (chainAdd b (l.take k)) ∧ w = wr)
  case atStart => exact ⟨0, rfl, rfl, rfl, rfl⟩
  case round =>
    obtain ⟨k, hgk, rfl, rfl, rfl⟩ := hrel
    by_cases hlt : k < l.length
    · obtain ⟨b1, off, rfl, hcell⟩ := ints_at hv k hlt
      have hg0 : gk - 1 + (k + 1) = l.length ∧ gk - 1 < gk := by omega
      have HG := Lib.hid hg0; clear hg0 hgk
      have HN := Lib.hid (chainAdd_snoc (b := b) hlt)
      go_wp2_with fail
      refine (i_AddMod _ _ _).mono ?_
      rintro e w1 ⟨rfl, rfl⟩
      go_wp2_with fail
      go_roundg (gk - 1)
      case measure => exact HG.out.2
      case rel => exact ⟨k + 1, HG.out.1, by go_num, by rw [HN.out], rfl⟩
    · have HE := Lib.hid (show chainAdd b (l.take k) = chainAdd b l by rw [List.take_of_length_le (by omega)])
      go_wp2_with fail
      go_ret
      exact ⟨ret_int HE.out, rfl⟩


set_option maxRecDepth 100000 in
set_option maxHeartbeats 1000000 in
theorem s_ChainAdd (b : Int) (l : List Int) (v : Value) (w : World) (hv : RdS Rep.int w v l) :
    Calls Try.prog 183 #[.int .i64 b, v] w fun e w' => e = .returned (.int .i64 (chainAdd b l)) ∧ w = w' := by
  obtain ⟨o, cap, rfl, hsm⟩ := hv.shape
  go_enter Try.func183, Try.ntmps183
  go_wp2
  go_loopg [0, 5] l.length (fun gk bb i wr => ∃ (k : Nat), gk + k = l.length ∧ i = .int .i64 k ∧ bb = .int .i64 (chainAdd b (l.take k)) ∧ w = wr)
  case atStart => exact ⟨0, rfl, rfl, rfl, rfl⟩
  case round =>
    obtain ⟨k, hgk, rfl, rfl, rfl⟩ := hrel
    by_cases hlt : k < l.length
    · obtain ⟨b1, off, rfl, hcell⟩ := ints_at hv k hlt
      have hg0 : gk - 1 + (k + 1) = l.length ∧ gk - 1 < gk := by omega
      have HG := Lib.hid hg0; clear hg0 hgk
      have HN := Lib.hid (chainAdd_snoc (b := b) hlt)
      go_wp2_with fail
      refine (s_AddMod _ _ _).mono ?_
      rintro e w1 ⟨rfl, rfl⟩
      go_wp2_with fail
      go_roundg (gk - 1)
      case measure => exact HG.out.2
      case rel => exact ⟨k + 1, HG.out.1, by go_num, by rw [HN.out], rfl⟩
    · have HE := Lib.hid (show chainAdd b (l.take k) = chainAdd b l by rw [List.take_of_length_le (by omega)])
      go_wp2_with fail
      go_ret
      exact ⟨ret_int HE.out, rfl⟩



set_option maxRecDepth 100000 in
set_option maxHeartbeats 1000000 in
theorem l_sameInts (a : List Int) (va : Value) (b : List Int) (vb : Value) (w : World) (ha : RdS Rep.int w va a) (hb : RdS Rep.int w vb b) :
    Calls Try.prog 24 #[va, vb] w fun e w' => e = .returned (.bool (decide (a = b))) ∧ Ext w w' := by
  obtain ⟨oa, ca, rfl, hsa⟩ := ha.shape
  obtain ⟨ob, cb, rfl, hsb⟩ := hb.shape
  by_cases hne : a.length = b.length
  · have Hne := Lib.hid hne
    have t1 : ((a.length : Int) != (b.length : Int)) = false := by simp [hne]
    clear hne
    go_enter Try.func24, Try.ntmps24
    go_wp2
    go_loopg [5] a.length (fun gk i wr => ∃ (k : Nat), gk + k = a.length ∧ i = .int .i64 k ∧ Hid (a.take k = b.take k) ∧ Ext w wr)
    case atStart => exact ⟨0, rfl, rfl, Lib.hid rfl, Ext.refl _⟩
    case round =>
      obtain ⟨k, hgk, rfl, Htk, hx⟩ := hrel
      by_cases hlt : k < a.length
      · have hlb : k < b.length := by rw [← Hne.out]; exact hlt
        have hg0 : gk - 1 + (k + 1) = a.length ∧ gk - 1 < gk := by omega
        have HG := Lib.hid hg0; clear hg0 hgk
        obtain ⟨b1, off1, rfl, hc1⟩ := ints_at (ha.ext hx) k hlt
        obtain ⟨b2, off2, rfl, hc2⟩ := ints_at (hb.ext hx) k hlb
        go_wp2_with fail
        refine wp_region_ext (by kernel_rfl) (by kernel_rfl) ?_
        have q0 := ExtW.cell hc1
        have q1 := ExtW.cell hc2
        repeat (first | go_big_quiet_step (fail) | quiet_step (fail))
        refine wpQuiet_nil ?_
        intro w1 hw1
        have hz1 := ExtW.out hw1
        clear hw1 q0 q1
        by_cases he : a[k] = b[k]
        · have he2 : (a[k] != b[k]) = false := by simp [he]
          have HT := Lib.hid (take_snoc2 Htk.out hlt hlb he)
          clear he
          go_wp2_with fail
          go_roundg (gk - 1)
          case measure => exact HG.out.2
          case rel => exact ⟨k + 1, HG.out.1, by go_num, HT, hx.trans hz1⟩
        · have he2 : (a[k] != b[k]) = true := by simp [he]
          have HF : Hid (decide (a = b) = false) := Lib.hid (decide_eq_false (by rintro rfl; exact he rfl))
          clear he
          go_wp2_with fail
          go_ret
          exact ⟨ret_bool HF.out.symm, hx.trans hz1⟩
      · have hab : decide (a = b) = true := by
          have := Htk.out
          rw [List.take_of_length_le (by omega), List.take_of_length_le (by rw [← Hne.out]; omega)] at this
          simp [this]
        have Hab := Lib.hid hab; clear hab
        go_wp2_with fail
        go_ret
        exact ⟨ret_bool Hab.out.symm, hx⟩
  · have t1 : ((a.length : Int) != (b.length : Int)) = true := by simp [bne_iff_ne]; omega
    have hab : decide (a = b) = false := by
      rw [decide_eq_false_iff_not]; rintro rfl; exact hne rfl
    have Hab := Lib.hid hab; clear hab
    clear hne
    go_enter Try.func24, Try.ntmps24
    go_wp2
    go_ret
    exact ⟨ret_bool Hab.out.symm, Ext.refl _⟩



end Go.Proofs.Ytkolfiedakojoaa
