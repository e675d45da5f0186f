/- Contracts of the interfaces that paths use and of what revocations affect, program and reference. No condition but the bounds that each theorem names. -/
import Derived.Test.YtkolfiedakojoaaW22p
import Derived.Test.YtkolfiedakojoaaW31
import Derived.Test.YtkolfiedakojoaaW33
import Derived.Test.YtkolfiedakojoaaTyInt
namespace Go.Proofs.Ytkolfiedakojoaa
open Go.ChangeShapes Go.WideShapes Go.ChangeAt Go.RowKit Go.Deep

def hasI (l : List Int) (n : Int) : Bool := l.any (fun x => x == n)
theorem any_snoc {α : Type} (p : α → Bool) {l : List α} {k : Nat} (hk : k < l.length) : (l.take (k + 1)).any p = ((l.take k).any p || p l[k]) := by
  rw [List.take_succ_eq_append_getElem hk, List.any_append]; simp
theorem any_hit {α : Type} (p : α → Bool) {l : List α} {k : Nat} (hk : k < l.length) (h : p l[k] = true) : l.any p = true := List.any_eq_true.2 ⟨l[k], List.getElem_mem _, h⟩
def ifNum (a d : Int) : Int := wrap64 (wrap64 (8 * a) + d)
def stepIfs (s : Step) : List Int := (if s.ing != 0 then [ifNum s.asn s.ing] else []) ++ (if s.eg != 0 then [ifNum s.asn s.eg] else [])
def usedIfs (l : List Step) : List Int := l.flatMap stepIfs
theorem stepIfs_len (s : Step) : (stepIfs s).length ≤ 2 := by unfold stepIfs; split <;> split <;> simp
theorem usedIfs_snoc {l : List Step} {k : Nat} (hk : k < l.length) : usedIfs (l.take (k + 1)) = usedIfs (l.take k) ++ stepIfs l[k] := by
  unfold usedIfs; rw [List.take_succ_eq_append_getElem hk, List.flatMap_append]; simp
theorem usedIfs_len (l : List Step) : (usedIfs l).length ≤ 2 * l.length := by
  induction l with
  | nil => simp [usedIfs]
  | cons a l ih =>
    have := stepIfs_len a
    unfold usedIfs at *
    rw [List.flatMap_cons, List.length_append, List.length_cons]; omega
theorem stepIfs_11 {s : Step} (h1 : (s.ing != 0) = true) (h2 : (s.eg != 0) = true) : stepIfs s = [ifNum s.asn s.ing] ++ [ifNum s.asn s.eg] := by simp [stepIfs, h1, h2]
theorem stepIfs_10 {s : Step} (h1 : (s.ing != 0) = true) (h2 : (s.eg != 0) = false) : stepIfs s = [ifNum s.asn s.ing] := by simp [stepIfs, h1, h2]
theorem stepIfs_01 {s : Step} (h1 : (s.ing != 0) = false) (h2 : (s.eg != 0) = true) : stepIfs s = [ifNum s.asn s.eg] := by simp [stepIfs, h1, h2]
theorem stepIfs_00 {s : Step} (h1 : (s.ing != 0) = false) (h2 : (s.eg != 0) = false) : stepIfs s = [] := by simp [stepIfs, h1, h2]
def affects (p : Pth) (x : Revc) : Bool := validRev x && hasI (usedIfs (pathSteps p.parts)) (ifNum x.asn x.iface)
def revoked (l : List Revc) (p : Pth) (now : Int) : Bool := (activeRevs now l).any (affects p)

set_option maxHeartbeats 400000 in
theorem i_hasInt (l : List Int) (v : Value) (n : Int) (w : World) (hv : RdS Rep.int w v l) :
    Calls Try.prog 143 #[v, .int .i64 n] w fun e w' => e = .returned (.bool (hasI l n)) ∧ w = w' := by
  obtain ⟨o, cap, rfl, hsm⟩ := hv.shape
  go_enter Try.func143, Try.ntmps143
  go_wp2
  go_loop [9] (fun i => ∃ k : Nat, k ≤ l.length ∧ i = .int .i64 k ∧ hasI (l.take k) n = false) (fun i => l.length - (intOf i).toNat)
  case atStart => exact ⟨0, Nat.zero_le _, rfl, rfl⟩
  case round =>
    obtain ⟨k, hk, rfl, hno⟩ := hrel
    have HN := Lib.hid hno; clear hno
    by_cases hlt : k < l.length
    · obtain ⟨b, off, rfl, hc⟩ := ints_at hv k hlt
      cases he : (l[k] == n)
      · go_wp2
        go_round
        case rel => exact ⟨k + 1, by omega, by go_num, by unfold hasI; rw [any_snoc _ hlt, he, Bool.or_false]; exact HN.out⟩
        case measure => simp [intOf]; omega
      · have hy : hasI l n = true := any_hit _ hlt he
        have HY := Lib.hid hy; clear hy
        go_wp2
        go_ret
        exact ⟨ret_bool HY.out.symm, rfl⟩
    · have hy : hasI l n = false := by rw [← HN.out, List.take_of_length_le (by omega)]
      have HY := Lib.hid hy; clear hy
      go_wp2
      go_ret
      exact ⟨ret_bool HY.out.symm, rfl⟩

set_option maxHeartbeats 400000 in
theorem s_l9Has (l : List Int) (v : Value) (n : Int) (w : World) (hv : RdS Rep.int w v l) :
    Calls Try.prog 159 #[v, .int .i64 n] w fun e w' => e = .returned (.bool (hasI l n)) ∧ w = w' := by
  obtain ⟨o, cap, rfl, hsm⟩ := hv.shape
  go_enter Try.func159, Try.ntmps159
  go_wp2
  go_loop [5] (fun i => ∃ k : Nat, k ≤ l.length ∧ i = .int .i64 k ∧ hasI (l.take k) n = false) (fun i => l.length - (intOf i).toNat)
  case atStart => exact ⟨0, Nat.zero_le _, rfl, rfl⟩
  case round =>
    obtain ⟨k, hk, rfl, hno⟩ := hrel
    have HN := Lib.hid hno; clear hno
    by_cases hlt : k < l.length
    · obtain ⟨b, off, rfl, hc⟩ := ints_at hv k hlt
      cases he : (l[k] == n)
      · go_wp2
        go_round
        case rel => exact ⟨k + 1, by omega, by go_num, by unfold hasI; rw [any_snoc _ hlt, he, Bool.or_false]; exact HN.out⟩
        case measure => simp [intOf]; omega
      · have hy : hasI l n = true := any_hit _ hlt he
        have HY := Lib.hid hy; clear hy
        go_wp2
        go_ret
        exact ⟨ret_bool HY.out.symm, rfl⟩
    · have hy : hasI l n = false := by rw [← HN.out, List.take_of_length_le (by omega)]
      have HY := Lib.hid hy; clear hy
      go_wp2
      go_ret
      exact ⟨ret_bool HY.out.symm, rfl⟩

set_option maxHeartbeats 4000000 in
theorem i_numbered (l : List Step) (v : Value) (w : World) (hv : RdS Step.rep w v l) (hl : l.length ≤ 1048576) :
    Calls Try.prog 107 #[v] w fun e w' => ∃ v', e = .returned v' ∧ OwnF intF 1 w.heap.size 3 w' v' (usedIfs l) ∧ Ext w w' := by
  obtain ⟨o, cap, rfl, hsm⟩ := hv.shape
  obtain ⟨E⟩ := elemInt
  go_enter Try.func107, Try.ntmps107
  go_wp2
  go_loopg [3, 8] l.length (fun gk out i wr => ∃ k : Nat, gk + k = l.length ∧ i = .int .i64 k ∧ OwnF intF 1 w.heap.size 3 wr out (usedIfs (l.take k)) ∧ Ext w wr)
  case atStart => exact ⟨0, rfl, rfl, OwnF.nil _ _ _ _ _, Ext.refl _⟩
  case round =>
    obtain ⟨k, hgk, rfl, hown, hx⟩ := hrel
    have hln : (usedIfs (l.take k)).length ≤ 2 * k := Nat.le_trans (usedIfs_len _) (by have := List.length_take_le k l; omega)
    by_cases hlt : k < l.length
    · obtain ⟨b, off, rfl, hc⟩ := Step.at (hv.ext hx) k hlt
      have hg' : gk - 1 + (k + 1) = l.length ∧ gk - 1 < gk := by omega
      have HG := Lib.hid hg'; clear hg' hgk
      have HS := Lib.hid (usedIfs_snoc hlt)
      generalize usedIfs (l.take k) = out at *
      have hB := blk_new wr (.cells #[.int .i64 l[k].asn, .int .i64 l[k].ing, .int .i64 l[k].eg] 55)
      have HB := Lib.hid hB; clear hB
      have hxa : Ext w (wr.alloc (.cells #[.int .i64 l[k].asn, .int .i64 l[k].ing, .int .i64 l[k].eg] 55)) := hx.alloc _
      have hoa := hown.ext ((Ext.refl wr).alloc (.cells #[.int .i64 l[k].asn, .int .i64 l[k].ing, .int .i64 l[k].eg] 55))
      cases h1 : (l[k].ing != 0)
      · cases h2 : (l[k].eg != 0)
        · have HE := Lib.hid (HS.out.trans (by rw [stepIfs_00 h1 h2, List.append_nil]))
          go_wp2_with fail
          go_roundg (gk - 1)
          case measure => exact HG.out.2
          case rel => exact ⟨k + 1, HG.out.1, by go_num, by rw [HE.out]; exact hoa, hxa⟩
        · have HE := Lib.hid (HS.out.trans (by rw [stepIfs_01 h1 h2]))
          go_wp2_with (at_builtin; refine app1 E intFlen intOne rfl _ _ rfl (ifNum l[k].asn l[k].eg) rfl (OwnF.ext hown (((Ext.refl _).alloc _).alloc _)) rfl (by exact blk_list (intF (ifNum l[k].asn l[k].eg)) (blk_new2 wr _ _)) (by omega) (by unfold maxLen; omega) (by exact (hxa.alloc _).size) ?_)
          intro v1 w1 ho1 hg1
          have hx1 := Ext.app (hxa.alloc _) hg1 hown (Nat.le_refl _)
          clear hg1
          rw [← HE.out] at ho1
          go_wp2_with fail
          go_roundg (gk - 1)
          case measure => exact HG.out.2
          case rel => exact ⟨k + 1, HG.out.1, by go_num, ho1, hx1⟩

      · cases h2 : (l[k].eg != 0)
        · have HE := Lib.hid (HS.out.trans (by rw [stepIfs_10 h1 h2]))
          go_wp2_with (at_builtin; refine app1 E intFlen intOne rfl _ _ rfl (ifNum l[k].asn l[k].ing) rfl (OwnF.ext hown (((Ext.refl _).alloc _).alloc _)) rfl (by exact blk_list (intF (ifNum l[k].asn l[k].ing)) (blk_new2 wr _ _)) (by omega) (by unfold maxLen; omega) (by exact (hxa.alloc _).size) ?_)
          intro v1 w1 ho1 hg1
          have hx1 := Ext.app (hxa.alloc _) hg1 hown (Nat.le_refl _)
          have hs1 := blk3 (own_ne (OwnF.ext hown (((Ext.refl _).alloc _).alloc _)) (Ext.block ((Ext.refl _).alloc _) HB.out) (by decide) hg1)
          clear hg1
          rw [← HE.out] at ho1
          go_wp2_with fail
          go_roundg (gk - 1)
          case measure => exact HG.out.2
          case rel => exact ⟨k + 1, HG.out.1, by go_num, ho1, hx1⟩

        · have HE := Lib.hid (show usedIfs (l.take (k + 1)) = out ++ [ifNum l[k].asn l[k].ing, ifNum l[k].asn l[k].eg] from HS.out.trans (by rw [stepIfs_11 h1 h2]; rfl))
          go_wp2_with (at_builtin; refine app1 E intFlen intOne rfl _ _ rfl (ifNum l[k].asn l[k].ing) rfl (OwnF.ext hown (((Ext.refl _).alloc _).alloc _)) rfl (by exact blk_list (intF (ifNum l[k].asn l[k].ing)) (blk_new2 wr _ _)) (by omega) (by unfold maxLen; omega) (by exact (hxa.alloc _).size) ?_)
          intro v1 w1 ho1 hg1
          have hx1 := Ext.app (hxa.alloc _) hg1 hown (Nat.le_refl _)
          have hs1 := blk3 (own_ne (OwnF.ext hown (((Ext.refl _).alloc _).alloc _)) (Ext.block ((Ext.refl _).alloc _) HB.out) (by decide) hg1)
          clear hg1
          have hl1 : (out ++ [ifNum l[k].asn l[k].ing]).length = out.length + 1 := by simp
          go_wp2_with (at_builtin; refine app1 E intFlen intOne rfl _ _ rfl (ifNum l[k].asn l[k].eg) rfl (OwnF.ext ho1 ((Ext.refl _).alloc _)) rfl (by exact blk_list (intF (ifNum l[k].asn l[k].eg)) (blk_new w1 _)) (by omega) (by unfold maxLen; omega) (by exact (hx1.alloc _).size) ?_)
          intro v2 w2 ho2 hg2
          have hx2 := Ext.app (hx1.alloc _) hg2 ho1 (Nat.le_refl _)
          clear hg2
          rw [← HE.out] at ho2
          go_wp2_with fail
          go_roundg (gk - 1)
          case measure => exact HG.out.2
          case rel => exact ⟨k + 1, HG.out.1, by go_num, ho2, hx2⟩

    · rw [List.take_of_length_le (by omega)] at hown
      go_wp2
      go_ret
      exact ⟨_, rfl, hown, hx⟩
set_option maxHeartbeats 400000 in
theorem i_InterfacesUsed (x : Pth) (v : Value) (w : World) (r : RdS Part.rep w v x.parts) (hl : x.size ≤ 1048576) :
    Calls Try.prog 34 #[.agg #[v]] w fun e w' => ∃ v', e = .returned v' ∧ OwnF intF 1 w.heap.size 3 w' v' (usedIfs (pathSteps x.parts)) ∧ Ext w w' := by
  have hx0 : Ext w (w.alloc (.cells #[v] 27)) := (Ext.refl _).alloc _
  have hps := pathSteps_len x.parts
  go_enter Try.func34, Try.ntmps34
  go_wp2_with fail
  refine (i_PathSteps x _ _ (r.ext hx0) hl).mono ?_
  rintro e w1 ⟨v1, rfl, o1, h1⟩
  have hx1 := hx0.trans h1
  go_wp2_with fail
  refine (i_numbered _ _ _ (OwnF.rd (hf := Step.flen) o1) (by unfold Pth.size at hl; omega)).mono ?_
  rintro e w2 ⟨v2, rfl, o2, h2⟩
  go_wp2_with fail
  go_ret
  exact ⟨_, rfl, o2.mono hx1.size, hx1.trans h2⟩




theorem activeRevs_len (now : Int) (l : List Revc) : (activeRevs now l).length ≤ l.length := List.length_filter_le _ _



end Go.Proofs.Ytkolfiedakojoaa
