/- What these laws need: FnExactFormatTrace: Contracts of links, interfaces and failed interfaces of a topology, program and reference. The walk of a packet, as a plain function. Texts of numbers, ASes, steps and verdicts, as rows of bytes. The names of verdicts, program and reference. -/
import Derived.Laws.BytesArg
import Derived.Test.YtcpfmhgfaliemaaKN7
import Derived.Test.YtcpfmhgfaliemaaKN9
namespace Go.Proofs.Ytcpfmhgfaliemaa
section
open Go.ChangeShapes Go.WideShapes Go.ChangeAt Go.RowKit Go.Deep
def orI (a b : Int) : Int := IntKind.wrap .i64 ((BitVec.ofInt 64 a ||| BitVec.ofInt 64 b).toNat : Int)
def addEl (s i : Int) : Int := if inR s 0 65535 && inR i 0 15 then orI s (2 ^ i.toNat) else s
def failStep (t : Topo) (dead : List Int) (r : Int) (s x : Int) : Int := if hasI dead (linkIdx t.links r x) then addEl s x else s
def failedIfs (t : Topo) (dead : List Int) (r : Int) : Int := (topoIfs t.links r).foldl (failStep t dead r) 0
end
section
open Go.RowKit
def trav (t : Topo) (now : Int) (dead : List Int) : Nat → Int → Int → Pkt → List Step → Trc
  | 0, _, _, x, l => ⟨0, l, x⟩
  | f + 1, r, inn, x, l =>
    if (forward t r now (failedIfs t dead r) inn x).code = 0 then trav t now dead f (remEnd t r (forward t r now (failedIfs t dead r) inn x).eg).1 (remEnd t r (forward t r now (failedIfs t dead r) inn x).eg).2 (forward t r now (failedIfs t dead r) inn x).pkt (l ++ [⟨r, inn, (forward t r now (failedIfs t dead r) inn x).eg⟩])
    else if (forward t r now (failedIfs t dead r) inn x).code = 1 then ⟨1, l ++ [⟨r, inn, (forward t r now (failedIfs t dead r) inn x).eg⟩], (forward t r now (failedIfs t dead r) inn x).pkt⟩
    else ⟨(forward t r now (failedIfs t dead r) inn x).code, l, (forward t r now (failedIfs t dead r) inn x).pkt⟩
def traverse (t : Topo) (now : Int) (dead : List Int) (x : Pkt) : Trc := trav t now dead 30 x.src 0 x []
theorem trav_go {t : Topo} {now : Int} {dead : List Int} {f : Nat} {r inn eg : Int} {x z : Pkt} {l : List Step} (hv : forward t r now (failedIfs t dead r) inn x = ⟨0, eg, z⟩) :
    trav t now dead (f + 1) r inn x l = trav t now dead f (remEnd t r eg).1 (remEnd t r eg).2 z (l ++ [⟨r, inn, eg⟩]) := by simp [trav, hv]
theorem trav_del {t : Topo} {now : Int} {dead : List Int} {f : Nat} {r inn eg : Int} {x z : Pkt} {l : List Step} (hv : forward t r now (failedIfs t dead r) inn x = ⟨1, eg, z⟩) :
    trav t now dead (f + 1) r inn x l = ⟨1, l ++ [⟨r, inn, eg⟩], z⟩ := by simp [trav, hv]
theorem trav_bad {t : Topo} {now : Int} {dead : List Int} {f : Nat} {r inn cd eg : Int} {x z : Pkt} {l : List Step} (hv : forward t r now (failedIfs t dead r) inn x = ⟨cd, eg, z⟩) (h0 : ¬ cd = 0) (h1 : ¬ cd = 1) :
    trav t now dead (f + 1) r inn x l = ⟨cd, l, z⟩ := by simp [trav, hv, h0, h1]
end
section
open Go.RowKit
def digOf (n : Int) : Int := 48 + (if n.tmod 10 < 0 then -(n.tmod 10) else n.tmod 10)
/-- The digits of n ahead of acc: at least one. -/
def digs : Nat → Int → List Int → List Int
  | 0, _, acc => acc
  | f + 1, n, acc => if n.tdiv 10 = 0 then digOf n :: acc else digs f (n.tdiv 10) (digOf n :: acc)
def fmtB (n : Int) : List Int := if n < 0 then 45 :: digs 20 n [] else digs 20 n []
theorem tmod10 (n : Int) : -9 ≤ n.tmod 10 ∧ n.tmod 10 ≤ 9 := by
  have h1 := Int.tmod_lt_of_pos n (show (0 : Int) < 10 by decide)
  have h2 := Int.tmod_lt_of_pos (-n) (show (0 : Int) < 10 by decide)
  rw [Int.neg_tmod] at h2
  omega
theorem digOf_bd (n : Int) : 48 ≤ digOf n ∧ digOf n ≤ 57 := by
  have := tmod10 n
  unfold digOf; split <;> omega
theorem tdiv10_bd {n : Int} {f : Nat} (h1 : -(10 : Int) ^ (f + 1) < n) (h2 : n < (10 : Int) ^ (f + 1)) : -(10 : Int) ^ f < n.tdiv 10 ∧ n.tdiv 10 < (10 : Int) ^ f := by
  have e : n = n.tmod 10 + 10 * n.tdiv 10 := (Int.tmod_add_mul_tdiv n 10).symm
  have h := tmod10 n
  rw [Int.pow_succ] at h1 h2
  generalize (10 : Int) ^ f = p at *
  constructor
  · have hs : n.tdiv 10 * 10 = n - n.tmod 10 := by omega
    rcases Int.lt_or_le n 0 with hn | hn
    · have : n.tmod 10 ≤ 0 := by
        have := Int.tmod_nonneg 10 (show (0 : Int) ≤ -n by omega)
        rw [Int.neg_tmod] at this; omega
      omega
    · have := Int.tdiv_nonneg hn (show (0 : Int) ≤ 10 by decide)
      omega
  · rcases Int.lt_or_le n 0 with hn | hn
    · have : n.tdiv 10 ≤ 0 := by
        have h9 := Int.tdiv_nonneg (show (0 : Int) ≤ -n by omega) (show (0 : Int) ≤ 10 by decide)
        rw [Int.neg_tdiv] at h9; omega
      omega
    · have : 0 ≤ n.tmod 10 := Int.tmod_nonneg 10 hn
      omega
theorem digs_len : ∀ (f : Nat) (n : Int) (acc : List Int), (digs f n acc).length ≤ f + acc.length
  | 0, _, _ => by simp [digs]
  | f + 1, n, acc => by
    unfold digs
    split
    · simp; omega
    · have := digs_len f (n.tdiv 10) (digOf n :: acc); simp at this ⊢; omega
theorem fmtB_len (n : Int) : (fmtB n).length ≤ 21 := by
  have := digs_len 20 n []
  unfold fmtB; split <;> simp at this ⊢ <;> omega
def asB (t : Topo) (r : Int) : List Int := if isAs t r then fmtB (asAt t r).isd ++ [45] ++ fmtB r else [63]
def stepB (t : Topo) (s : Step) : List Int := fmtB s.ing ++ [62] ++ asB t s.asn ++ [62] ++ fmtB s.eg
def verdictB (n : Int) : List Int :=
  if n = 0 then [102, 111, 114, 119, 97, 114, 100] else if n = 1 then [100, 101, 108, 105, 118, 101, 114] else if n = 2 then [109, 97, 108, 102, 111, 114, 109, 101, 100]
  else if n = 3 then [105, 110, 103, 114, 101, 115, 115] else if n = 4 then [109, 97, 99] else if n = 5 then [101, 120, 112, 105, 114, 101, 100] else if n = 6 then [116, 114, 97, 110, 115, 105, 116]
  else if n = 7 then [108, 105, 110, 107, 100, 111, 119, 110] else []
def stepsB (t : Topo) (l : List Step) : List Int := l.flatMap fun s => 32 :: stepB t s
def traceB (t : Topo) (w : Trc) : List Int := verdictB w.code ++ stepsB t w.steps
theorem strOf_app (a b : List Int) : strOfNums (a ++ b) = strOfNums a ++ strOfNums b := by
  unfold strOfNums
  apply ByteArray.ext
  simp
end
section
open Go.ChangeShapes Go.WideShapes Go.ChangeAt Go.RowKit Go.Deep
theorem ret_str {a b : ByteArray} (h : a = b) : Ending.returned (.string a) = .returned (.string b) := by rw [h]
theorem verdictB_no {n : Int} (h : inR n 0 7 = false) : verdictB n = [] := by
 have h1 : ¬ (0 ≤ n ∧ n ≤ 7) := fun h2 => by rw [inR_true.2 h2] at h; cases h
 unfold verdictB
 rw [if_neg (by omega), if_neg (by omega), if_neg (by omega), if_neg (by omega), if_neg (by omega), if_neg (by omega), if_neg (by omega), if_neg (by omega)]
set_option maxRecDepth 100000 in
set_option maxHeartbeats 4000000 in
theorem i_VerdictName (n : Int) (w : World) :
  Calls Try.prog 37 #[.int .i64 n] w fun e w' => e = .returned (.string (strOfNums (verdictB n))) ∧ Ext w w' := by
 go_enter Try.func37, Try.ntmps37
 go_wp2_with fail
 refine (i_InRange _ _ _ _).mono ?_
 rintro e _ ⟨rfl, rfl⟩
 cases h : inR n 0 7
 ·
  have HV := Lib.hid (verdictB_no h)
  go_wp2_with fail
  go_ret
  exact ⟨ret_str (by rw [HV.out]; rfl), (Ext.refl _)⟩
 ·
  have h2 := inR_true.1 h
  have h3 : n = 0 ∨ n = 1 ∨ n = 2 ∨ n = 3 ∨ n = 4 ∨ n = 5 ∨ n = 6 ∨ n = 7 := by omega
  clear h h2
  rcases h3 with rfl | rfl | rfl | rfl | rfl | rfl | rfl | rfl
  ·
   have ix : ∀ w : World, (Instr.index 129 (.agg #[.string ⟨#[102, 111, 114, 119, 97, 114, 100]⟩, .string ⟨#[100, 101, 108, 105, 118, 101, 114]⟩, .string ⟨#[109, 97, 108, 102, 111, 114, 109, 101, 100]⟩, .string ⟨#[105, 110, 103, 114, 101, 115, 115]⟩, .string ⟨#[109, 97, 99]⟩, .string ⟨#[101, 120, 112, 105, 114, 101, 100]⟩, .string ⟨#[116, 114, 97, 110, 115, 105, 116]⟩, .string ⟨#[108, 105, 110, 107, 100, 111, 119, 110]⟩]) (.int .i64 0)).run Try.prog w = .ok (.string ⟨#[102, 111, 114, 119, 97, 114, 100]⟩) w := fun _ => by kernel_rfl
   go_wp2_with fail
   go_ret
   exact ⟨ret_str (by rfl), (Ext.refl _)⟩
  ·
   have ix : ∀ w : World, (Instr.index 129 (.agg #[.string ⟨#[102, 111, 114, 119, 97, 114, 100]⟩, .string ⟨#[100, 101, 108, 105, 118, 101, 114]⟩, .string ⟨#[109, 97, 108, 102, 111, 114, 109, 101, 100]⟩, .string ⟨#[105, 110, 103, 114, 101, 115, 115]⟩, .string ⟨#[109, 97, 99]⟩, .string ⟨#[101, 120, 112, 105, 114, 101, 100]⟩, .string ⟨#[116, 114, 97, 110, 115, 105, 116]⟩, .string ⟨#[108, 105, 110, 107, 100, 111, 119, 110]⟩]) (.int .i64 1)).run Try.prog w = .ok (.string ⟨#[100, 101, 108, 105, 118, 101, 114]⟩) w := fun _ => by kernel_rfl
   go_wp2_with fail
   go_ret
   exact ⟨ret_str (by rfl), (Ext.refl _)⟩
  ·
   have ix : ∀ w : World, (Instr.index 129 (.agg #[.string ⟨#[102, 111, 114, 119, 97, 114, 100]⟩, .string ⟨#[100, 101, 108, 105, 118, 101, 114]⟩, .string ⟨#[109, 97, 108, 102, 111, 114, 109, 101, 100]⟩, .string ⟨#[105, 110, 103, 114, 101, 115, 115]⟩, .string ⟨#[109, 97, 99]⟩, .string ⟨#[101, 120, 112, 105, 114, 101, 100]⟩, .string ⟨#[116, 114, 97, 110, 115, 105, 116]⟩, .string ⟨#[108, 105, 110, 107, 100, 111, 119, 110]⟩]) (.int .i64 2)).run Try.prog w = .ok (.string ⟨#[109, 97, 108, 102, 111, 114, 109, 101, 100]⟩) w := fun _ => by kernel_rfl
   go_wp2_with fail
   go_ret
   exact ⟨ret_str (by rfl), (Ext.refl _)⟩
  ·
   have ix : ∀ w : World, (Instr.index 129 (.agg #[.string ⟨#[102, 111, 114, 119, 97, 114, 100]⟩, .string ⟨#[100, 101, 108, 105, 118, 101, 114]⟩, .string ⟨#[109, 97, 108, 102, 111, 114, 109, 101, 100]⟩, .string ⟨#[105, 110, 103, 114, 101, 115, 115]⟩, .string ⟨#[109, 97, 99]⟩, .string ⟨#[101, 120, 112, 105, 114, 101, 100]⟩, .string ⟨#[116, 114, 97, 110, 115, 105, 116]⟩, .string ⟨#[108, 105, 110, 107, 100, 111, 119, 110]⟩]) (.int .i64 3)).run Try.prog w = .ok (.string ⟨#[105, 110, 103, 114, 101, 115, 115]⟩) w := fun _ => by kernel_rfl
   go_wp2_with fail
   go_ret
   exact ⟨ret_str (by rfl), (Ext.refl _)⟩
  ·
   have ix : ∀ w : World, (Instr.index 129 (.agg #[.string ⟨#[102, 111, 114, 119, 97, 114, 100]⟩, .string ⟨#[100, 101, 108, 105, 118, 101, 114]⟩, .string ⟨#[109, 97, 108, 102, 111, 114, 109, 101, 100]⟩, .string ⟨#[105, 110, 103, 114, 101, 115, 115]⟩, .string ⟨#[109, 97, 99]⟩, .string ⟨#[101, 120, 112, 105, 114, 101, 100]⟩, .string ⟨#[116, 114, 97, 110, 115, 105, 116]⟩, .string ⟨#[108, 105, 110, 107, 100, 111, 119, 110]⟩]) (.int .i64 4)).run Try.prog w = .ok (.string ⟨#[109, 97, 99]⟩) w := fun _ => by kernel_rfl
   go_wp2_with fail
   go_ret
   exact ⟨ret_str (by rfl), (Ext.refl _)⟩
  ·
   have ix : ∀ w : World, (Instr.index 129 (.agg #[.string ⟨#[102, 111, 114, 119, 97, 114, 100]⟩, .string ⟨#[100, 101, 108, 105, 118, 101, 114]⟩, .string ⟨#[109, 97, 108, 102, 111, 114, 109, 101, 100]⟩, .string ⟨#[105, 110, 103, 114, 101, 115, 115]⟩, .string ⟨#[109, 97, 99]⟩, .string ⟨#[101, 120, 112, 105, 114, 101, 100]⟩, .string ⟨#[116, 114, 97, 110, 115, 105, 116]⟩, .string ⟨#[108, 105, 110, 107, 100, 111, 119, 110]⟩]) (.int .i64 5)).run Try.prog w = .ok (.string ⟨#[101, 120, 112, 105, 114, 101, 100]⟩) w := fun _ => by kernel_rfl
   go_wp2_with fail
   go_ret
   exact ⟨ret_str (by rfl), (Ext.refl _)⟩
  ·
   have ix : ∀ w : World, (Instr.index 129 (.agg #[.string ⟨#[102, 111, 114, 119, 97, 114, 100]⟩, .string ⟨#[100, 101, 108, 105, 118, 101, 114]⟩, .string ⟨#[109, 97, 108, 102, 111, 114, 109, 101, 100]⟩, .string ⟨#[105, 110, 103, 114, 101, 115, 115]⟩, .string ⟨#[109, 97, 99]⟩, .string ⟨#[101, 120, 112, 105, 114, 101, 100]⟩, .string ⟨#[116, 114, 97, 110, 115, 105, 116]⟩, .string ⟨#[108, 105, 110, 107, 100, 111, 119, 110]⟩]) (.int .i64 6)).run Try.prog w = .ok (.string ⟨#[116, 114, 97, 110, 115, 105, 116]⟩) w := fun _ => by kernel_rfl
   go_wp2_with fail
   go_ret
   exact ⟨ret_str (by rfl), (Ext.refl _)⟩
  ·
   have ix : ∀ w : World, (Instr.index 129 (.agg #[.string ⟨#[102, 111, 114, 119, 97, 114, 100]⟩, .string ⟨#[100, 101, 108, 105, 118, 101, 114]⟩, .string ⟨#[109, 97, 108, 102, 111, 114, 109, 101, 100]⟩, .string ⟨#[105, 110, 103, 114, 101, 115, 115]⟩, .string ⟨#[109, 97, 99]⟩, .string ⟨#[101, 120, 112, 105, 114, 101, 100]⟩, .string ⟨#[116, 114, 97, 110, 115, 105, 116]⟩, .string ⟨#[108, 105, 110, 107, 100, 111, 119, 110]⟩]) (.int .i64 7)).run Try.prog w = .ok (.string ⟨#[108, 105, 110, 107, 100, 111, 119, 110]⟩) w := fun _ => by kernel_rfl
   go_wp2_with fail
   go_ret
   exact ⟨ret_str (by rfl), (Ext.refl _)⟩
set_option maxRecDepth 100000 in
set_option maxHeartbeats 4000000 in
theorem s_VerdictName (n : Int) (w : World) :
  Calls Try.prog 29 #[.int .i64 n] w fun e w' => e = .returned (.string (strOfNums (verdictB n))) ∧ Ext w w' := by
 go_enter Try.func29, Try.ntmps29
 go_wp2_with fail
 refine (s_l1In _ _ _ _).mono ?_
 rintro e _ ⟨rfl, rfl⟩
 cases h : inR n 0 7
 ·
  have HV := Lib.hid (verdictB_no h)
  go_wp2_with fail
  go_ret
  exact ⟨ret_str (by rw [HV.out]; rfl), ((Ext.refl _).alloc _)⟩
 ·
  have h2 := inR_true.1 h
  have h3 : n = 0 ∨ n = 1 ∨ n = 2 ∨ n = 3 ∨ n = 4 ∨ n = 5 ∨ n = 6 ∨ n = 7 := by omega
  clear h h2
  rcases h3 with rfl | rfl | rfl | rfl | rfl | rfl | rfl | rfl
  ·
   go_wp2_with fail
   go_ret
   exact ⟨ret_str (by rfl), ((Ext.refl _).alloc _)⟩
  ·
   go_wp2_with fail
   go_ret
   exact ⟨ret_str (by rfl), ((Ext.refl _).alloc _)⟩
  ·
   go_wp2_with fail
   go_ret
   exact ⟨ret_str (by rfl), ((Ext.refl _).alloc _)⟩
  ·
   go_wp2_with fail
   go_ret
   exact ⟨ret_str (by rfl), ((Ext.refl _).alloc _)⟩
  ·
   go_wp2_with fail
   go_ret
   exact ⟨ret_str (by rfl), ((Ext.refl _).alloc _)⟩
  ·
   go_wp2_with fail
   go_ret
   exact ⟨ret_str (by rfl), ((Ext.refl _).alloc _)⟩
  ·
   go_wp2_with fail
   go_ret
   exact ⟨ret_str (by rfl), ((Ext.refl _).alloc _)⟩
  ·
   go_wp2_with fail
   go_ret
   exact ⟨ret_str (by rfl), ((Ext.refl _).alloc _)⟩
end
end Go.Proofs.Ytcpfmhgfaliemaa
