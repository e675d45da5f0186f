/- Contracts of texts of numbers, ASes, steps and verdicts, program and reference. No condition but the bounds that each theorem names. -/
import Derived.Deep.LoopGhost
import Derived.Deep.DeepCutAuto
import Derived.Laws.Concat
import Derived.Test.YtcpfmhgfaliemaaKN10
namespace Go.Proofs.Ytcpfmhgfaliemaa
open Go.ChangeShapes Go.WideShapes Go.ChangeAt Go.RowKit Go.Deep

/-- string(bytes): the row's cells as a text. -/
theorem conv_row {w : World} {o : Option Addr} {cap : Nat} {l : List Int} (h : RdS Rep.byte w (.slice o l.length cap) l) (hl : 0 < l.length) : (convert 30 9 (.slice o l.length cap)).run Try.prog w = .ok (.string (strOfNums l)) w := by
 obtain ⟨b, off, rfl, _⟩ := bytes_at h 0 hl
 refine run_convert_bytes_arg w _ 5 Try.underlying30 Try.underlying5 b off l.length cap l rfl (fun i hi => ?_) _ Try.underlying9
 obtain ⟨b2, off2, e, hc⟩ := bytes_at h i hi
 cases e
 rw [hc, List.getD_eq_getElem?_getD, List.getElem?_eq_getElem hi]
 rfl
theorem str45 (D : List Int) : ByteArray.mk #[45] ++ strOfNums D = strOfNums (45 :: D) := (strOf_app [45] D).symm
theorem str_mid (A B : List Int) : strOfNums A ++ ByteArray.mk #[45] ++ strOfNums B = strOfNums (A ++ [45] ++ B) := by rw [strOf_app, strOf_app]; rfl
theorem strOf_size (l : List Int) : (strOfNums l).size = l.length := by unfold strOfNums; simp [ByteArray.size]
theorem digs_stop {f : Nat} {m : Int} {l : List Int} (h : m.tdiv 10 = 0) : digs (f + 1) m l = digOf m :: l := by unfold digs; rw [if_pos h]
theorem digs_go {f : Nat} {m : Int} {l : List Int} (h : ¬ m.tdiv 10 = 0) : digs (f + 1) m l = digs f (m.tdiv 10) (digOf m :: l) := by rw [digs, if_neg h]
theorem i64_pow {n : Int} (h : I64 n) : -(10 : Int) ^ 20 < n ∧ n < (10 : Int) ^ 20 := by
 obtain ⟨h1, h2⟩ := h
 rw [show (10 : Int) ^ 20 = 100000000000000000000 by decide]; omega

set_option maxRecDepth 100000 in
set_option maxHeartbeats 3000000 in
theorem i_FormatInt (n : Int) (w : World) (hn : I64 n) :
  Calls Try.prog 76 #[.int .i64 n] w fun e w' => e = .returned (.string (strOfNums (fmtB n))) ∧ Ext w w' := by
 obtain ⟨E⟩ := elemByte
 have hp := i64_pow hn
 obtain ⟨sg, hsg⟩ : ∃ sg : Bool, decide (n < 0) = sg := ⟨_, rfl⟩
 have HSG := Lib.hid hsg
 have HF : Hid (fmtB n = if sg then 45 :: digs 20 n [] else digs 20 n []) := Lib.hid (by unfold fmtB; rw [← hsg]; simp)
 unfold I64 at hn
 go_enter Try.func76, Try.ntmps76
 go_wp2_with fail
 clear hsg
 go_loopg [0, 3] 20 (fun gk nn ds wr => ∃ (f : Nat) (m : Int) (l : List Int), gk = f ∧ 0 < f ∧ nn = .int .i64 m ∧ Hid (-(10 : Int) ^ f < m ∧ m < (10 : Int) ^ f) ∧ -9223372036854775808 ≤ m ∧ m ≤ 9223372036854775807 ∧ l.length + f = 20 ∧ OwnF byteF 1 w.heap.size 5 wr ds l ∧ Hid (digs f m l = digs 20 n []) ∧ Ext w wr)
 case atStart => exact ⟨20, n, [], rfl, by decide, rfl, Lib.hid hp, hn.1, hn.2, rfl, OwnF.nil _ _ _ _ _, Lib.hid rfl, Ext.refl _⟩
 case round =>
  clear hp hn
  obtain ⟨f, m, l, hgf, hf1, rfl, HP, hm0, hm1, hlf, hown, HG, hx⟩ := hrel
  have HGF := Lib.hid hgf; clear hgf
  obtain ⟨oo, co, rfl, _⟩ := (bytes_rep hown).shape
  have hlf2 : l.length ≤ 20 := by omega
  obtain ⟨f', hf'⟩ : ∃ f', f = f' + 1 := ⟨f - 1, by omega⟩
  have hlf3 : (digOf m :: l).length + f' = 20 := by rw [List.length_cons]; omega
  have HLF := Lib.hid hlf3; clear hlf hlf3
  have HF1 := Lib.hid hf'; clear hf' hf1
  have HPD := Lib.hid (tdiv10_bd (n := m) (f := f') (by rw [← HF1.out]; exact HP.out.1) (by rw [← HF1.out]; exact HP.out.2))
  have hdb := digOf_bd m
  have HDB := Lib.hid hdb
  obtain ⟨q0, q1⟩ := tmod10 m
  have hdv : -922337203685477581 ≤ m.tdiv 10 ∧ m.tdiv 10 ≤ 922337203685477581 := by
   have e : m = m.tmod 10 + 10 * m.tdiv 10 := (Int.tmod_add_mul_tdiv m 10).symm
   omega
  obtain ⟨hv0, hv1⟩ := hdv
  have HDG : Hid (digOf m = 48 + (if m.tmod 10 < 0 then -(m.tmod 10) else m.tmod 10)) := Lib.hid rfl
  clear hdb
  obtain ⟨wl, hwl⟩ : ∃ wl : World, wl = wr.alloc (.cells #[.int .u8 (digOf m)] 5) := ⟨_, rfl⟩
  have hol : OwnF byteF 1 wr.heap.size 5 (wr.alloc (.cells #[.int .u8 (digOf m)] 5)) (.slice (some ⟨wr.heap.size, 0, none⟩) 1 1) [digOf m] := OwnF.lit byteFlen wr.heap.size 5 wr [digOf m] (Nat.le_refl _) (by simp [maxLen])
  clear hwl wl
  have HOL := Lib.hid hol; clear hol
  by_cases hneg : m.tmod 10 < 0
  ·
   have HDN : Hid (digOf m = 48 + -(m.tmod 10)) := Lib.hid (by rw [HDG.out, if_pos hneg])
   go_wp2_with (at_builtin; rw [← HDN.out]; refine appS E byteFlen byteOne rfl _ _ rfl l rfl HOL.out rfl (RdS.ext (bytes_rep hown) ((Ext.refl _).alloc _)) (by simp; omega) (by simp [maxLen]; omega) (by simp) ?_)
   intro v' w' ho' hg'
   have hx' : Ext w w' := (hx.alloc (.cells #[.int .u8 (digOf m)] 5)).app hg' HOL.out hx.size
   replace ho' := ho'.mono (base' := w.heap.size) hx.size
   obtain ⟨D, hD⟩ : ∃ D, D = digOf m :: l := ⟨_, rfl⟩
   have hDl : D.length + f' = 20 := by rw [hD]; exact HLF.out
   have hD0 : 0 < D.length := by rw [hD]; simp
   rw [← hD] at ho'
   have HD := Lib.hid hD
   clear hD hg' hown HOL
   obtain ⟨o', c', rfl, _⟩ := (bytes_rep ho').shape
   by_cases htd : m.tdiv 10 = 0
   ·
    have HDD : Hid (digs 20 n [] = D) := Lib.hid (by rw [← HG.out, HF1.out, digs_stop htd, HD.out])
    have hcv := conv_row (bytes_rep ho') hD0
    cases sg
    ·
     go_wp2_with fail
     go_ret
     exact ⟨ret_str (by rw [HF.out, HDD.out]; rfl), hx'⟩
    ·
     have had : ¬ 9223372036854775807 < 1 + (strOfNums D).size := by rw [strOf_size]; omega
     go_wp2_with fail
     rw [str45]
     go_ret
     exact ⟨ret_str (by rw [HF.out, HDD.out]; rfl), hx'⟩
   ·
    have hf0 : 0 < f' := by
     rcases Nat.eq_zero_or_pos f' with e | e
     ·
      exfalso
      have h1 := HPD.out
      rw [e] at h1
      simp only [Int.pow_zero] at h1
      omega
     ·
      exact e
    have HGN : Hid (digs f' (m.tdiv 10) D = digs 20 n []) := Lib.hid (by rw [HD.out, ← digs_go htd, ← HF1.out]; exact HG.out)
    have HF0 := Lib.hid hf0
    clear hf0
    go_wp2_with fail
    go_roundg (gk - 1)
    case measure => have h1 := HGF.out; have h2 := HF1.out; omega
    case rel => exact ⟨f', m.tdiv 10, D, by have h1 := HGF.out; have h2 := HF1.out; omega, HF0.out, rfl, HPD, by omega, by omega, hDl, ho', HGN, hx'⟩
  ·
   have HDN : Hid (digOf m = 48 + m.tmod 10) := Lib.hid (by rw [HDG.out, if_neg hneg])
   go_wp2_with (at_builtin; rw [← HDN.out]; refine appS E byteFlen byteOne rfl _ _ rfl l rfl HOL.out rfl (RdS.ext (bytes_rep hown) ((Ext.refl _).alloc _)) (by simp; omega) (by simp [maxLen]; omega) (by simp) ?_)
   intro v' w' ho' hg'
   have hx' : Ext w w' := (hx.alloc (.cells #[.int .u8 (digOf m)] 5)).app hg' HOL.out hx.size
   replace ho' := ho'.mono (base' := w.heap.size) hx.size
   obtain ⟨D, hD⟩ : ∃ D, D = digOf m :: l := ⟨_, rfl⟩
   have hDl : D.length + f' = 20 := by rw [hD]; exact HLF.out
   have hD0 : 0 < D.length := by rw [hD]; simp
   rw [← hD] at ho'
   have HD := Lib.hid hD
   clear hD hg' hown HOL
   obtain ⟨o', c', rfl, _⟩ := (bytes_rep ho').shape
   by_cases htd : m.tdiv 10 = 0
   ·
    have HDD : Hid (digs 20 n [] = D) := Lib.hid (by rw [← HG.out, HF1.out, digs_stop htd, HD.out])
    have hcv := conv_row (bytes_rep ho') hD0
    cases sg
    ·
     go_wp2_with fail
     go_ret
     exact ⟨ret_str (by rw [HF.out, HDD.out]; rfl), hx'⟩
    ·
     have had : ¬ 9223372036854775807 < 1 + (strOfNums D).size := by rw [strOf_size]; omega
     go_wp2_with fail
     rw [str45]
     go_ret
     exact ⟨ret_str (by rw [HF.out, HDD.out]; rfl), hx'⟩
   ·
    have hf0 : 0 < f' := by
     rcases Nat.eq_zero_or_pos f' with e | e
     ·
      exfalso
      have h1 := HPD.out
      rw [e] at h1
      simp only [Int.pow_zero] at h1
      omega
     ·
      exact e
    have HGN : Hid (digs f' (m.tdiv 10) D = digs 20 n []) := Lib.hid (by rw [HD.out, ← digs_go htd, ← HF1.out]; exact HG.out)
    have HF0 := Lib.hid hf0
    clear hf0
    go_wp2_with fail
    go_roundg (gk - 1)
    case measure => have h1 := HGF.out; have h2 := HF1.out; omega
    case rel => exact ⟨f', m.tdiv 10, D, by have h1 := HGF.out; have h2 := HF1.out; omega, HF0.out, rfl, HPD, by omega, by omega, hDl, ho', HGN, hx'⟩

theorem fmtB_zero : fmtB 0 = [48] := by decide

set_option maxRecDepth 100000 in
set_option maxHeartbeats 3000000 in
theorem s_FormatInt (n : Int) (w : World) (hn : I64 n) :
  Calls Try.prog 30 #[.int .i64 n] w fun e w' => e = .returned (.string (strOfNums (fmtB n))) ∧ Ext w w' := by
 have hp := i64_pow hn
 obtain ⟨sg, hsg⟩ : ∃ sg : Bool, decide (n < 0) = sg := ⟨_, rfl⟩
 have HF : Hid (fmtB n = if sg then 45 :: digs 20 n [] else digs 20 n []) := Lib.hid (by unfold fmtB; rw [← hsg]; simp)
 have HSG := Lib.hid hsg
 unfold I64 at hn
 by_cases hz : n = 0
 ·
  have hz1 : (n == 0) = true := by rw [beq_iff_eq]; exact hz
  have HF0 : Hid (fmtB n = [48]) := Lib.hid (by rw [hz]; exact fmtB_zero)
  clear hz hsg hp hn
  go_enter Try.func30, Try.ntmps30
  go_wp2_with fail
  go_ret
  exact ⟨ret_str (by rw [HF0.out]; rfl), Ext.refl _⟩
 ·
  have hz1 : (n == 0) = false := by rw [beq_eq_false_iff_ne]; exact hz
  clear hsg
  go_enter Try.func30, Try.ntmps30
  go_wp2_with fail
  go_loopg [3, 4] 20 (fun gk ss xx wr => ∃ (f : Nat) (m : Int) (l : List Int), gk = f ∧ ss = .string (strOfNums l) ∧ xx = .int .i64 m ∧ Hid (-(10 : Int) ^ f < m ∧ m < (10 : Int) ^ f) ∧ -9223372036854775808 ≤ m ∧ m ≤ 9223372036854775807 ∧ l.length + f = 20 ∧ Hid ((m = 0 ∧ l = digs 20 n []) ∨ (m ≠ 0 ∧ digs f m l = digs 20 n [])) ∧ Ext w wr)
  case atStart => exact ⟨20, n, [], rfl, rfl, rfl, Lib.hid hp, hn.1, hn.2, rfl, Lib.hid (.inr ⟨hz, rfl⟩), Ext.refl _⟩
  case round =>
   clear hp hn hz hz1
   obtain ⟨f, m, l, hgf, rfl, rfl, HP, hm0, hm1, hlf, HG, hx⟩ := hrel
   have HGF := Lib.hid hgf; clear hgf
   have hlf2 : l.length ≤ 20 := by omega
   have HLF0 := Lib.hid hlf; clear hlf
   by_cases hmz : m = 0
   ·
    have HD : Hid (digs 20 n [] = l) := Lib.hid (by rcases HG.out with h | h; exact h.2.symm; exact absurd hmz h.1)
    have hm2 : (m != 0) = false := by simp [hmz]
    have hs9 := HSG.out
    cases sg
    ·
     have hs8 : ¬ n < 0 := by simpa using hs9
     clear hs9
     go_wp2_with fail
     go_ret
     exact ⟨ret_str (by rw [HF.out, HD.out]; rfl), hx⟩
    ·
     have hs8 : n < 0 := by simpa using hs9
     clear hs9
     have had : ¬ 9223372036854775807 < 1 + (strOfNums l).size := by rw [strOf_size]; omega
     go_wp2_with fail
     rw [str45]
     go_ret
     exact ⟨ret_str (by rw [HF.out, HD.out]; rfl), hx⟩
   ·
    have hm2 : (m != 0) = true := by simp [hmz]
    have HG2 : Hid (digs f m l = digs 20 n []) := Lib.hid (by rcases HG.out with h | h; exact absurd h.1 hmz; exact h.2)
    have hf1 : 0 < f := by
     rcases Nat.eq_zero_or_pos f with e | e
     ·
      exfalso
      have h1 := HP.out
      rw [e] at h1
      simp only [Int.pow_zero] at h1
      omega
     ·
      exact e
    obtain ⟨f', hf'⟩ : ∃ f', f = f' + 1 := ⟨f - 1, by omega⟩
    have hlf3 : (digOf m :: l).length + f' = 20 := by have h1 := HLF0.out; rw [List.length_cons]; omega
    have HLF := Lib.hid hlf3; clear hlf3
    have HF1 := Lib.hid hf'; clear hf' hf1 hmz
    have HPD := Lib.hid (tdiv10_bd (n := m) (f := f') (by rw [← HF1.out]; exact HP.out.1) (by rw [← HF1.out]; exact HP.out.2))
    have hdb := digOf_bd m
    have HDB := Lib.hid hdb
    obtain ⟨q0, q1⟩ := tmod10 m
    have hdv : -922337203685477581 ≤ m.tdiv 10 ∧ m.tdiv 10 ≤ 922337203685477581 := by
     have e : m = m.tmod 10 + 10 * m.tdiv 10 := (Int.tmod_add_mul_tdiv m 10).symm
     omega
    obtain ⟨hv0, hv1⟩ := hdv
    have HDG : Hid (digOf m = 48 + (if m.tmod 10 < 0 then -(m.tmod 10) else m.tmod 10)) := Lib.hid rfl
    clear hdb
    have hol : OwnF byteF 1 wr.heap.size 5 (wr.alloc (.cells #[.int .u8 (digOf m)] 5)) (.slice (some ⟨wr.heap.size, 0, none⟩) 1 1) [digOf m] := OwnF.lit byteFlen wr.heap.size 5 wr [digOf m] (Nat.le_refl _) (by simp [maxLen])
    have HCV : Hid ((convert 30 9 (.slice (some ⟨wr.heap.size, 0, none⟩) 1 1)).run Try.prog (wr.alloc (.cells #[.int .u8 (digOf m)] 5)) = .ok (.string (strOfNums [digOf m])) (wr.alloc (.cells #[.int .u8 (digOf m)] 5))) := Lib.hid (conv_row (l := [digOf m]) (bytes_rep hol) (by simp))
    clear hol
    have HST : Hid (Value.string (strOfNums [digOf m] ++ strOfNums l) = Value.string (strOfNums (digOf m :: l))) := Lib.hid (congrArg Value.string (strOf_app [digOf m] l).symm)
    have HGN : Hid ((m.tdiv 10 = 0 ∧ digOf m :: l = digs 20 n []) ∨ (m.tdiv 10 ≠ 0 ∧ digs f' (m.tdiv 10) (digOf m :: l) = digs 20 n [])) := Lib.hid (by
     have h1 := HG2.out
     rw [HF1.out] at h1
     by_cases h : m.tdiv 10 = 0
     ·
      rw [digs_stop h] at h1; exact .inl ⟨h, h1⟩
     ·
      rw [digs_go h] at h1; exact .inr ⟨h, h1⟩)
    by_cases hneg : m.tmod 10 < 0
    ·
     have HDN : Hid (digOf m = 48 + -(m.tmod 10)) := Lib.hid (by rw [HDG.out, if_pos hneg])
     have hcv := HCV.out
     rw [HDN.out] at hcv
     have had : ¬ 9223372036854775807 < (strOfNums [48 + -(m.tmod 10)]).size + (strOfNums l).size := by rw [strOf_size, strOf_size]; simp only [List.length_cons, List.length_nil]; omega
     go_wp2_with fail
     go_roundg (gk - 1)
     case measure => have h1 := HGF.out; have h2 := HF1.out; omega
     case rel => exact ⟨f', m.tdiv 10, digOf m :: l, by have h1 := HGF.out; have h2 := HF1.out; omega, by rw [← HST.out, HDN.out], rfl, HPD, by omega, by omega, HLF.out, HGN, hx.alloc _⟩
    ·
     have HDN : Hid (digOf m = 48 + m.tmod 10) := Lib.hid (by rw [HDG.out, if_neg hneg])
     have hcv := HCV.out
     rw [HDN.out] at hcv
     have had : ¬ 9223372036854775807 < (strOfNums [48 + m.tmod 10]).size + (strOfNums l).size := by rw [strOf_size, strOf_size]; simp only [List.length_cons, List.length_nil]; omega
     go_wp2_with fail
     go_roundg (gk - 1)
     case measure => have h1 := HGF.out; have h2 := HF1.out; omega
     case rel => exact ⟨f', m.tdiv 10, digOf m :: l, by have h1 := HGF.out; have h2 := HF1.out; omega, by rw [← HST.out, HDN.out], rfl, HPD, by omega, by omega, HLF.out, HGN, hx.alloc _⟩

set_option maxRecDepth 100000 in
set_option maxHeartbeats 3000000 in
theorem i_FormatAS (t : Topo) (v1 v2 : Value) (r : Int) (w : World) (ha : RdS ASd.rep w v1 t.ases) (hI : ∀ a ∈ t.ases, I64 a.isd) (hr : I64 r) :
  Calls Try.prog 77 #[.agg #[v1, v2], .int .i64 r] w fun e w' => e = .returned (.string (strOfNums (asB t r))) ∧ Ext w w' := by
 obtain ⟨oA, cA, rfl, _⟩ := ha.shape
 have hx0 : Ext w (w.alloc (.cells #[.slice oA t.ases.length cA, v2] 41)) := (Ext.refl _).alloc _
 have HB0 := Lib.hid (blk_new w (.cells #[.slice oA t.ases.length cA, v2] 41))
 go_enter Try.func77, Try.ntmps77
 have cf1 := blk2 HB0.out
 go_wp2_with fail
 refine (i_isAS t _ _ r _ (ha.ext hx0)).mono ?_
 rintro e w1 ⟨rfl, hz1⟩
 cases b1 : isAs t r
 ·
  have HE : Hid (asB t r = [63]) := Lib.hid (by unfold asB; rw [b1]; rfl)
  try clear cf1
  have cf2 := blk2 (Ext.block hz1 HB0.out)
  go_wp2_with fail
  go_ret
  exact ⟨ret_str (by rw [HE.out]; rfl), (hx0.trans hz1)⟩
 ·
  obtain ⟨hr0, hr1⟩ := isAs_lt b1
  obtain ⟨n, rfl⟩ := Int.eq_ofNat_of_zero_le hr0
  have hn : n < t.ases.length := by simpa using hr1
  have hn2 : (n : Int) < t.ases.length := by omega
  obtain ⟨ba, offa, rfl, hc⟩ := ASd.at (ha.ext (hx0.trans hz1)) n hn
  have hisd := hI t.ases[n] (List.getElem_mem hn)
  have HE : Hid (asB t n = fmtB t.ases[n].isd ++ [45] ++ fmtB n) := Lib.hid (by unfold asB; rw [b1, asAt_at hr0 hr1]; rfl)
  have hA := fmtB_len t.ases[n].isd
  have hB := fmtB_len n
  obtain ⟨A, hA9⟩ : ∃ A, A = fmtB t.ases[n].isd := ⟨_, rfl⟩
  obtain ⟨B, hB9⟩ : ∃ B, B = fmtB n := ⟨_, rfl⟩
  rw [← hA9] at hA HE
  rw [← hB9] at hB HE
  have HA := Lib.hid hA9
  have HB := Lib.hid hB9
  have hd1 : ¬ 9223372036854775807 < (strOfNums A).size + 1 := by rw [strOf_size]; omega
  have hd2 : ¬ 9223372036854775807 < (strOfNums A).size + 1 + (strOfNums B).size := by rw [strOf_size, strOf_size]; omega
  clear hA9 hB9 hA hB hr0 hr1 b1
  try clear cf1
  have cf3 := blk2 (Ext.block hz1 HB0.out)
  go_wp2_with fail
  refine (i_FormatInt t.ases[n].isd _ hisd).mono ?_
  rintro e w2 ⟨rfl, hz2⟩
  rw [← HA.out]
  try clear cf3
  have cf4 := blk2 (Ext.block (hz1.trans hz2) HB0.out)
  have cf5 := ASd.at_ext hz2 hc
  go_wp2_with fail
  refine (i_FormatInt n _ hr).mono ?_
  rintro e w3 ⟨rfl, hz3⟩
  rw [← HB.out]
  try clear cf4
  try clear cf5
  have cf6 := blk2 (Ext.block ((hz1.trans hz2).trans hz3) HB0.out)
  have cf7 := ASd.at_ext (hz2.trans hz3) hc
  go_wp2_with fail
  rw [str_mid]
  go_ret
  exact ⟨ret_str (by rw [HE.out]), (((hx0.trans hz1).trans hz2).trans hz3)⟩

set_option maxRecDepth 100000 in
set_option maxHeartbeats 3000000 in
theorem s_FormatAS (t : Topo) (v1 v2 : Value) (r : Int) (w : World) (ha : RdS ASd.rep w v1 t.ases) (hI : ∀ a ∈ t.ases, I64 a.isd) (hr : I64 r) :
  Calls Try.prog 31 #[.agg #[v1, v2], .int .i64 r] w fun e w' => e = .returned (.string (strOfNums (asB t r))) ∧ Ext w w' := by
 obtain ⟨oA, cA, rfl, _⟩ := ha.shape
 have hx0 : Ext w (w.alloc (.cells #[.slice oA t.ases.length cA, v2] 41)) := (Ext.refl _).alloc _
 have HB0 := Lib.hid (blk_new w (.cells #[.slice oA t.ases.length cA, v2] 41))
 go_enter Try.func31, Try.ntmps31
 have cf1 := blk2 HB0.out
 go_wp2_with fail
 refine (s_l5Realm t _ _ r _ (ha.ext hx0)).mono ?_
 rintro e w1 ⟨rfl, hz1⟩
 cases b1 : isAs t r
 ·
  have HE : Hid (asB t r = [63]) := Lib.hid (by unfold asB; rw [b1]; rfl)
  try clear cf1
  have cf2 := blk2 (Ext.block hz1 HB0.out)
  go_wp2_with fail
  go_ret
  exact ⟨ret_str (by rw [HE.out]; rfl), (hx0.trans hz1)⟩
 ·
  obtain ⟨hr0, hr1⟩ := isAs_lt b1
  obtain ⟨n, rfl⟩ := Int.eq_ofNat_of_zero_le hr0
  have hn : n < t.ases.length := by simpa using hr1
  have hn2 : (n : Int) < t.ases.length := by omega
  obtain ⟨ba, offa, rfl, hc⟩ := ASd.at (ha.ext (hx0.trans hz1)) n hn
  have hisd := hI t.ases[n] (List.getElem_mem hn)
  have HE : Hid (asB t n = fmtB t.ases[n].isd ++ [45] ++ fmtB n) := Lib.hid (by unfold asB; rw [b1, asAt_at hr0 hr1]; rfl)
  have hA := fmtB_len t.ases[n].isd
  have hB := fmtB_len n
  obtain ⟨A, hA9⟩ : ∃ A, A = fmtB t.ases[n].isd := ⟨_, rfl⟩
  obtain ⟨B, hB9⟩ : ∃ B, B = fmtB n := ⟨_, rfl⟩
  rw [← hA9] at hA HE
  rw [← hB9] at hB HE
  have HA := Lib.hid hA9
  have HB := Lib.hid hB9
  have hd1 : ¬ 9223372036854775807 < (strOfNums A).size + 1 := by rw [strOf_size]; omega
  have hd2 : ¬ 9223372036854775807 < (strOfNums A).size + 1 + (strOfNums B).size := by rw [strOf_size, strOf_size]; omega
  clear hA9 hB9 hA hB hr0 hr1 b1
  try clear cf1
  have cf3 := blk2 (Ext.block hz1 HB0.out)
  go_wp2_with fail
  refine (s_FormatInt t.ases[n].isd _ hisd).mono ?_
  rintro e w2 ⟨rfl, hz2⟩
  rw [← HA.out]
  try clear cf3
  have cf4 := blk2 (Ext.block (hz1.trans hz2) HB0.out)
  have cf5 := ASd.at_ext hz2 hc
  go_wp2_with fail
  refine (s_FormatInt n _ hr).mono ?_
  rintro e w3 ⟨rfl, hz3⟩
  rw [← HB.out]
  try clear cf4
  try clear cf5
  have cf6 := blk2 (Ext.block ((hz1.trans hz2).trans hz3) HB0.out)
  have cf7 := ASd.at_ext (hz2.trans hz3) hc
  go_wp2_with fail
  rw [str_mid]
  go_ret
  exact ⟨ret_str (by rw [HE.out]), (((hx0.trans hz1).trans hz2).trans hz3)⟩

end Go.Proofs.Ytcpfmhgfaliemaa
