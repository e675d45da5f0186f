/- Contracts of the functions that encode numbers, program and reference. No condition but the bounds that each theorem names. -/
import Derived.Test.YtmjpjapjdhgchaaW01
import Derived.Test.YtmjpjapjdhgchaaTyByte
import Derived.Test.YtmjpjapjdhgchaaTyInt
import Derived.Test.YtmjpjapjdhgchaaPlain02
namespace Go.Proofs.Ytmjpjapjdhgchaa
open Go.ChangeShapes Go.WideShapes Go.ChangeAt Go.RowKit Go.Deep

set_option maxHeartbeats 400000 in
theorem i_copyBytes (l : List Int) (v : Value) (w : World) (hv : RdS Rep.byte w v l) (hl : l.length ≤ 1099511627776) :
    Calls Try.prog 74 #[v] w fun e w' => ∃ v', e = .returned v' ∧ OwnF byteF 1 w.heap.size 5 w' v' l ∧ Ext w w' := by
  obtain ⟨E⟩ := elemByte
  go_enter Try.func74, Try.ntmps74
  go_wp2_with (at_builtin; refine appS E byteFlen byteOne rfl _ _ rfl l rfl (OwnF.empty byteF 1 w.heap.size _ w (Nat.le_refl _)) rfl (hv.ext ((Ext.refl _).alloc _)) (by simp; omega) (by simp [maxLen]; omega) (by simp) ?_)
  intro v' w' ho' hg'
  have hx' : Ext w w' := ((Ext.refl w).alloc _).app hg' (OwnF.empty byteF 1 w.heap.size 5 w (Nat.le_refl _)) (Nat.le_refl _)
  try rw [List.nil_append] at ho'
  clear hg'
  go_wp2
  go_ret
  exact ⟨_, rfl, ho', hx'⟩

set_option maxHeartbeats 4000000 in
theorem i_AppendVarint (l : List Int) (v : Value) (n : Int) (w : World) (hv : RdS Rep.byte w v l) (hl : l.length ≤ 1099511627000) :
    Calls Try.prog 73 #[v, .int .i64 n] w fun e w' => ∃ v', e = .returned v' ∧ OwnF byteF 1 w.heap.size 5 w' v' (l ++ varOf n) ∧ Ext w w' := by
  obtain ⟨E⟩ := elemByte
  go_enter Try.func73, Try.ntmps73
  go_wp2_with fail
  refine (i_copyBytes l v _ hv (by omega)).mono ?_
  rintro e w1 ⟨v1, rfl, ho, hx⟩
  go_wp2_with fail
  refine (i_InRange _ _ _ _).mono ?_
  rintro e w2 ⟨rfl, rfl⟩
  by_cases hr : 0 ≤ n ∧ n ≤ 1000000000000
  · have tr : inR n 0 1000000000000 = true := inR_true.2 hr
    have hvo : varOf n = varint n := if_pos hr
    have hlen := varOf_len n
    rw [hvo] at hlen
    have HV := Lib.hid hvo; clear hvo
    obtain ⟨hr0, hr1⟩ := hr
    go_wp2_with fail
    go_loopw [1, 5] (fun nn out wr => ∃ (m : Int) (pre : List Int), nn = .int .i64 m ∧ 0 ≤ m ∧ m ≤ 1000000000000 ∧ pre ++ varint m = varint n ∧ OwnF byteF 1 w.heap.size 5 wr out (l ++ pre) ∧ Ext w wr) (fun nn _ _ => (intOf nn).toNat)
    case atStart => exact ⟨n, [], rfl, hr0, hr1, rfl, by rw [List.append_nil]; exact ho, hx⟩
    case round =>
      clear ho hx
      obtain ⟨m, pre, rfl, hm0, hm1, hpre, hown, hx⟩ := hrel
      have hpl : pre.length ≤ 6 := by
        have := congrArg List.length hpre
        simp only [List.length_append] at this
        omega
      have HP := Lib.hid hpre; clear hpre
      have hbd : (l ++ pre).length ≤ 1099511627100 := by simp; omega
      by_cases hbig : 128 ≤ m
      · have hstep : (pre ++ [m % 128 + 128]) ++ varint (m / 128) = varint n := by
          rw [← HP.out, varint_big hbig]; simp
        have HS := Lib.hid hstep; clear hstep
        have e1 : m % 128 + 128 < 256 := by omega
        go_wp2_with (at_builtin; refine app1 E byteFlen byteOne rfl _ _ rfl (m % 128 + 128) rfl (OwnF.ext hown ((Ext.refl _).alloc _)) rfl (by first | exact blk_list (byteF _) (blk_new wr _) | exact fun j u hu => hu) (by omega) (by unfold maxLen; omega) (hx.alloc _).size ?_)
        intro v' w' ho' hg'
        have hx' : Ext w w' := (hx.alloc _).app hg' hown (Nat.le_refl _)
        clear hg'
        go_wp2
        go_roundw
        case rel => exact ⟨m / 128, pre ++ [m % 128 + 128], by go_num, by omega, by omega, HS.out, by simpa using ho', hx'⟩
        case measure => simp [intOf]; omega
      · have hend : pre ++ [m] = varint n := by
          rw [← HP.out, varint_small (by omega)]
        have HE := Lib.hid hend; clear hend
        go_wp2_with (at_builtin; refine app1 E byteFlen byteOne rfl _ _ rfl m rfl (OwnF.ext hown ((Ext.refl _).alloc _)) rfl (by first | exact blk_list (byteF _) (blk_new wr _) | exact fun j u hu => hu) (by omega) (by unfold maxLen; omega) (hx.alloc _).size ?_)
        intro v' w' ho' hg'
        have hx' : Ext w w' := (hx.alloc _).app hg' hown (Nat.le_refl _)
        clear hg'
        go_wp2
        go_ret
        rw [HV.out, ← HE.out]
        exact ⟨_, rfl, by simpa using ho', hx'⟩
  · have tr : inR n 0 1000000000000 = false := inR_false.2 hr
    have hvo : varOf n = [] := if_neg hr
    have HV := Lib.hid hvo; clear hvo
    go_wp2_with fail
    go_ret
    rw [HV.out, List.append_nil]
    exact ⟨_, rfl, ho, hx⟩

set_option maxHeartbeats 4000000 in
theorem s_AppendVarint (l : List Int) (v : Value) (n : Int) (w : World) (hv : RdS Rep.byte w v l) (hl : l.length ≤ 1099511627000) :
    Calls Try.prog 71 #[v, .int .i64 n] w fun e w' => ∃ v', e = .returned v' ∧ OwnF byteF 1 w.heap.size 5 w' v' (l ++ varOf n) ∧ Ext w w' := by
  obtain ⟨E⟩ := elemByte
  go_enter Try.func71, Try.ntmps71
  go_wp2_with (at_builtin; refine appS E byteFlen byteOne rfl _ _ rfl l rfl (OwnF.empty byteF 1 w.heap.size _ w (Nat.le_refl _)) rfl (hv.ext ((Ext.refl _).alloc _)) (by simp; omega) (by simp [maxLen]; omega) (by simp) ?_)
  intro v1 w1 ho hg'
  have hx : Ext w w1 := ((Ext.refl w).alloc _).app hg' (OwnF.empty byteF 1 w.heap.size 5 w (Nat.le_refl _)) (Nat.le_refl _)
  try rw [List.nil_append] at ho
  clear hg'
  go_wp2_with fail
  refine (s_l1In _ _ _ _).mono ?_
  rintro e w2 ⟨rfl, rfl⟩
  by_cases hr : 0 ≤ n ∧ n ≤ 1000000000000
  · have tr : inR n 0 1000000000000 = true := inR_true.2 hr
    have hvo : varOf n = varint n := if_pos hr
    have hlen := varOf_len n
    rw [hvo] at hlen
    have HV := Lib.hid hvo; clear hvo
    obtain ⟨hr0, hr1⟩ := hr
    go_wp2_with fail
    go_loopw [1, 5] (fun nn out wr => ∃ (m : Int) (pre : List Int), nn = .int .i64 m ∧ 0 ≤ m ∧ m ≤ 1000000000000 ∧ pre ++ varint m = varint n ∧ OwnF byteF 1 w.heap.size 5 wr out (l ++ pre) ∧ Ext w wr) (fun nn _ _ => (intOf nn).toNat)
    case atStart => exact ⟨n, [], rfl, hr0, hr1, rfl, by rw [List.append_nil]; exact ho, hx⟩
    case round =>
      clear ho hx
      obtain ⟨m, pre, rfl, hm0, hm1, hpre, hown, hx⟩ := hrel
      have hpl : pre.length ≤ 6 := by
        have := congrArg List.length hpre
        simp only [List.length_append] at this
        omega
      have HP := Lib.hid hpre; clear hpre
      have hbd : (l ++ pre).length ≤ 1099511627100 := by simp; omega
      by_cases hbig : 128 ≤ m
      · have hstep : (pre ++ [m % 128 + 128]) ++ varint (m / 128) = varint n := by
          rw [← HP.out, varint_big hbig]; simp
        have HS := Lib.hid hstep; clear hstep
        have e2 : 127 < m := by omega
        have ea : bits .and .i64 m 127 = m % 128 := and127 m hm0 (by omega)
        have eo : bits .or .i64 (m % 128) 128 = m % 128 + 128 := or128 m
        go_wp2_with (at_builtin; refine app1 E byteFlen byteOne rfl _ _ rfl (m % 128 + 128) rfl (OwnF.ext hown ((Ext.refl _).alloc _)) rfl (by first | exact blk_list (byteF _) (blk_new wr _) | exact fun j u hu => hu) (by omega) (by unfold maxLen; omega) (hx.alloc _).size ?_)
        intro v' w' ho' hg'
        have hx' : Ext w w' := (hx.alloc _).app hg' hown (Nat.le_refl _)
        clear hg'
        go_wp2
        go_roundw
        case rel => exact ⟨m / 128, pre ++ [m % 128 + 128], by go_num, by omega, by omega, HS.out, by simpa using ho', hx'⟩
        case measure => simp [intOf]; omega
      · have hend : pre ++ [m] = varint n := by
          rw [← HP.out, varint_small (by omega)]
        have HE := Lib.hid hend; clear hend
        go_wp2_with (at_builtin; refine app1 E byteFlen byteOne rfl _ _ rfl m rfl (OwnF.ext hown ((Ext.refl _).alloc _)) rfl (by first | exact blk_list (byteF _) (blk_new wr _) | exact fun j u hu => hu) (by omega) (by unfold maxLen; omega) (hx.alloc _).size ?_)
        intro v' w' ho' hg'
        have hx' : Ext w w' := (hx.alloc _).app hg' hown (Nat.le_refl _)
        clear hg'
        go_wp2
        go_ret
        rw [HV.out, ← HE.out]
        exact ⟨_, rfl, by simpa using ho', hx'⟩
  · have tr : inR n 0 1000000000000 = false := inR_false.2 hr
    have hvo : varOf n = [] := if_neg hr
    have HV := Lib.hid hvo; clear hvo
    go_wp2_with fail
    go_ret
    rw [HV.out, List.append_nil]
    exact ⟨_, rfl, ho, hx⟩

set_option maxHeartbeats 1000000 in
theorem i_appendInts (l : List Int) (v : Value) (ns : List Int) (vn : Value) (w : World) (hv : RdS Rep.byte w v l) (hn : RdS Rep.int w vn ns) (hl : l.length + 6 * ns.length ≤ 1099511620000) :
    Calls Try.prog 72 #[v, vn] w fun e w' => ∃ v', e = .returned v' ∧ RdS Rep.byte w' v' (l ++ encInts ns) ∧ (ns ≠ [] → OwnF byteF 1 w.heap.size 5 w' v' (l ++ encInts ns)) ∧ (ns = [] → v' = v) ∧ Ext w w' := by
  obtain ⟨on, cn, rfl, hsn⟩ := hn.shape
  go_enter Try.func72, Try.ntmps72
  go_wp2
  go_loopw [0, 9] (fun b i wr => ∃ (k : Nat), k ≤ ns.length ∧ i = .int .i64 k ∧ RdS Rep.byte wr b (l ++ encInts (ns.take k)) ∧ (0 < k → OwnF byteF 1 w.heap.size 5 wr b (l ++ encInts (ns.take k))) ∧ (k = 0 → b = v) ∧ Ext w wr) (fun _ i _ => ns.length - (intOf i).toNat)
  case atStart => exact ⟨0, Nat.zero_le _, rfl, by simpa [encInts] using hv, (fun h => absurd h (by omega)), (fun _ => rfl), Ext.refl _⟩
  case round =>
    obtain ⟨k, hk, rfl, hrd, hown, hnil, hx⟩ := hrel
    have HO := Lib.hid hown; clear hown
    have HNl := Lib.hid hnil; clear hnil
    by_cases hlt : k < ns.length
    · obtain ⟨b, off, rfl, hc⟩ := ints_at (hn.ext hx) k hlt
      have hen : encInts (ns.take (k + 1)) = encInts (ns.take k) ++ varOf ns[k] := by
        rw [List.take_succ_eq_append_getElem hlt]; simp only [encInts, List.flatMap_append, List.flatMap_cons, List.flatMap_nil, List.append_nil]
      have HE := Lib.hid hen; clear hen
      have hle := encInts_len (ns.take k)
      have hlt2 : (ns.take k).length ≤ k := List.length_take_le _ _
      have hbd : (l ++ encInts (ns.take k)).length ≤ 1099511627000 := by simp only [List.length_append]; omega
      obtain ⟨x, hxk⟩ : ∃ x, ns[k] = x := ⟨_, rfl⟩
      rw [hxk] at hc
      have Hxk := Lib.hid hxk; clear hxk
      go_wp2_with fail
      refine (i_AppendVarint (l ++ encInts (ns.take k)) _ x _ hrd hbd).mono ?_
      rintro e w1 ⟨v1, rfl, o1, h1⟩
      have hx1 := hx.trans h1
      have o2 := o1.mono hx.size
      have he2 : l ++ encInts (ns.take k) ++ varOf x = l ++ encInts (ns.take (k + 1)) := by rw [HE.out, Hxk.out, List.append_assoc]
      rw [he2] at o2
      clear he2 o1
      go_wp2_with fail
      go_roundw
      case rel => exact ⟨k + 1, by omega, by go_num, bytes_rep o2, (fun _ => o2), (fun h => absurd h (by omega)), hx1⟩
      case measure => simp [intOf]; omega
    · obtain rfl : k = ns.length := by omega
      go_wp2
      go_ret
      have HO := HO.out
      have HNl := HNl.out
      rw [List.take_length] at hrd HO
      exact ⟨_, rfl, hrd, (fun h => HO (List.length_pos_iff.2 h)), (fun h => HNl (by rw [h]; rfl)), hx⟩
set_option maxHeartbeats 400000 in
theorem i_EncodeInts (ns : List Int) (vn : Value) (w : World) (hn : RdS Rep.int w vn ns) (hl : ns.length ≤ 1048576) :
    Calls Try.prog 70 #[vn] w fun e w' => ∃ v', e = .returned v' ∧ OwnF byteF 1 w.heap.size 5 w' v' (encInts ns) ∧ Ext w w' := by
  go_enter Try.func70, Try.ntmps70
  go_wp2_with fail
  refine (i_appendInts [] _ ns vn _ (RdS.nil _ _) hn (by simp; omega)).mono ?_
  rintro e w1 ⟨v1, rfl, r1, o1, n1, h1⟩
  have HN := Lib.hid n1; clear n1
  have HO := Lib.hid o1; clear o1
  go_wp2_with fail
  go_ret
  refine ⟨_, rfl, ?_, h1⟩
  by_cases hn0 : ns = []
  · subst hn0
    rw [HN.out rfl]
    exact OwnF.nil _ _ _ _ _
  · have := HO.out hn0
    rw [List.nil_append] at this
    exact this
set_option maxHeartbeats 1000000 in
theorem s_EncodeInts (ns : List Int) (vn : Value) (w : World) (hn : RdS Rep.int w vn ns) (hl : ns.length ≤ 1048576) :
    Calls Try.prog 69 #[vn] w fun e w' => ∃ v', e = .returned v' ∧ OwnF byteF 1 w.heap.size 5 w' v' (encInts ns) ∧ Ext w w' := by
  obtain ⟨on, cn, rfl, hsn⟩ := hn.shape
  go_enter Try.func69, Try.ntmps69
  go_wp2
  go_loopw [3, 4] (fun b i wr => ∃ (k : Nat), k ≤ ns.length ∧ i = .int .i64 k ∧ OwnF byteF 1 w.heap.size 5 wr b (encInts (ns.take k)) ∧ Ext w wr) (fun _ i _ => ns.length - (intOf i).toNat)
  case atStart => exact ⟨0, Nat.zero_le _, rfl, OwnF.empty _ _ _ _ _ (Nat.le_refl _), (Ext.refl _).alloc _⟩
  case round =>
    obtain ⟨k, hk, rfl, hown, hx⟩ := hrel
    by_cases hlt : k < ns.length
    · obtain ⟨b, off, rfl, hc⟩ := ints_at (hn.ext hx) k hlt
      have hen : encInts (ns.take k) ++ varOf ns[k] = encInts (ns.take (k + 1)) := by
        rw [List.take_succ_eq_append_getElem hlt]; simp only [encInts, List.flatMap_append, List.flatMap_cons, List.flatMap_nil, List.append_nil]
      have HE := Lib.hid hen; clear hen
      have hle := encInts_len (ns.take k)
      have hlt2 : (ns.take k).length ≤ k := List.length_take_le _ _
      obtain ⟨x, hxk⟩ : ∃ x, ns[k] = x := ⟨_, rfl⟩
      rw [hxk] at hc
      have Hxk := Lib.hid hxk; clear hxk
      go_wp2_with fail
      refine (s_AppendVarint (encInts (ns.take k)) _ x _ (bytes_rep hown) (by omega)).mono ?_
      rintro e w1 ⟨v1, rfl, o1, h1⟩
      have hx1 := hx.trans h1
      have o2 := o1.mono hx.size
      rw [← Hxk.out, HE.out] at o2
      clear o1
      go_wp2_with fail
      go_roundw
      case rel => exact ⟨k + 1, by omega, by go_num, o2, hx1⟩
      case measure => simp [intOf]; omega
    · go_wp2
      go_ret
      rw [List.take_of_length_le (by omega)] at hown
      exact ⟨_, rfl, hown, hx⟩

end Go.Proofs.Ytmjpjapjdhgchaa
