/- Comparisons of paths, packets and verdicts, program and laws. No condition but the bounds that each theorem names. -/
import Derived.Laws.BytesArg
import Derived.Test.YtcpfmhgfaliemaaGreatKMxW40e
import Derived.Test.YtcpfmhgfaliemaaGreatKM17
namespace Go.Proofs.YtcpfmhgfaliemaaGreat
open Go.ChangeShapes Go.WideShapes Go.ChangeAt Go.RowKit Go.Deep

theorem partEq_dec (x y : Part) : partEq x y = decide (x = y) := by
 obtain ⟨a, b, c, d⟩ := x
 obtain ⟨a', b', c', d'⟩ := y
 unfold partEq
 rw [Bool.eq_iff_iff]
 simp [and_assoc]
theorem part_take {ps qs : List Part} {k : Nat} (h : ps.take k = qs.take k) (h1 : k < ps.length) (h2 : k < qs.length) (e : partEq ps[k] qs[k] = true) : ps.take (k + 1) = qs.take (k + 1) := by
 rw [partEq_dec, decide_eq_true_eq] at e
 rw [List.take_succ_eq_append_getElem h1, List.take_succ_eq_append_getElem h2, h, e]
theorem part_no {ps qs : List Part} {k : Nat} (h1 : k < ps.length) (h2 : k < qs.length) (e : partEq ps[k] qs[k] = false) : decide ((⟨ps⟩ : Pth) = ⟨qs⟩) = false := by
 rw [partEq_dec, decide_eq_false_iff_not] at e
 rw [decide_eq_false_iff_not]
 intro h
 cases h
 exact e rfl
def pktEq (x y : Pkt) : Bool := (x.kind == y.kind) && (x.src == y.src) && (x.dst == y.dst) && decide (x.path = y.path) && (x.pi == y.pi) && (x.hi == y.hi) && (x.beta == y.beta) && (x.rid == y.rid) && (x.seq == y.seq) && decide (x.pay = y.pay)
def vdEq (a b : Vd) : Bool := (a.code == b.code) && (a.eg == b.eg) && pktEq a.pkt b.pkt
theorem pktEq_self (x : Pkt) : pktEq x x = true := by unfold pktEq; simp
theorem vdEq_self (x : Vd) : vdEq x x = true := by unfold vdEq; rw [pktEq_self]; simp
theorem str_inj : ∀ {a b : List Int}, (∀ x ∈ a, U8 x) → (∀ x ∈ b, U8 x) → a.map (fun n => UInt8.ofNat n.toNat) = b.map (fun n => UInt8.ofNat n.toNat) → a = b
 | [], [], _, _, _ => rfl
 | [], y :: b, _, _, h => by simp at h
 | x :: a, [], _, _, h => by simp at h
 | x :: a, y :: b, ha, hb, h => by
  simp only [List.map_cons, List.cons.injEq] at h
  have h1 := ha x (by simp)
  have h2 := hb y (by simp)
  unfold U8 at h1 h2
  have h3 := congrArg UInt8.toNat h.1
  simp only [UInt8.toNat_ofNat'] at h3
  have e : x = y := by omega
  rw [e, str_inj (fun z hz => ha z (by simp [hz])) (fun z hz => hb z (by simp [hz])) h.2]
theorem str_dec {a b : List Int} (ha : ∀ x ∈ a, U8 x) (hb : ∀ x ∈ b, U8 x) : ((strOfNums a).toList == (strOfNums b).toList) = decide (a = b) := by
 rw [ByteArray.toList_eq, ByteArray.toList_eq, strOfNums_data, strOfNums_data, Bool.eq_iff_iff, beq_iff_eq, decide_eq_true_eq]
 exact ⟨str_inj ha hb, by rintro rfl; rfl⟩
/-- string(bytes): the row's cells as a text. -/
theorem conv_rowE {w : World} {o : Option Addr} {cap : Nat} {l : List Int} (h : RdS Rep.byte w (.slice o l.length cap) l) : (convert 22 9 (.slice o l.length cap)).run Tryz.prog w = .ok (.string (strOfNums l)) w := by
 have hl0 : l.length = 0 ∨ 0 < l.length := by omega
 rcases hl0 with hl | hl
 ·
  obtain rfl := List.eq_nil_of_length_eq_zero hl
  cases o with
  | none => exact run_convert_bytes_nil w 22 5 Tryz.underlying22 Tryz.underlying5 0 cap _ Tryz.underlying9
  | some p =>
   show (convert 22 9 (.slice (some p) 0 cap)).run Tryz.prog w = _
   rw [run_convert_bytes_string w 22 9 5 _ 0 cap Tryz.underlying22 Tryz.underlying5 Tryz.underlying9, run_bytesToString w p 0 cap [] (by simpa using run_loadCells_list (P := Tryz.prog) w p [] (fun j v hj => by simp at hj)), foldl_push_bytes]
   simp [strOfNums, ByteArray.empty, ByteArray.emptyWithCapacity]
   rfl
 ·
  obtain ⟨b, off, rfl, _⟩ := bytes_at h 0 hl
  refine run_convert_bytes_arg w _ 5 Tryz.underlying22 Tryz.underlying5 b off l.length cap l rfl (fun i hi => ?_) _ Tryz.underlying9
  obtain ⟨b2, off2, e, hc⟩ := bytes_at h i hi
  cases e
  rw [hc, List.getD_eq_getElem?_getD, List.getElem?_eq_getElem hi]
  rfl


set_option maxRecDepth 100000 in
set_option maxHeartbeats 4000000 in
theorem l_samePathF (x y : Pth) (va vb : Value) (w : World) (ra : RdS Part.rep w va x.parts) (rb : RdS Part.rep w vb y.parts) :
  Calls Tryz.prog 92 #[.agg #[va], .agg #[vb]] w fun e w' => e = .returned (.bool (decide (x = y))) ∧ Ext w w' := by
 obtain ⟨ps⟩ := x
 obtain ⟨qs⟩ := y
 dsimp only at ra rb ⊢
 obtain ⟨oa, ca, rfl, hsa⟩ := ra.shape
 obtain ⟨ob, cb, rfl, hsb⟩ := rb.shape
 have hx0 := ext2 w (.cells #[.slice oa ps.length ca] 35) (.cells #[.slice ob qs.length cb] 35)
 have HB0 := Lib.hid (al2 w (.cells #[.slice oa ps.length ca] 35) (.cells #[.slice ob qs.length cb] 35))
 by_cases hne : ps.length = qs.length
 ·
  go_enter Tryz.func92, Tryz.ntmps92
  have t1 : ((ps.length : Int) != (qs.length : Int)) = false := by simp [hne]
  have HNE := Lib.hid hne
  clear hne
  have cf1 := blk1 HB0.out.1
  have cf2 := blk1 HB0.out.2
  go_wp2_with fail
  clear t1
  go_loopg [5] ps.length (fun gk i wr => ∃ k : Nat, gk + k = ps.length ∧ i = .int .i64 k ∧ Hid (ps.take k = qs.take k) ∧ Ext ((w.alloc (.cells #[.slice oa ps.length ca] 35)).alloc (.cells #[.slice ob qs.length cb] 35)) wr)
  case atStart => exact ⟨0, by omega, rfl, Lib.hid rfl, Ext.refl _⟩
  case round =>
   obtain ⟨k, hgk, rfl, HT, hx⟩ := hrel
   have HGK := Lib.hid hgk
   clear hgk
   by_cases hlt : k < ps.length
   ·
    have hlu : k < qs.length := by rw [← HNE.out]; exact hlt
    have hlt2 : (k : Int) < (ps.length : Int) := by omega
    have hlu2 : (k : Int) < (qs.length : Int) := by omega
    obtain ⟨b1, off1, o1, c1, rfl, hc1, hr1⟩ := Part.at (ra.ext (hx0.trans hx)) k hlt
    obtain ⟨b2, off2, o2, c2, rfl, hc2, hr2⟩ := Part.at (rb.ext (hx0.trans hx)) k hlu
    obtain ⟨x, hpx⟩ : ∃ x, x = ps[k] := ⟨_, rfl⟩
    obtain ⟨y, hqy⟩ : ∃ y, y = qs[k] := ⟨_, rfl⟩
    rw [← hpx] at hc1 hr1
    rw [← hqy] at hc2 hr2
    have HPX := Lib.hid hpx
    have HQY := Lib.hid hqy
    clear hpx hqy
    try clear cf1
    try clear cf2
    have cf3 := blk1 (Ext.block hx HB0.out.1)
    have cf4 := blk1 (Ext.block hx HB0.out.2)
    go_wp2_with fail
    go_wp2_with fail
    refine planStep (.blk [0, 1, 2, 3, 4, 5, 6, 7, 8, 9] (.one 10 (.blk [11] .done))) [] (by kernel_rfl) (by kernel_rfl) ?_
    try clear cf3
    try clear cf4
    have cf5 := blk1 (Ext.block (hx.trans ((Ext.refl _).drew)) HB0.out.1)
    have cf6 := blk1 (Ext.block (hx.trans ((Ext.refl _).drew)) HB0.out.2)
    have cf7 := cells4_ext ((Ext.refl _).drew) hc1
    have cf8 := cells4_ext ((Ext.refl _).drew) hc2
    refine blkStep (fun K HK => ?_)
    simp only [PK]
    go_wp2_with fail
    refine HK.out _ _ ?_
    clear HK K
    refine oneStep (fun K HK => ?_)
    simp only [PK]
    go_wp2_with fail
    refine (l_samePart x y _ _ _ (hr1.ext ((Ext.refl _).drew)) (hr2.ext ((Ext.refl _).drew))).mono ?_
    rintro e w1 ⟨rfl, hz1⟩
    obtain ⟨bq, hbq⟩ : ∃ b, b = partEq x y := ⟨_, rfl⟩
    rw [← hbq]
    have HBQ := Lib.hid hbq
    clear hbq
    try clear cf5
    try clear cf6
    try clear cf7
    try clear cf8
    have cf9 := blk1 (Ext.block ((hx.trans ((Ext.refl _).drew)).trans hz1) HB0.out.1)
    have cf10 := blk1 (Ext.block ((hx.trans ((Ext.refl _).drew)).trans hz1) HB0.out.2)
    have cf11 := cells4_ext (((Ext.refl _).drew).trans hz1) hc1
    have cf12 := cells4_ext (((Ext.refl _).drew).trans hz1) hc2
    go_wp2_with fail
    refine HK.out _ _ hz1 ?_
    clear HK K
    refine blkStep (fun K HK => ?_)
    simp only [PK]
    go_wp2_with fail
    refine HK.out _ _ ?_
    clear HK K
    refine doneStep (by kernel_rfl) ?_
    cases bq
    case false =>
     have HE := Lib.hid (part_no hlt hlu (by rw [← HPX.out, ← HQY.out]; exact HBQ.out.symm))
     go_wp2_with fail
     go_ret
     exact ⟨ret_bool HE.out.symm, (((hx0.trans hx).trans ((Ext.refl _).drew)).trans hz1)⟩
    case true =>
     have HN := Lib.hid (part_take HT.out hlt hlu (by rw [← HPX.out, ← HQY.out]; exact HBQ.out.symm))
     go_wp2_with fail
     go_roundg (gk - 1)
     case measure => have h2 := HGK.out; omega
     case rel => exact ⟨k + 1, by have h2 := HGK.out; omega, congrArg (Value.int .i64) (by first | omega | (unfold wrap64; omega)), HN, ((hx.trans ((Ext.refl _).drew)).trans hz1)⟩
   ·
    have hge : ¬ (k : Int) < (ps.length : Int) := by omega
    have HE : Hid (decide ((⟨ps⟩ : Pth) = ⟨qs⟩) = true) := Lib.hid (by
     have h1 := HT.out
     rw [List.take_of_length_le (by omega), List.take_of_length_le (by rw [← HNE.out]; omega)] at h1
     rw [h1]; simp)
    have HE2 : Hid (decide (ps = qs) = true) := Lib.hid (by
     have h1 := HE.out
     simp only [Pth.mk.injEq] at h1
     exact h1)
    try clear cf1
    try clear cf2
    have cf13 := blk1 (Ext.block hx HB0.out.1)
    have cf14 := blk1 (Ext.block hx HB0.out.2)
    go_wp2_with fail
    go_ret
    exact ⟨ret_bool (by first | exact HE.out.symm | exact HE2.out.symm), (hx0.trans hx)⟩
 ·
  have t1 : ((ps.length : Int) != (qs.length : Int)) = true := by simp [bne_iff_ne]; omega
  have HE : Hid (decide ((⟨ps⟩ : Pth) = ⟨qs⟩) = false) := Lib.hid (by rw [decide_eq_false_iff_not]; intro h; cases h; exact hne rfl)
  clear hne
  go_enter Tryz.func92, Tryz.ntmps92
  have cf15 := blk1 HB0.out.1
  have cf16 := blk1 HB0.out.2
  go_wp2_with fail
  go_ret
  exact ⟨ret_bool HE.out.symm, hx0⟩






end Go.Proofs.YtcpfmhgfaliemaaGreat
