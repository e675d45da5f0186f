/- What these laws need: FnForwards: Comparisons of paths, packets and verdicts, program and laws. -/
import Derived.Laws.BytesArg
import Derived.Test.YtcpfmhgfaliemaaGreatKF17
namespace Go.Proofs.YtcpfmhgfaliemaaGreat
section
open Go.ChangeShapes Go.WideShapes Go.ChangeAt Go.RowKit Go.Deep
theorem partEq_dec (x y : Part) : partEq x y = decide (x = y) := by
 obtain ⟨a, b, c, d⟩ := x; obtain ⟨a', b', c', d'⟩ := y; unfold partEq; rw [Bool.eq_iff_iff]
 simp [and_assoc]
theorem part_take {ps qs : List Part} {k : Nat} (h : ps.take k = qs.take k) (h1 : k < ps.length) (h2 : k < qs.length) (e : partEq ps[k] qs[k] = true) : ps.take (k + 1) = qs.take (k + 1) := by
 rw [partEq_dec, decide_eq_true_eq] at e; rw [List.take_succ_eq_append_getElem h1, List.take_succ_eq_append_getElem h2, h, e]
theorem part_no {ps qs : List Part} {k : Nat} (h1 : k < ps.length) (h2 : k < qs.length) (e : partEq ps[k] qs[k] = false) : decide ((⟨ps⟩ : Pth) = ⟨qs⟩) = false := by
 rw [partEq_dec, decide_eq_false_iff_not] at e; rw [decide_eq_false_iff_not]; intro h
 cases h
 exact e rfl
def pktEq (x y : Pkt) : Bool := (x.kind == y.kind) && (x.src == y.src) && (x.dst == y.dst) && decide (x.path = y.path) && (x.pi == y.pi) && (x.hi == y.hi) && (x.beta == y.beta) && (x.rid == y.rid) && (x.seq == y.seq) && decide (x.pay = y.pay)
def vdEq (a b : Vd) : Bool := (a.code == b.code) && (a.eg == b.eg) && pktEq a.pkt b.pkt
theorem pktEq_self (x : Pkt) : pktEq x x = true := by unfold pktEq; simp
theorem vdEq_self (x : Vd) : vdEq x x = true := by unfold vdEq; rw [pktEq_self]; simp
theorem str_inj : ∀ {a b : List Int}, (∀ x ∈ a, U8 x) → (∀ x ∈ b, U8 x) → a.map (fun n => UInt8.ofNat n.toNat) = b.map (fun n => UInt8.ofNat n.toNat) → a = b
 | [], [], _, _, _ => rfl
 | [], y :: b, _, _, h => by simp at h
 | x :: a, [], _, _, h => by simp at h
 | x :: a, y :: b, ha, hb, h => by
  simp only [List.map_cons, List.cons.injEq] at h; have h1 := ha x (by simp); have h2 := hb y (by simp); unfold U8 at h1 h2; have h3 := congrArg UInt8.toNat h.1; simp only [UInt8.toNat_ofNat'] at h3; have e : x = y := by omega
  rw [e, str_inj (fun z hz => ha z (by simp [hz])) (fun z hz => hb z (by simp [hz])) h.2]
theorem str_dec {a b : List Int} (ha : ∀ x ∈ a, U8 x) (hb : ∀ x ∈ b, U8 x) : ((strOfNums a).toList == (strOfNums b).toList) = decide (a = b) := by
 rw [ByteArray.toList_eq, ByteArray.toList_eq, strOfNums_data, strOfNums_data, Bool.eq_iff_iff, beq_iff_eq, decide_eq_true_eq]; exact ⟨str_inj ha hb, by rintro rfl; rfl⟩
theorem conv_rowE {w : World} {o : Option Addr} {cap : Nat} {l : List Int} (h : RdS Rep.byte w (.slice o l.length cap) l) : (convert 22 9 (.slice o l.length cap)).run Tryz.prog w = .ok (.string (strOfNums l)) w := by
 have hl0 : l.length = 0 ∨ 0 < l.length := by omega
 rcases hl0 with hl | hl
 ·
  obtain rfl := List.eq_nil_of_length_eq_zero hl
  cases o with
  | none => exact run_convert_bytes_nil w 22 5 Tryz.underlying22 Tryz.underlying5 0 cap _ Tryz.underlying9
  | some p =>
   show (convert 22 9 (.slice (some p) 0 cap)).run Tryz.prog w = _
   rw [run_convert_bytes_string w 22 9 5 _ 0 cap Tryz.underlying22 Tryz.underlying5 Tryz.underlying9, run_bytesToString w p 0 cap [] (by simpa using run_loadCells_list (P := Tryz.prog) w p [] (fun j v hj => by simp at hj)), foldl_push_bytes]
   simp [strOfNums, ByteArray.empty, ByteArray.emptyWithCapacity]
   rfl
 ·
  obtain ⟨b, off, rfl, _⟩ := bytes_at h 0 hl; refine run_convert_bytes_arg w _ 5 Tryz.underlying22 Tryz.underlying5 b off l.length cap l rfl (fun i hi => ?_) _ Tryz.underlying9; obtain ⟨b2, off2, e, hc⟩ := bytes_at h i hi
  cases e
  rw [hc, List.getD_eq_getElem?_getD, List.getElem?_eq_getElem hi]; rfl
set_option maxRecDepth 100000 in
set_option maxHeartbeats 4000000 in
theorem i_EqualPaths (x y : Pth) (va vb : Value) (w : World) (ra : RdS Part.rep w va x.parts) (rb : RdS Part.rep w vb y.parts) :
  Calls Tryz.prog 191 #[.agg #[va], .agg #[vb]] w fun e w' => e = .returned (.bool (decide (x = y))) ∧ Ext w w' := by
 obtain ⟨ps⟩ := x; obtain ⟨qs⟩ := y; dsimp only at ra rb ⊢
 obtain ⟨oa, ca, rfl, hsa⟩ := ra.shape; obtain ⟨ob, cb, rfl, hsb⟩ := rb.shape; have hx0 := ext2 w (.cells #[.slice oa ps.length ca] 35) (.cells #[.slice ob qs.length cb] 35); have HB0 := Lib.hid (al2 w (.cells #[.slice oa ps.length ca] 35) (.cells #[.slice ob qs.length cb] 35))
 by_cases hne : ps.length = qs.length
 ·
  go_enter Tryz.func191, Tryz.ntmps191
  have t1 : ((ps.length : Int) != (qs.length : Int)) = false := by simp [hne]
  have HNE := Lib.hid hne; clear hne; have cf1 := blk1 HB0.out.1; have cf2 := blk1 HB0.out.2
  go_wp2_with fail
  clear t1
  go_loopg [16] ps.length (fun gk i wr => ∃ k : Nat, gk + k = ps.length ∧ i = .int .i64 k ∧ Hid (ps.take k = qs.take k) ∧ Ext ((w.alloc (.cells #[.slice oa ps.length ca] 35)).alloc (.cells #[.slice ob qs.length cb] 35)) wr)
  case atStart => exact ⟨0, by omega, rfl, Lib.hid rfl, Ext.refl _⟩
  case round =>
   obtain ⟨k, hgk, rfl, HT, hx⟩ := hrel; have HGK := Lib.hid hgk; clear hgk
   by_cases hlt : k < ps.length
   ·
    have hlu : k < qs.length := by rw [← HNE.out]; exact hlt
    have hlt2 : (k : Int) < (ps.length : Int) := by omega
    have hlu2 : (k : Int) < (qs.length : Int) := by omega
    obtain ⟨b1, off1, o1, c1, rfl, hc1, hr1⟩ := Part.at (ra.ext (hx0.t hx)) k hlt; obtain ⟨b2, off2, o2, c2, rfl, hc2, hr2⟩ := Part.at (rb.ext (hx0.t hx)) k hlu
    obtain ⟨x, hpx⟩ : ∃ x, x = ps[k] := ⟨_, rfl⟩
    obtain ⟨y, hqy⟩ : ∃ y, y = qs[k] := ⟨_, rfl⟩
    rw [← hpx] at hc1 hr1; rw [← hqy] at hc2 hr2; have HPX := Lib.hid hpx; have HQY := Lib.hid hqy; clear hpx hqy
    try clear cf1
    try clear cf2
    have cf3 := blk1 (Ext.block hx HB0.out.1); have cf4 := blk1 (Ext.block hx HB0.out.2)
    go_wp2_with fail
    go_wp2_with fail
    refine planStep (.blk [0, 1, 2, 3, 4, 5, 6, 7, 8, 9] (.one 10 (.blk [11] .done))) [] (by kernel_rfl) (by kernel_rfl) ?_
    try clear cf3
    try clear cf4
    have cf5 := blk1 (Ext.block (hx.t ((Ext.refl _).drew)) HB0.out.1); have cf6 := blk1 (Ext.block (hx.t ((Ext.refl _).drew)) HB0.out.2); have cf7 := cells4_ext ((Ext.refl _).drew) hc1; have cf8 := cells4_ext ((Ext.refl _).drew) hc2; refine blkStep (fun K HK => ?_); simp only [PK]
    go_wp2_with fail
    refine HK.out _ _ ?_; clear HK K; refine oneStep (fun K HK => ?_); simp only [PK]
    go_wp2_with fail
    refine (i_EqualParts x y _ _ _ (hr1.ext ((Ext.refl _).drew)) (hr2.ext ((Ext.refl _).drew))).mono ?_; rintro e w1 ⟨rfl, hz1⟩
    obtain ⟨bq, hbq⟩ : ∃ b, b = partEq x y := ⟨_, rfl⟩
    rw [← hbq]; have HBQ := Lib.hid hbq; clear hbq
    try clear cf5
    try clear cf6
    try clear cf7
    try clear cf8
    have cf9 := blk1 (Ext.block ((hx.t ((Ext.refl _).drew)).t hz1) HB0.out.1); have cf10 := blk1 (Ext.block ((hx.t ((Ext.refl _).drew)).t hz1) HB0.out.2); have cf11 := cells4_ext (((Ext.refl _).drew).t hz1) hc1; have cf12 := cells4_ext (((Ext.refl _).drew).t hz1) hc2
    go_wp2_with fail
    refine HK.out _ _ hz1 ?_; clear HK K; refine blkStep (fun K HK => ?_); simp only [PK]
    go_wp2_with fail
    refine HK.out _ _ ?_; clear HK K; refine doneStep (by kernel_rfl) ?_
    cases bq
    case false =>
     have HE := Lib.hid (part_no hlt hlu (by rw [← HPX.out, ← HQY.out]; exact HBQ.out.symm))
     go_wp2_with fail
     go_ret
     exact ⟨ret_bool HE.out.symm, (((hx0.t hx).t ((Ext.refl _).drew)).t hz1)⟩
    case true =>
     have HN := Lib.hid (part_take HT.out hlt hlu (by rw [← HPX.out, ← HQY.out]; exact HBQ.out.symm))
     go_wp2_with fail
     go_roundg (gk - 1)
     case measure => have h2 := HGK.out; omega
     case rel => exact ⟨k + 1, by have h2 := HGK.out; omega, congrArg (Value.int .i64) (by first | omega | (unfold wrap64; omega)), HN, ((hx.t ((Ext.refl _).drew)).t hz1)⟩
   ·
    have hge : ¬ (k : Int) < (ps.length : Int) := by omega
    have HE : Hid (decide ((⟨ps⟩ : Pth) = ⟨qs⟩) = true) := Lib.hid (by
     have h1 := HT.out; rw [List.take_of_length_le (by omega), List.take_of_length_le (by rw [← HNE.out]; omega)] at h1
     rw [h1]; simp)
    have HE2 : Hid (decide (ps = qs) = true) := Lib.hid (by
     have h1 := HE.out; simp only [Pth.mk.injEq] at h1
     exact h1)
    try clear cf1
    try clear cf2
    have cf13 := blk1 (Ext.block hx HB0.out.1); have cf14 := blk1 (Ext.block hx HB0.out.2)
    go_wp2_with fail
    go_ret
    exact ⟨ret_bool (by first | exact HE.out.symm | exact HE2.out.symm), (hx0.t hx)⟩
 ·
  have t1 : ((ps.length : Int) != (qs.length : Int)) = true := by simp [bne_iff_ne]; omega
  have HE : Hid (decide ((⟨ps⟩ : Pth) = ⟨qs⟩) = false) := Lib.hid (by rw [decide_eq_false_iff_not]; intro h; cases h; exact hne rfl); clear hne
  go_enter Tryz.func191, Tryz.ntmps191
  have cf15 := blk1 HB0.out.1; have cf16 := blk1 HB0.out.2
  go_wp2_with fail
  go_ret
  exact ⟨ret_bool HE.out.symm, hx0⟩
set_option maxRecDepth 100000 in
set_option maxHeartbeats 4000000 in
theorem l_samePathF (x y : Pth) (va vb : Value) (w : World) (ra : RdS Part.rep w va x.parts) (rb : RdS Part.rep w vb y.parts) :
  Calls Tryz.prog 92 #[.agg #[va], .agg #[vb]] w fun e w' => e = .returned (.bool (decide (x = y))) ∧ Ext w w' := by
 obtain ⟨ps⟩ := x; obtain ⟨qs⟩ := y; dsimp only at ra rb ⊢
 obtain ⟨oa, ca, rfl, hsa⟩ := ra.shape; obtain ⟨ob, cb, rfl, hsb⟩ := rb.shape; have hx0 := ext2 w (.cells #[.slice oa ps.length ca] 35) (.cells #[.slice ob qs.length cb] 35); have HB0 := Lib.hid (al2 w (.cells #[.slice oa ps.length ca] 35) (.cells #[.slice ob qs.length cb] 35))
 by_cases hne : ps.length = qs.length
 ·
  go_enter Tryz.func92, Tryz.ntmps92
  have t1 : ((ps.length : Int) != (qs.length : Int)) = false := by simp [hne]
  have HNE := Lib.hid hne; clear hne; have cf1 := blk1 HB0.out.1; have cf2 := blk1 HB0.out.2
  go_wp2_with fail
  clear t1
  go_loopg [5] ps.length (fun gk i wr => ∃ k : Nat, gk + k = ps.length ∧ i = .int .i64 k ∧ Hid (ps.take k = qs.take k) ∧ Ext ((w.alloc (.cells #[.slice oa ps.length ca] 35)).alloc (.cells #[.slice ob qs.length cb] 35)) wr)
  case atStart => exact ⟨0, by omega, rfl, Lib.hid rfl, Ext.refl _⟩
  case round =>
   obtain ⟨k, hgk, rfl, HT, hx⟩ := hrel; have HGK := Lib.hid hgk; clear hgk
   by_cases hlt : k < ps.length
   ·
    have hlu : k < qs.length := by rw [← HNE.out]; exact hlt
    have hlt2 : (k : Int) < (ps.length : Int) := by omega
    have hlu2 : (k : Int) < (qs.length : Int) := by omega
    obtain ⟨b1, off1, o1, c1, rfl, hc1, hr1⟩ := Part.at (ra.ext (hx0.t hx)) k hlt; obtain ⟨b2, off2, o2, c2, rfl, hc2, hr2⟩ := Part.at (rb.ext (hx0.t hx)) k hlu
    obtain ⟨x, hpx⟩ : ∃ x, x = ps[k] := ⟨_, rfl⟩
    obtain ⟨y, hqy⟩ : ∃ y, y = qs[k] := ⟨_, rfl⟩
    rw [← hpx] at hc1 hr1; rw [← hqy] at hc2 hr2; have HPX := Lib.hid hpx; have HQY := Lib.hid hqy; clear hpx hqy
    try clear cf1
    try clear cf2
    have cf3 := blk1 (Ext.block hx HB0.out.1); have cf4 := blk1 (Ext.block hx HB0.out.2)
    go_wp2_with fail
    go_wp2_with fail
    refine planStep (.blk [0, 1, 2, 3, 4, 5, 6, 7, 8, 9] (.one 10 (.blk [11] .done))) [] (by kernel_rfl) (by kernel_rfl) ?_
    try clear cf3
    try clear cf4
    have cf5 := blk1 (Ext.block (hx.t ((Ext.refl _).drew)) HB0.out.1); have cf6 := blk1 (Ext.block (hx.t ((Ext.refl _).drew)) HB0.out.2); have cf7 := cells4_ext ((Ext.refl _).drew) hc1; have cf8 := cells4_ext ((Ext.refl _).drew) hc2; refine blkStep (fun K HK => ?_); simp only [PK]
    go_wp2_with fail
    refine HK.out _ _ ?_; clear HK K; refine oneStep (fun K HK => ?_); simp only [PK]
    go_wp2_with fail
    refine (l_samePart x y _ _ _ (hr1.ext ((Ext.refl _).drew)) (hr2.ext ((Ext.refl _).drew))).mono ?_; rintro e w1 ⟨rfl, hz1⟩
    obtain ⟨bq, hbq⟩ : ∃ b, b = partEq x y := ⟨_, rfl⟩
    rw [← hbq]; have HBQ := Lib.hid hbq; clear hbq
    try clear cf5
    try clear cf6
    try clear cf7
    try clear cf8
    have cf9 := blk1 (Ext.block ((hx.t ((Ext.refl _).drew)).t hz1) HB0.out.1); have cf10 := blk1 (Ext.block ((hx.t ((Ext.refl _).drew)).t hz1) HB0.out.2); have cf11 := cells4_ext (((Ext.refl _).drew).t hz1) hc1; have cf12 := cells4_ext (((Ext.refl _).drew).t hz1) hc2
    go_wp2_with fail
    refine HK.out _ _ hz1 ?_; clear HK K; refine blkStep (fun K HK => ?_); simp only [PK]
    go_wp2_with fail
    refine HK.out _ _ ?_; clear HK K; refine doneStep (by kernel_rfl) ?_
    cases bq
    case false =>
     have HE := Lib.hid (part_no hlt hlu (by rw [← HPX.out, ← HQY.out]; exact HBQ.out.symm))
     go_wp2_with fail
     go_ret
     exact ⟨ret_bool HE.out.symm, (((hx0.t hx).t ((Ext.refl _).drew)).t hz1)⟩
    case true =>
     have HN := Lib.hid (part_take HT.out hlt hlu (by rw [← HPX.out, ← HQY.out]; exact HBQ.out.symm))
     go_wp2_with fail
     go_roundg (gk - 1)
     case measure => have h2 := HGK.out; omega
     case rel => exact ⟨k + 1, by have h2 := HGK.out; omega, congrArg (Value.int .i64) (by first | omega | (unfold wrap64; omega)), HN, ((hx.t ((Ext.refl _).drew)).t hz1)⟩
   ·
    have hge : ¬ (k : Int) < (ps.length : Int) := by omega
    have HE : Hid (decide ((⟨ps⟩ : Pth) = ⟨qs⟩) = true) := Lib.hid (by
     have h1 := HT.out; rw [List.take_of_length_le (by omega), List.take_of_length_le (by rw [← HNE.out]; omega)] at h1
     rw [h1]; simp)
    have HE2 : Hid (decide (ps = qs) = true) := Lib.hid (by
     have h1 := HE.out; simp only [Pth.mk.injEq] at h1
     exact h1)
    try clear cf1
    try clear cf2
    have cf13 := blk1 (Ext.block hx HB0.out.1); have cf14 := blk1 (Ext.block hx HB0.out.2)
    go_wp2_with fail
    go_ret
    exact ⟨ret_bool (by first | exact HE.out.symm | exact HE2.out.symm), (hx0.t hx)⟩
 ·
  have t1 : ((ps.length : Int) != (qs.length : Int)) = true := by simp [bne_iff_ne]; omega
  have HE : Hid (decide ((⟨ps⟩ : Pth) = ⟨qs⟩) = false) := Lib.hid (by rw [decide_eq_false_iff_not]; intro h; cases h; exact hne rfl); clear hne
  go_enter Tryz.func92, Tryz.ntmps92
  have cf15 := blk1 HB0.out.1; have cf16 := blk1 HB0.out.2
  go_wp2_with fail
  go_ret
  exact ⟨ret_bool HE.out.symm, hx0⟩
set_option maxHeartbeats 1000000 in
theorem i_EqualBytes (a b : List Int) (va vb : Value) (w : World) (ra : RdS Rep.byte w va a) (rb : RdS Rep.byte w vb b) (ha : ∀ x ∈ a, U8 x) (hb : ∀ x ∈ b, U8 x) :
  Calls Tryz.prog 192 #[va, vb] w fun e w' => e = .returned (.bool (decide (a = b))) ∧ w = w' := by
 have HE := Lib.hid (str_dec ha hb); obtain ⟨oa, ca, rfl, _⟩ := ra.shape; obtain ⟨ob, cb, rfl, _⟩ := rb.shape; have k1 := conv_rowE ra; have k2 := conv_rowE rb
 go_enter Tryz.func192, Tryz.ntmps192
 go_wp2_with fail
 go_ret
 exact ⟨ret_bool HE.out, rfl⟩
set_option maxRecDepth 100000 in
set_option maxHeartbeats 8000000 in
theorem i_EqualPackets (x y : Pkt) (va ua vb ub : Value) (w : World) (ra : RdS Part.rep w va x.path.parts) (ya : RdS Rep.byte w ua x.pay) (rb : RdS Part.rep w vb y.path.parts) (yb : RdS Rep.byte w ub y.pay) (ux : ∀ b ∈ x.pay, U8 b) (uy : ∀ b ∈ y.pay, U8 b) :
  Calls Tryz.prog 119 #[.agg #[.int .i64 x.kind, .int .i64 x.src, .int .i64 x.dst, va, .int .i64 x.pi, .int .i64 x.hi, .int .i64 x.beta, .int .i64 x.rid, .int .i64 x.seq, ua], .agg #[.int .i64 y.kind, .int .i64 y.src, .int .i64 y.dst, vb, .int .i64 y.pi, .int .i64 y.hi, .int .i64 y.beta, .int .i64 y.rid, .int .i64 y.seq, ub]] w fun e w' => e = .returned (.bool (pktEq x y)) ∧ Ext w w' := by
 obtain ⟨oa, ca, rfl, _⟩ := ra.shape; obtain ⟨ob, cb, rfl, _⟩ := rb.shape; obtain ⟨qa, da, rfl, _⟩ := ya.shape; obtain ⟨qb, db, rfl, _⟩ := yb.shape; have hpe : pktEq x y = ((x.kind == y.kind) && (x.src == y.src) && (x.dst == y.dst) && decide (x.path = y.path) && (x.pi == y.pi) && (x.hi == y.hi) && (x.beta == y.beta) && (x.rid == y.rid) && (x.seq == y.seq) && decide (x.pay = y.pay)) := rfl; have HPE := Lib.hid hpe; clear hpe; have hx0 := ext2 w (.cells #[.int .i64 x.kind, .int .i64 x.src, .int .i64 x.dst, .slice oa x.path.parts.length ca, .int .i64 x.pi, .int .i64 x.hi, .int .i64 x.beta, .int .i64 x.rid, .int .i64 x.seq, .slice qa x.pay.length da] 58) (.cells #[.int .i64 y.kind, .int .i64 y.src, .int .i64 y.dst, .slice ob y.path.parts.length cb, .int .i64 y.pi, .int .i64 y.hi, .int .i64 y.beta, .int .i64 y.rid, .int .i64 y.seq, .slice qb y.pay.length db] 58); have HB0 := Lib.hid (al2 w (.cells #[.int .i64 x.kind, .int .i64 x.src, .int .i64 x.dst, .slice oa x.path.parts.length ca, .int .i64 x.pi, .int .i64 x.hi, .int .i64 x.beta, .int .i64 x.rid, .int .i64 x.seq, .slice qa x.pay.length da] 58) (.cells #[.int .i64 y.kind, .int .i64 y.src, .int .i64 y.dst, .slice ob y.path.parts.length cb, .int .i64 y.pi, .int .i64 y.hi, .int .i64 y.beta, .int .i64 y.rid, .int .i64 y.seq, .slice qb y.pay.length db] 58))
 go_enter Tryz.func119, Tryz.ntmps119
 cases e0 : (x.kind == y.kind)
 ·
  have cf1 := blk10 HB0.out.1; have cf2 := blk10 HB0.out.2
  go_wp2_with fail
  go_ret
  exact ⟨ret_bool (by rw [HPE.out, e0]; rfl), hx0⟩
 ·
  cases e1 : (x.src == y.src)
  ·
   have cf3 := blk10 HB0.out.1; have cf4 := blk10 HB0.out.2
   go_wp2_with fail
   go_ret
   exact ⟨ret_bool (by rw [HPE.out, e0, e1]; rfl), hx0⟩
  ·
   cases e2 : (x.dst == y.dst)
   ·
    have cf5 := blk10 HB0.out.1; have cf6 := blk10 HB0.out.2
    go_wp2_with fail
    go_ret
    exact ⟨ret_bool (by rw [HPE.out, e0, e1, e2]; rfl), hx0⟩
   ·
    have cf7 := blk10 HB0.out.1; have cf8 := blk10 HB0.out.2
    go_wp2_with fail
    refine (i_EqualPaths x.path y.path _ _ _ (ra.ext hx0) (rb.ext hx0)).mono ?_; rintro e w1 ⟨rfl, hz1⟩
    obtain ⟨b3, hb3⟩ : ∃ b, b = decide (x.path = y.path) := ⟨_, rfl⟩
    rw [← hb3]; have E3 := Lib.hid hb3.symm; clear hb3
    cases b3
    case false =>
     try clear cf7
     try clear cf8
     have cf9 := blk10 (Ext.block hz1 HB0.out.1); have cf10 := blk10 (Ext.block hz1 HB0.out.2)
     go_wp2_with fail
     go_ret
     exact ⟨ret_bool (by rw [HPE.out, e0, e1, e2, E3.out]; rfl), (hx0.t hz1)⟩
    case true =>
     cases e4 : (x.pi == y.pi)
     ·
      try clear cf7
      try clear cf8
      have cf11 := blk10 (Ext.block hz1 HB0.out.1); have cf12 := blk10 (Ext.block hz1 HB0.out.2)
      go_wp2_with fail
      go_ret
      exact ⟨ret_bool (by rw [HPE.out, e0, e1, e2, E3.out, e4]; rfl), (hx0.t hz1)⟩
     ·
      cases e5 : (x.hi == y.hi)
      ·
       try clear cf7
       try clear cf8
       have cf13 := blk10 (Ext.block hz1 HB0.out.1); have cf14 := blk10 (Ext.block hz1 HB0.out.2)
       go_wp2_with fail
       go_ret
       exact ⟨ret_bool (by rw [HPE.out, e0, e1, e2, E3.out, e4, e5]; rfl), (hx0.t hz1)⟩
      ·
       cases e6 : (x.beta == y.beta)
       ·
        try clear cf7
        try clear cf8
        have cf15 := blk10 (Ext.block hz1 HB0.out.1); have cf16 := blk10 (Ext.block hz1 HB0.out.2)
        go_wp2_with fail
        go_ret
        exact ⟨ret_bool (by rw [HPE.out, e0, e1, e2, E3.out, e4, e5, e6]; rfl), (hx0.t hz1)⟩
       ·
        cases e7 : (x.rid == y.rid)
        ·
         try clear cf7
         try clear cf8
         have cf17 := blk10 (Ext.block hz1 HB0.out.1); have cf18 := blk10 (Ext.block hz1 HB0.out.2)
         go_wp2_with fail
         go_ret
         exact ⟨ret_bool (by rw [HPE.out, e0, e1, e2, E3.out, e4, e5, e6, e7]; rfl), (hx0.t hz1)⟩
        ·
         cases e8 : (x.seq == y.seq)
         ·
          try clear cf7
          try clear cf8
          have cf19 := blk10 (Ext.block hz1 HB0.out.1); have cf20 := blk10 (Ext.block hz1 HB0.out.2)
          go_wp2_with fail
          go_ret
          exact ⟨ret_bool (by rw [HPE.out, e0, e1, e2, E3.out, e4, e5, e6, e7, e8]; rfl), (hx0.t hz1)⟩
         ·
          try clear cf7
          try clear cf8
          have cf21 := blk10 (Ext.block hz1 HB0.out.1); have cf22 := blk10 (Ext.block hz1 HB0.out.2)
          go_wp2_with fail
          refine (i_EqualBytes x.pay y.pay _ _ _ (ya.ext (hx0.t hz1)) (yb.ext (hx0.t hz1)) ux uy).mono ?_; rintro e _ ⟨rfl, rfl⟩
          go_wp2_with fail
          go_ret
          exact ⟨ret_bool (by rw [HPE.out, e0, e1, e2, E3.out, e4, e5, e6, e7, e8]; rfl), (hx0.t hz1)⟩
set_option maxRecDepth 100000 in
set_option maxHeartbeats 8000000 in
theorem l_samePacketF (x y : Pkt) (va ua vb ub : Value) (w : World) (ra : RdS Part.rep w va x.path.parts) (ya : RdS Rep.byte w ua x.pay) (rb : RdS Part.rep w vb y.path.parts) (yb : RdS Rep.byte w ub y.pay)  :
  Calls Tryz.prog 42 #[.agg #[.int .i64 x.kind, .int .i64 x.src, .int .i64 x.dst, va, .int .i64 x.pi, .int .i64 x.hi, .int .i64 x.beta, .int .i64 x.rid, .int .i64 x.seq, ua], .agg #[.int .i64 y.kind, .int .i64 y.src, .int .i64 y.dst, vb, .int .i64 y.pi, .int .i64 y.hi, .int .i64 y.beta, .int .i64 y.rid, .int .i64 y.seq, ub]] w fun e w' => e = .returned (.bool (pktEq x y)) ∧ Ext w w' := by
 obtain ⟨oa, ca, rfl, _⟩ := ra.shape; obtain ⟨ob, cb, rfl, _⟩ := rb.shape; obtain ⟨qa, da, rfl, _⟩ := ya.shape; obtain ⟨qb, db, rfl, _⟩ := yb.shape; have hpe : pktEq x y = ((x.kind == y.kind) && (x.src == y.src) && (x.dst == y.dst) && decide (x.path = y.path) && (x.pi == y.pi) && (x.hi == y.hi) && (x.beta == y.beta) && (x.rid == y.rid) && (x.seq == y.seq) && decide (x.pay = y.pay)) := rfl; have HPE := Lib.hid hpe; clear hpe; have hx0 := ext2 w (.cells #[.int .i64 x.kind, .int .i64 x.src, .int .i64 x.dst, .slice oa x.path.parts.length ca, .int .i64 x.pi, .int .i64 x.hi, .int .i64 x.beta, .int .i64 x.rid, .int .i64 x.seq, .slice qa x.pay.length da] 58) (.cells #[.int .i64 y.kind, .int .i64 y.src, .int .i64 y.dst, .slice ob y.path.parts.length cb, .int .i64 y.pi, .int .i64 y.hi, .int .i64 y.beta, .int .i64 y.rid, .int .i64 y.seq, .slice qb y.pay.length db] 58); have HB0 := Lib.hid (al2 w (.cells #[.int .i64 x.kind, .int .i64 x.src, .int .i64 x.dst, .slice oa x.path.parts.length ca, .int .i64 x.pi, .int .i64 x.hi, .int .i64 x.beta, .int .i64 x.rid, .int .i64 x.seq, .slice qa x.pay.length da] 58) (.cells #[.int .i64 y.kind, .int .i64 y.src, .int .i64 y.dst, .slice ob y.path.parts.length cb, .int .i64 y.pi, .int .i64 y.hi, .int .i64 y.beta, .int .i64 y.rid, .int .i64 y.seq, .slice qb y.pay.length db] 58))
 go_enter Tryz.func42, Tryz.ntmps42
 cases e0 : (x.kind == y.kind)
 ·
  have cf1 := blk10 HB0.out.1; have cf2 := blk10 HB0.out.2
  go_wp2_with fail
  go_ret
  exact ⟨ret_bool (by rw [HPE.out, e0]; rfl), hx0⟩
 ·
  cases e1 : (x.src == y.src)
  ·
   have cf3 := blk10 HB0.out.1; have cf4 := blk10 HB0.out.2
   go_wp2_with fail
   go_ret
   exact ⟨ret_bool (by rw [HPE.out, e0, e1]; rfl), hx0⟩
  ·
   cases e2 : (x.dst == y.dst)
   ·
    have cf5 := blk10 HB0.out.1; have cf6 := blk10 HB0.out.2
    go_wp2_with fail
    go_ret
    exact ⟨ret_bool (by rw [HPE.out, e0, e1, e2]; rfl), hx0⟩
   ·
    have cf7 := blk10 HB0.out.1; have cf8 := blk10 HB0.out.2
    go_wp2_with fail
    refine (l_samePathF x.path y.path _ _ _ (ra.ext hx0) (rb.ext hx0)).mono ?_; rintro e w1 ⟨rfl, hz1⟩
    obtain ⟨b3, hb3⟩ : ∃ b, b = decide (x.path = y.path) := ⟨_, rfl⟩
    rw [← hb3]; have E3 := Lib.hid hb3.symm; clear hb3
    cases b3
    case false =>
     try clear cf7
     try clear cf8
     have cf9 := blk10 (Ext.block hz1 HB0.out.1); have cf10 := blk10 (Ext.block hz1 HB0.out.2)
     go_wp2_with fail
     go_ret
     exact ⟨ret_bool (by rw [HPE.out, e0, e1, e2, E3.out]; rfl), (hx0.t hz1)⟩
    case true =>
     cases e4 : (x.pi == y.pi)
     ·
      try clear cf7
      try clear cf8
      have cf11 := blk10 (Ext.block hz1 HB0.out.1); have cf12 := blk10 (Ext.block hz1 HB0.out.2)
      go_wp2_with fail
      go_ret
      exact ⟨ret_bool (by rw [HPE.out, e0, e1, e2, E3.out, e4]; rfl), (hx0.t hz1)⟩
     ·
      cases e5 : (x.hi == y.hi)
      ·
       try clear cf7
       try clear cf8
       have cf13 := blk10 (Ext.block hz1 HB0.out.1); have cf14 := blk10 (Ext.block hz1 HB0.out.2)
       go_wp2_with fail
       go_ret
       exact ⟨ret_bool (by rw [HPE.out, e0, e1, e2, E3.out, e4, e5]; rfl), (hx0.t hz1)⟩
      ·
       cases e6 : (x.beta == y.beta)
       ·
        try clear cf7
        try clear cf8
        have cf15 := blk10 (Ext.block hz1 HB0.out.1); have cf16 := blk10 (Ext.block hz1 HB0.out.2)
        go_wp2_with fail
        go_ret
        exact ⟨ret_bool (by rw [HPE.out, e0, e1, e2, E3.out, e4, e5, e6]; rfl), (hx0.t hz1)⟩
       ·
        cases e7 : (x.rid == y.rid)
        ·
         try clear cf7
         try clear cf8
         have cf17 := blk10 (Ext.block hz1 HB0.out.1); have cf18 := blk10 (Ext.block hz1 HB0.out.2)
         go_wp2_with fail
         go_ret
         exact ⟨ret_bool (by rw [HPE.out, e0, e1, e2, E3.out, e4, e5, e6, e7]; rfl), (hx0.t hz1)⟩
        ·
         cases e8 : (x.seq == y.seq)
         ·
          try clear cf7
          try clear cf8
          have cf19 := blk10 (Ext.block hz1 HB0.out.1); have cf20 := blk10 (Ext.block hz1 HB0.out.2)
          go_wp2_with fail
          go_ret
          exact ⟨ret_bool (by rw [HPE.out, e0, e1, e2, E3.out, e4, e5, e6, e7, e8]; rfl), (hx0.t hz1)⟩
         ·
          try clear cf7
          try clear cf8
          have cf21 := blk10 (Ext.block hz1 HB0.out.1); have cf22 := blk10 (Ext.block hz1 HB0.out.2)
          go_wp2_with fail
          refine (l_same x.pay _ y.pay _ _ (ya.ext (hx0.t hz1)) (yb.ext (hx0.t hz1))).mono ?_; rintro e w2 ⟨rfl, hz2⟩
          try clear cf21
          try clear cf22
          have cf23 := blk10 (Ext.block (hz1.t hz2) HB0.out.1); have cf24 := blk10 (Ext.block (hz1.t hz2) HB0.out.2)
          go_wp2_with fail
          go_ret
          exact ⟨ret_bool (by rw [HPE.out, e0, e1, e2, E3.out, e4, e5, e6, e7, e8]; rfl), ((hx0.t hz1).t hz2)⟩
set_option maxRecDepth 100000 in
set_option maxHeartbeats 8000000 in
theorem i_EqualVerdicts (x y : Vd) (va ua vb ub : Value) (w : World) (ra : RdS Part.rep w va x.pkt.path.parts) (ya : RdS Rep.byte w ua x.pkt.pay) (rb : RdS Part.rep w vb y.pkt.path.parts) (yb : RdS Rep.byte w ub y.pkt.pay) (ux : ∀ b ∈ x.pkt.pay, U8 b) (uy : ∀ b ∈ y.pkt.pay, U8 b) :
  Calls Tryz.prog 41 #[.agg #[.int .i64 x.code, .int .i64 x.eg, .int .i64 x.pkt.kind, .int .i64 x.pkt.src, .int .i64 x.pkt.dst, va, .int .i64 x.pkt.pi, .int .i64 x.pkt.hi, .int .i64 x.pkt.beta, .int .i64 x.pkt.rid, .int .i64 x.pkt.seq, ua], .agg #[.int .i64 y.code, .int .i64 y.eg, .int .i64 y.pkt.kind, .int .i64 y.pkt.src, .int .i64 y.pkt.dst, vb, .int .i64 y.pkt.pi, .int .i64 y.pkt.hi, .int .i64 y.pkt.beta, .int .i64 y.pkt.rid, .int .i64 y.pkt.seq, ub]] w fun e w' => e = .returned (.bool (vdEq x y)) ∧ Ext w w' := by
 obtain ⟨oa, ca, rfl, _⟩ := ra.shape; obtain ⟨ob, cb, rfl, _⟩ := rb.shape; obtain ⟨qa, da, rfl, _⟩ := ya.shape; obtain ⟨qb, db, rfl, _⟩ := yb.shape; have hpe : vdEq x y = ((x.code == y.code) && (x.eg == y.eg) && pktEq x.pkt y.pkt) := rfl; have HPE := Lib.hid hpe; clear hpe; have hx0 := ext2 w (.cells #[.int .i64 x.code, .int .i64 x.eg, .int .i64 x.pkt.kind, .int .i64 x.pkt.src, .int .i64 x.pkt.dst, .slice oa x.pkt.path.parts.length ca, .int .i64 x.pkt.pi, .int .i64 x.pkt.hi, .int .i64 x.pkt.beta, .int .i64 x.pkt.rid, .int .i64 x.pkt.seq, .slice qa x.pkt.pay.length da] 62) (.cells #[.int .i64 y.code, .int .i64 y.eg, .int .i64 y.pkt.kind, .int .i64 y.pkt.src, .int .i64 y.pkt.dst, .slice ob y.pkt.path.parts.length cb, .int .i64 y.pkt.pi, .int .i64 y.pkt.hi, .int .i64 y.pkt.beta, .int .i64 y.pkt.rid, .int .i64 y.pkt.seq, .slice qb y.pkt.pay.length db] 62)
 have HB0 := Lib.hid (al2 w (.cells #[.int .i64 x.code, .int .i64 x.eg, .int .i64 x.pkt.kind, .int .i64 x.pkt.src, .int .i64 x.pkt.dst, .slice oa x.pkt.path.parts.length ca, .int .i64 x.pkt.pi, .int .i64 x.pkt.hi, .int .i64 x.pkt.beta, .int .i64 x.pkt.rid, .int .i64 x.pkt.seq, .slice qa x.pkt.pay.length da] 62) (.cells #[.int .i64 y.code, .int .i64 y.eg, .int .i64 y.pkt.kind, .int .i64 y.pkt.src, .int .i64 y.pkt.dst, .slice ob y.pkt.path.parts.length cb, .int .i64 y.pkt.pi, .int .i64 y.pkt.hi, .int .i64 y.pkt.beta, .int .i64 y.pkt.rid, .int .i64 y.pkt.seq, .slice qb y.pkt.pay.length db] 62))
 go_enter Tryz.func41, Tryz.ntmps41
 cases e0 : (x.code == y.code)
 ·
  have cf1 := blk12 HB0.out.1; have cf2 := blk12 HB0.out.2
  go_wp2_with fail
  go_ret
  exact ⟨ret_bool (by rw [HPE.out, e0]; rfl), hx0⟩
 ·
  cases e1 : (x.eg == y.eg)
  ·
   have cf3 := blk12 HB0.out.1; have cf4 := blk12 HB0.out.2
   go_wp2_with fail
   go_ret
   exact ⟨ret_bool (by rw [HPE.out, e0, e1]; rfl), hx0⟩
  ·
   have cf5 := blk12 HB0.out.1; have cf6 := blk12 HB0.out.2
   go_wp2_with fail
   refine (i_EqualPackets x.pkt y.pkt _ _ _ _ _ (ra.ext hx0) (ya.ext hx0) (rb.ext hx0) (yb.ext hx0) ux uy).mono ?_; rintro e w1 ⟨rfl, hz1⟩
   try clear cf5
   try clear cf6
   have cf7 := blk12 (Ext.block hz1 HB0.out.1); have cf8 := blk12 (Ext.block hz1 HB0.out.2)
   go_wp2_with fail
   go_ret
   exact ⟨ret_bool (by rw [HPE.out, e0, e1]; rfl), (hx0.t hz1)⟩
set_option maxRecDepth 100000 in
set_option maxHeartbeats 8000000 in
theorem l_sameVerdict (x y : Vd) (va ua vb ub : Value) (w : World) (ra : RdS Part.rep w va x.pkt.path.parts) (ya : RdS Rep.byte w ua x.pkt.pay) (rb : RdS Part.rep w vb y.pkt.path.parts) (yb : RdS Rep.byte w ub y.pkt.pay)  :
  Calls Tryz.prog 37 #[.agg #[.int .i64 x.code, .int .i64 x.eg, .int .i64 x.pkt.kind, .int .i64 x.pkt.src, .int .i64 x.pkt.dst, va, .int .i64 x.pkt.pi, .int .i64 x.pkt.hi, .int .i64 x.pkt.beta, .int .i64 x.pkt.rid, .int .i64 x.pkt.seq, ua], .agg #[.int .i64 y.code, .int .i64 y.eg, .int .i64 y.pkt.kind, .int .i64 y.pkt.src, .int .i64 y.pkt.dst, vb, .int .i64 y.pkt.pi, .int .i64 y.pkt.hi, .int .i64 y.pkt.beta, .int .i64 y.pkt.rid, .int .i64 y.pkt.seq, ub]] w fun e w' => e = .returned (.bool (vdEq x y)) ∧ Ext w w' := by
 obtain ⟨oa, ca, rfl, _⟩ := ra.shape; obtain ⟨ob, cb, rfl, _⟩ := rb.shape; obtain ⟨qa, da, rfl, _⟩ := ya.shape; obtain ⟨qb, db, rfl, _⟩ := yb.shape; have hpe : vdEq x y = ((x.code == y.code) && (x.eg == y.eg) && pktEq x.pkt y.pkt) := rfl; have HPE := Lib.hid hpe; clear hpe; have hx0 := ext2 w (.cells #[.int .i64 x.code, .int .i64 x.eg, .int .i64 x.pkt.kind, .int .i64 x.pkt.src, .int .i64 x.pkt.dst, .slice oa x.pkt.path.parts.length ca, .int .i64 x.pkt.pi, .int .i64 x.pkt.hi, .int .i64 x.pkt.beta, .int .i64 x.pkt.rid, .int .i64 x.pkt.seq, .slice qa x.pkt.pay.length da] 62) (.cells #[.int .i64 y.code, .int .i64 y.eg, .int .i64 y.pkt.kind, .int .i64 y.pkt.src, .int .i64 y.pkt.dst, .slice ob y.pkt.path.parts.length cb, .int .i64 y.pkt.pi, .int .i64 y.pkt.hi, .int .i64 y.pkt.beta, .int .i64 y.pkt.rid, .int .i64 y.pkt.seq, .slice qb y.pkt.pay.length db] 62)
 have HB0 := Lib.hid (al2 w (.cells #[.int .i64 x.code, .int .i64 x.eg, .int .i64 x.pkt.kind, .int .i64 x.pkt.src, .int .i64 x.pkt.dst, .slice oa x.pkt.path.parts.length ca, .int .i64 x.pkt.pi, .int .i64 x.pkt.hi, .int .i64 x.pkt.beta, .int .i64 x.pkt.rid, .int .i64 x.pkt.seq, .slice qa x.pkt.pay.length da] 62) (.cells #[.int .i64 y.code, .int .i64 y.eg, .int .i64 y.pkt.kind, .int .i64 y.pkt.src, .int .i64 y.pkt.dst, .slice ob y.pkt.path.parts.length cb, .int .i64 y.pkt.pi, .int .i64 y.pkt.hi, .int .i64 y.pkt.beta, .int .i64 y.pkt.rid, .int .i64 y.pkt.seq, .slice qb y.pkt.pay.length db] 62))
 go_enter Tryz.func37, Tryz.ntmps37
 cases e0 : (x.code == y.code)
 ·
  have cf1 := blk12 HB0.out.1; have cf2 := blk12 HB0.out.2
  go_wp2_with fail
  go_ret
  exact ⟨ret_bool (by rw [HPE.out, e0]; rfl), hx0⟩
 ·
  cases e1 : (x.eg == y.eg)
  ·
   have cf3 := blk12 HB0.out.1; have cf4 := blk12 HB0.out.2
   go_wp2_with fail
   go_ret
   exact ⟨ret_bool (by rw [HPE.out, e0, e1]; rfl), hx0⟩
  ·
   have cf5 := blk12 HB0.out.1; have cf6 := blk12 HB0.out.2
   go_wp2_with fail
   refine (l_samePacketF x.pkt y.pkt _ _ _ _ _ (ra.ext hx0) (ya.ext hx0) (rb.ext hx0) (yb.ext hx0)).mono ?_; rintro e w1 ⟨rfl, hz1⟩
   try clear cf5
   try clear cf6
   have cf7 := blk12 (Ext.block hz1 HB0.out.1); have cf8 := blk12 (Ext.block hz1 HB0.out.2)
   go_wp2_with fail
   go_ret
   exact ⟨ret_bool (by rw [HPE.out, e0, e1]; rfl), (hx0.t hz1)⟩
end
end Go.Proofs.YtcpfmhgfaliemaaGreat
