/- The walk of the law over shares. No condition. -/
import Derived.Test.YtebmeolkiafdaaaW32e
import Derived.Test.YtebmeolkiafdaaaW32f
import Derived.Test.YtebmeolkiafdaaaW33
import Derived.Test.YtebmeolkiafdaaaW36s
import Derived.Test.YtebmeolkiafdaaaPlainQ
namespace Go.Proofs.Ytebmeolkiafdaaa
open Go.ChangeShapes Go.WideShapes Go.ChangeAt Go.RowKit Go.Deep

theorem admit_len (l : List Resv) (x : Resv) (c now : Int) : (admit l x c now).1.length ≤ l.length + 1 := by
  cases hr : refused l x c now
  · rw [admit_yes hr]
    have := without_le x l
    simp; omega
  · rw [admit_no hr]; simp
theorem admit_rate {l : List Resv} {x : Resv} {c now : Int} (h : (admit l x c now).2 = true) : resvRate (admit l x c now).1 x.id x.asn x.iface now = x.rate := by
  obtain ⟨_, h2, h3⟩ := admit_ok h
  rw [h2]; exact rate_admit h3
theorem admit_resvd {l : List Resv} {x : Resv} {c now : Int} (h : (admit l x c now).2 = true) : resvdRate (admit l x c now).1 x.asn x.iface now ≤ c := by
  obtain ⟨h1, h2, h3⟩ := admit_ok h
  rw [h2, resvd_admit h3]
  unfold refused tooMuch at h1
  simp only [Bool.or_eq_false_iff, decide_eq_false_iff_not] at h1
  omega
theorem admit_valid {l : List Resv} {x : Resv} {c now : Int} (h : (admit l x c now).2 = true) (hv : validResvs l c now = true) : validResvs (admit l x c now).1 c now = true := by
  obtain ⟨h1, h2, h3⟩ := admit_ok h
  rw [h2]; exact valid_admit h1 hv

set_option maxRecDepth 100000 in
set_option maxHeartbeats 400000 in
theorem l_sameShares (a : List Resv) (va : Value) (b : List Resv) (vb : Value) (w : World) (ha : RdS Resv.rep w va a) (hb : RdS Resv.rep w vb b) :
    Calls Try.prog 21 #[va, vb] w fun e w' => e = .returned (.bool (decide (a = b))) ∧ Ext w w' := by
  obtain ⟨oa, ca, rfl, hsa⟩ := ha.shape
  obtain ⟨ob, cb, rfl, hsb⟩ := hb.shape
  by_cases hne : a.length = b.length
  · have Hne := Lib.hid hne
    have t1 : ((a.length : Int) != (b.length : Int)) = false := by simp [hne]
    clear hne
    go_enter Try.func21, Try.ntmps21
    go_wp2
    go_loopw [5] (fun i wr => ∃ (k : Nat), k ≤ a.length ∧ i = .int .i64 k ∧ a.take k = b.take k ∧ Ext w wr) (fun i _ => a.length - (intOf i).toNat)
    case atStart => exact ⟨0, Nat.zero_le _, rfl, rfl, Ext.refl _⟩
    case round =>
      obtain ⟨k, hk, rfl, htk, hx⟩ := hrel
      have Htk := Lib.hid htk; clear htk
      by_cases hlt : k < a.length
      · have hlb : k < b.length := by rw [← Hne.out]; exact hlt
        obtain ⟨b1, off1, rfl, hc1⟩ := Resv.at (ha.ext hx) k hlt
        obtain ⟨b2, off2, rfl, hc2⟩ := Resv.at (hb.ext hx) k hlb
        go_wp2
        go_still_tail 8, (by kernel_rfl)
        go_wp2_with fail
        all_goals first
          | (go_ret; exact ⟨ret_bool (Eq.symm (decide_eq_false (by rintro rfl; contradiction))), hx.drew⟩)
          | exact ⟨⟨k + 1, by omega, by go_num, take_snoc2 Htk.out hlt hlb (Resv.ext' (by assumption) (by assumption) (by assumption) (by assumption) (by assumption)), hx.drew⟩, by simp [intOf]; omega⟩
      · have hab : decide (a = b) = true := by
          have := Htk.out
          rw [List.take_of_length_le (by omega), List.take_of_length_le (by rw [← Hne.out]; omega)] at this
          simp [this]
        have Hab := Lib.hid hab; clear hab
        go_wp2
        go_ret
        exact ⟨ret_bool Hab.out.symm, hx⟩
  · have t1 : ((a.length : Int) != (b.length : Int)) = true := by simp [bne_iff_ne]; omega
    have hab : decide (a = b) = false := by
      rw [decide_eq_false_iff_not]; rintro rfl; exact hne rfl
    have Hab := Lib.hid hab; clear hab
    clear hne
    go_enter Try.func21, Try.ntmps21
    go_wp2
    go_ret
    exact ⟨ret_bool Hab.out.symm, Ext.refl _⟩

set_option maxRecDepth 100000 in
set_option maxHeartbeats 8000000 in
theorem l_FnShares (code : List Int) (cv : Value) (w : World) (hr : RdS Rep.byte w cv code) (hu : ∀ x ∈ code, U8 x) :
    Calls Try.prog 3 #[cv] w fun e w' => e = .returned (.bool true) ∧ Ext w w' := by
  obtain ⟨co, cc, rfl, _⟩ := hr.shape
  by_cases hbig : 1048576 < code.length
  · have hb1 : decide (1048576 < code.length) = true := by simpa using hbig
    have HB1 := Lib.hid hb1; clear hb1
    go_enter Try.func3, Try.ntmps3
    go_wp2_with fail
    refine (l_big code _ _ hr).mono ?_
    rintro e _ ⟨rfl, rfl⟩
    rw [HB1.out]
    go_wp2_with fail
    go_ret
    exact ⟨rfl, Ext.refl _⟩
  have hb1 : decide (1048576 < code.length) = false := by simpa using hbig
  have hl : code.length ≤ 1048576 := by omega
  have HB1 := Lib.hid hb1; clear hb1 hbig
  go_enter Try.func3, Try.ntmps3
  go_wp2_with fail
  refine (l_big code _ _ hr).mono ?_
  rintro e _ ⟨rfl, rfl⟩
  rw [HB1.out]
  go_wp2_with fail
  refine (s_DrawAdmit code _ _ (hr.ext (Ext.refl _)) hu hl).mono ?_
  rintro e w1 ⟨v1, l1, x1, c1, n1, rfl, hl1, ho, hz1⟩
  have hr1 := OwnF.rd (hf := Resv.flen) ho
  clear ho
  have hxB : Ext w1 (w1.alloc (.cells #[.int .i64 x1.id, .int .i64 x1.asn, .int .i64 x1.iface, .int .i64 x1.rate, .int .i64 x1.till] 26)) := (Ext.refl _).alloc _
  have HBB := Lib.hid (blk_new w1 (.cells #[.int .i64 x1.id, .int .i64 x1.asn, .int .i64 x1.iface, .int .i64 x1.rate, .int .i64 x1.till] 26))
  have cf1 := blk5 HBB.out
  go_wp2_with fail
  refine (i_Admit l1 _ x1 c1 n1 _ (hr1.ext hxB) (by omega)).mono ?_
  rintro e w2 ⟨vy, rfl, ho, hz2⟩
  have hry := OwnF.rd (hf := Resv.flen) ho
  clear ho
  try clear cf1
  have cf2 := blk5 (Ext.block hz2 HBB.out)
  go_wp2_with fail
  refine (s_Admit l1 _ x1 c1 n1 _ (hr1.ext (hxB.trans hz2)) (by omega)).mono ?_
  rintro e w3 ⟨vz, rfl, ho, hz3⟩
  have hrz := OwnF.rd (hf := Resv.flen) ho
  clear ho
  try clear cf2
  have cf3 := blk5 (Ext.block (hz2.trans hz3) HBB.out)
  go_wp2_with fail
  refine (s_DrawReservedRate code _ _ (hr.ext (((hz1.trans hxB).trans hz2).trans hz3)) hu hl).mono ?_
  rintro e w4 ⟨v2, l2, r2, d2, n2, rfl, hl2, ho, hz4⟩
  have hr2 := OwnF.rd (hf := Resv.flen) ho
  clear ho
  try clear cf3
  have cf4 := blk5 (Ext.block ((hz2.trans hz3).trans hz4) HBB.out)
  go_wp2_with fail
  refine (s_DrawReservationRate code _ _ (hr.ext ((((hz1.trans hxB).trans hz2).trans hz3).trans hz4)) hu hl).mono ?_
  rintro e w5 ⟨v3, l3, q3, r3, d3, n3, rfl, hl3, ho, hz5⟩
  have hr3 := OwnF.rd (hf := Resv.flen) ho
  clear ho
  try clear cf4
  have cf5 := blk5 (Ext.block (((hz2.trans hz3).trans hz4).trans hz5) HBB.out)
  go_wp2_with fail
  refine (s_DrawRelease code _ _ (hr.ext (((((hz1.trans hxB).trans hz2).trans hz3).trans hz4).trans hz5)) hu hl).mono ?_
  rintro e w6 ⟨v4, l4, q4, rfl, hl4, ho, hz6⟩
  have hr4 := OwnF.rd (hf := Resv.flen) ho
  clear ho
  try clear cf5
  have cf6 := blk5 (Ext.block ((((hz2.trans hz3).trans hz4).trans hz5).trans hz6) HBB.out)
  go_wp2_with fail
  refine (s_DrawActiveReservations code _ _ (hr.ext ((((((hz1.trans hxB).trans hz2).trans hz3).trans hz4).trans hz5).trans hz6)) hu hl).mono ?_
  rintro e w7 ⟨v5, l5, q5, rfl, hl5, ho, hz7⟩
  have hr5 := OwnF.rd (hf := Resv.flen) ho
  clear ho
  try clear cf6
  have cf7 := blk5 (Ext.block (((((hz2.trans hz3).trans hz4).trans hz5).trans hz6).trans hz7) HBB.out)
  go_wp2_with fail
  refine (s_DrawValidReservations code _ _ (hr.ext (((((((hz1.trans hxB).trans hz2).trans hz3).trans hz4).trans hz5).trans hz6).trans hz7)) hu hl).mono ?_
  rintro e w8 ⟨v6, l6, c6, n6, rfl, hl6, ho, hz8⟩
  have hr6 := OwnF.rd (hf := Resv.flen) ho
  clear ho
  try clear cf7
  have cf8 := blk5 (Ext.block ((((((hz2.trans hz3).trans hz4).trans hz5).trans hz6).trans hz7).trans hz8) HBB.out)
  go_wp2_with fail
  refine (s_DrawFreeRate code _ _ (hr.ext ((((((((hz1.trans hxB).trans hz2).trans hz3).trans hz4).trans hz5).trans hz6).trans hz7).trans hz8)) hu hl).mono ?_
  rintro e w9 ⟨v7, l7, c7, r7, d7, n7, rfl, hl7, ho, hz9⟩
  have hr7 := OwnF.rd (hf := Resv.flen) ho
  clear ho
  try clear cf8
  have cf9 := blk5 (Ext.block (((((((hz2.trans hz3).trans hz4).trans hz5).trans hz6).trans hz7).trans hz8).trans hz9) HBB.out)
  go_wp2_with fail
  refine (s_DrawValidReservation code _ _ (hr.ext (((((((((hz1.trans hxB).trans hz2).trans hz3).trans hz4).trans hz5).trans hz6).trans hz7).trans hz8).trans hz9)) hu hl).mono ?_
  rintro e w10 ⟨x8, rfl, hz10⟩
  have hxC : Ext w10 (w10.alloc (.cells #[.int .i64 x8.id, .int .i64 x8.asn, .int .i64 x8.iface, .int .i64 x8.rate, .int .i64 x8.till] 26)) := (Ext.refl _).alloc _
  have HBC := Lib.hid (blk_new w10 (.cells #[.int .i64 x8.id, .int .i64 x8.asn, .int .i64 x8.iface, .int .i64 x8.rate, .int .i64 x8.till] 26))
  have hne1 : decide ((admit l1 x1 c1 n1).1 = (admit l1 x1 c1 n1).1) = true := by simp
  have hne2 : ((admit l1 x1 c1 n1).2 != (admit l1 x1 c1 n1).2) = false := by simp
  have hne3 : (resvdRate l2 r2 d2 n2 != resvdRate l2 r2 d2 n2) = false := by simp
  have hne4 : (resvRate l3 q3 r3 d3 n3 != resvRate l3 q3 r3 d3 n3) = false := by simp
  have hne5 : decide (release q4 l4 = release q4 l4) = true := by simp
  have hne6 : decide (activeResvs q5 l5 = activeResvs q5 l5) = true := by simp
  have hne7 : (validResvs l6 c6 n6 != validResvs l6 c6 n6) = false := by simp
  have hne8 : (freeRate l7 c7 r7 d7 n7 != freeRate l7 c7 r7 d7 n7) = false := by simp
  have hne9 : (validResv x8 != validResv x8) = false := by simp
  try clear cf9
  have cf10 := blk5 (Ext.block (((((((((hz2.trans hz3).trans hz4).trans hz5).trans hz6).trans hz7).trans hz8).trans hz9).trans hz10).trans hxC) HBB.out)
  have cf11 := blk5 HBC.out
  go_wp2_with fail
  simp only [List.append_eq, List.cons_append, List.nil_append]
  refine planStep (.blk [0, 1] (.one 2 (.blk [3, 4, 5, 6, 7, 8, 9, 10, 11, 12, 13, 15, 16, 17, 18] (.one 14 (.one 19 (.blk [20, 21, 22, 23, 24, 25, 26, 27, 29, 30, 31, 32, 33] (.one 28 (.one 34 (.blk [35, 36, 37, 38, 39, 41, 42] (.one 40 (.one 43 (.one 44 (.blk [45, 46, 47, 48, 49, 51, 52] (.one 50 (.one 53 (.one 54 (.blk [55, 56, 57, 58, 59, 60, 62, 63, 64] (.one 61 (.one 65 (.blk [66, 67, 68, 69, 70, 71, 72, 73, 75, 76, 77, 78, 79] (.one 74 (.one 80 (.blk [81, 82, 83, 84, 86] (.one 85 (.one 87 (.blk [88, 89] .done)))))))))))))))))))))))))) [] (by kernel_rfl) (by as_aux_lemma => kernel_rfl) ?_
  try clear cf10
  try clear cf11
  have cf12 := blk5 (Ext.block ((((((((((hz2.trans hz3).trans hz4).trans hz5).trans hz6).trans hz7).trans hz8).trans hz9).trans hz10).trans hxC).trans ((Ext.refl _).drew)) HBB.out)
  have cf13 := blk5 (Ext.block ((Ext.refl _).drew) HBC.out)
  refine blkStep (fun K HK => ?_)
  simp only [pick, List.filterMap_cons, List.filterMap_nil, List.getElem?_toArray, List.getElem?_cons_zero, List.getElem?_cons_succ]
  go_wp2_with fail
  refine HK.out _ _ ?_
  clear HK K
  refine oneStep (fun K HK => ?_)
  simp only [pick, List.filterMap_cons, List.filterMap_nil, List.getElem?_toArray, List.getElem?_cons_zero, List.getElem?_cons_succ]
  go_wp2_with fail
  refine (l_sameShares _ _ _ _ _ (hry.ext (((((((((hz3.trans hz4).trans hz5).trans hz6).trans hz7).trans hz8).trans hz9).trans hz10).trans hxC).trans ((Ext.refl _).drew))) (hrz.ext ((((((((hz4.trans hz5).trans hz6).trans hz7).trans hz8).trans hz9).trans hz10).trans hxC).trans ((Ext.refl _).drew)))).mono ?_
  rintro e w11 ⟨rfl, hz11⟩
  try clear cf12
  try clear cf13
  have cf14 := blk5 (Ext.block (((((((((((hz2.trans hz3).trans hz4).trans hz5).trans hz6).trans hz7).trans hz8).trans hz9).trans hz10).trans hxC).trans ((Ext.refl _).drew)).trans hz11) HBB.out)
  have cf15 := blk5 (Ext.block (((Ext.refl _).drew).trans hz11) HBC.out)
  go_wp2_with fail
  refine HK.out _ _ hz11 ?_
  clear HK K
  refine blkStep (fun K HK => ?_)
  simp only [pick, List.filterMap_cons, List.filterMap_nil, List.getElem?_toArray, List.getElem?_cons_zero, List.getElem?_cons_succ]
  go_wp2_with fail
  refine HK.out _ _ ?_
  clear HK K
  refine oneStep (fun K HK => ?_)
  simp only [pick, List.filterMap_cons, List.filterMap_nil, List.getElem?_toArray, List.getElem?_cons_zero, List.getElem?_cons_succ]
  go_wp2_with fail
  refine (i_ReservedRate l2 _ r2 d2 n2 _ (hr2.ext ((((((((hz5.trans hz6).trans hz7).trans hz8).trans hz9).trans hz10).trans hxC).trans ((Ext.refl _).drew)).trans hz11))).mono ?_
  rintro e w12 ⟨rfl, hz12⟩
  try clear cf14
  try clear cf15
  have cf16 := blk5 (Ext.block ((((((((((((hz2.trans hz3).trans hz4).trans hz5).trans hz6).trans hz7).trans hz8).trans hz9).trans hz10).trans hxC).trans ((Ext.refl _).drew)).trans hz11).trans hz12) HBB.out)
  have cf17 := blk5 (Ext.block ((((Ext.refl _).drew).trans hz11).trans hz12) HBC.out)
  go_wp2_with fail
  refine HK.out _ _ hz12 ?_
  clear HK K
  refine oneStep (fun K HK => ?_)
  simp only [pick, List.filterMap_cons, List.filterMap_nil, List.getElem?_toArray, List.getElem?_cons_zero, List.getElem?_cons_succ]
  go_wp2_with fail
  refine (s_ReservedRate l2 _ r2 d2 n2 _ (hr2.ext (((((((((hz5.trans hz6).trans hz7).trans hz8).trans hz9).trans hz10).trans hxC).trans ((Ext.refl _).drew)).trans hz11).trans hz12))).mono ?_
  rintro e w13 ⟨rfl, hz13⟩
  try clear cf16
  try clear cf17
  have cf18 := blk5 (Ext.block (((((((((((((hz2.trans hz3).trans hz4).trans hz5).trans hz6).trans hz7).trans hz8).trans hz9).trans hz10).trans hxC).trans ((Ext.refl _).drew)).trans hz11).trans hz12).trans hz13) HBB.out)
  have cf19 := blk5 (Ext.block (((((Ext.refl _).drew).trans hz11).trans hz12).trans hz13) HBC.out)
  go_wp2_with fail
  refine HK.out _ _ hz13 ?_
  clear HK K
  refine blkStep (fun K HK => ?_)
  simp only [pick, List.filterMap_cons, List.filterMap_nil, List.getElem?_toArray, List.getElem?_cons_zero, List.getElem?_cons_succ]
  go_wp2_with fail
  refine HK.out _ _ ?_
  clear HK K
  refine oneStep (fun K HK => ?_)
  simp only [pick, List.filterMap_cons, List.filterMap_nil, List.getElem?_toArray, List.getElem?_cons_zero, List.getElem?_cons_succ]
  go_wp2_with fail
  refine (i_ReservationRate l3 _ q3 r3 d3 n3 _ (hr3.ext (((((((((hz6.trans hz7).trans hz8).trans hz9).trans hz10).trans hxC).trans ((Ext.refl _).drew)).trans hz11).trans hz12).trans hz13))).mono ?_
  rintro e w14 ⟨rfl, hz14⟩
  try clear cf18
  try clear cf19
  have cf20 := blk5 (Ext.block ((((((((((((((hz2.trans hz3).trans hz4).trans hz5).trans hz6).trans hz7).trans hz8).trans hz9).trans hz10).trans hxC).trans ((Ext.refl _).drew)).trans hz11).trans hz12).trans hz13).trans hz14) HBB.out)
  have cf21 := blk5 (Ext.block ((((((Ext.refl _).drew).trans hz11).trans hz12).trans hz13).trans hz14) HBC.out)
  go_wp2_with fail
  refine HK.out _ _ hz14 ?_
  clear HK K
  refine oneStep (fun K HK => ?_)
  simp only [pick, List.filterMap_cons, List.filterMap_nil, List.getElem?_toArray, List.getElem?_cons_zero, List.getElem?_cons_succ]
  go_wp2_with fail
  refine (s_ReservationRate l3 _ q3 r3 d3 n3 _ (hr3.ext ((((((((((hz6.trans hz7).trans hz8).trans hz9).trans hz10).trans hxC).trans ((Ext.refl _).drew)).trans hz11).trans hz12).trans hz13).trans hz14))).mono ?_
  rintro e w15 ⟨rfl, hz15⟩
  try clear cf20
  try clear cf21
  have cf22 := blk5 (Ext.block (((((((((((((((hz2.trans hz3).trans hz4).trans hz5).trans hz6).trans hz7).trans hz8).trans hz9).trans hz10).trans hxC).trans ((Ext.refl _).drew)).trans hz11).trans hz12).trans hz13).trans hz14).trans hz15) HBB.out)
  have cf23 := blk5 (Ext.block (((((((Ext.refl _).drew).trans hz11).trans hz12).trans hz13).trans hz14).trans hz15) HBC.out)
  go_wp2_with fail
  refine HK.out _ _ hz15 ?_
  clear HK K
  as_aux_lemma =>
    refine blkStep (fun K HK => ?_)
    simp only [pick, List.filterMap_cons, List.filterMap_nil, List.getElem?_toArray, List.getElem?_cons_zero, List.getElem?_cons_succ]
    go_wp2_with fail
    refine HK.out _ _ ?_
    clear HK K
    refine oneStep (fun K HK => ?_)
    simp only [pick, List.filterMap_cons, List.filterMap_nil, List.getElem?_toArray, List.getElem?_cons_zero, List.getElem?_cons_succ]
    go_wp2_with fail
    refine (i_Release l4 _ q4 _ (hr4.ext ((((((((((hz7.trans hz8).trans hz9).trans hz10).trans hxC).trans ((Ext.refl _).drew)).trans hz11).trans hz12).trans hz13).trans hz14).trans hz15)) (by omega)).mono ?_
    rintro e w16 ⟨va, rfl, ho, hz16⟩
    have hra := OwnF.rd (hf := Resv.flen) ho
    clear ho
    try clear cf22
    try clear cf23
    have cf24 := blk5 (Ext.block ((((((((((((((((hz2.trans hz3).trans hz4).trans hz5).trans hz6).trans hz7).trans hz8).trans hz9).trans hz10).trans hxC).trans ((Ext.refl _).drew)).trans hz11).trans hz12).trans hz13).trans hz14).trans hz15).trans hz16) HBB.out)
    have cf25 := blk5 (Ext.block ((((((((Ext.refl _).drew).trans hz11).trans hz12).trans hz13).trans hz14).trans hz15).trans hz16) HBC.out)
    go_wp2_with fail
    refine HK.out _ _ hz16 ?_
    clear HK K
    refine oneStep (fun K HK => ?_)
    simp only [pick, List.filterMap_cons, List.filterMap_nil, List.getElem?_toArray, List.getElem?_cons_zero, List.getElem?_cons_succ]
    go_wp2_with fail
    refine (s_Release l4 _ q4 _ (hr4.ext (((((((((((hz7.trans hz8).trans hz9).trans hz10).trans hxC).trans ((Ext.refl _).drew)).trans hz11).trans hz12).trans hz13).trans hz14).trans hz15).trans hz16)) (by omega)).mono ?_
    rintro e w17 ⟨vb, rfl, ho, hz17⟩
    have hrb := OwnF.rd (hf := Resv.flen) ho
    clear ho
    try clear cf24
    try clear cf25
    have cf26 := blk5 (Ext.block (((((((((((((((((hz2.trans hz3).trans hz4).trans hz5).trans hz6).trans hz7).trans hz8).trans hz9).trans hz10).trans hxC).trans ((Ext.refl _).drew)).trans hz11).trans hz12).trans hz13).trans hz14).trans hz15).trans hz16).trans hz17) HBB.out)
    have cf27 := blk5 (Ext.block (((((((((Ext.refl _).drew).trans hz11).trans hz12).trans hz13).trans hz14).trans hz15).trans hz16).trans hz17) HBC.out)
    go_wp2_with fail
    refine HK.out _ _ hz17 ?_
    clear HK K
    refine oneStep (fun K HK => ?_)
    simp only [pick, List.filterMap_cons, List.filterMap_nil, List.getElem?_toArray, List.getElem?_cons_zero, List.getElem?_cons_succ]
    go_wp2_with fail
    refine (l_sameShares _ _ _ _ _ (hra.ext hz17) (hrb.ext (Ext.refl _))).mono ?_
    rintro e w18 ⟨rfl, hz18⟩
    try clear cf26
    try clear cf27
    have cf28 := blk5 (Ext.block ((((((((((((((((((hz2.trans hz3).trans hz4).trans hz5).trans hz6).trans hz7).trans hz8).trans hz9).trans hz10).trans hxC).trans ((Ext.refl _).drew)).trans hz11).trans hz12).trans hz13).trans hz14).trans hz15).trans hz16).trans hz17).trans hz18) HBB.out)
    have cf29 := blk5 (Ext.block ((((((((((Ext.refl _).drew).trans hz11).trans hz12).trans hz13).trans hz14).trans hz15).trans hz16).trans hz17).trans hz18) HBC.out)
    go_wp2_with fail
    refine HK.out _ _ hz18 ?_
    clear HK K
    refine blkStep (fun K HK => ?_)
    simp only [pick, List.filterMap_cons, List.filterMap_nil, List.getElem?_toArray, List.getElem?_cons_zero, List.getElem?_cons_succ]
    go_wp2_with fail
    refine HK.out _ _ ?_
    clear HK K
    refine oneStep (fun K HK => ?_)
    simp only [pick, List.filterMap_cons, List.filterMap_nil, List.getElem?_toArray, List.getElem?_cons_zero, List.getElem?_cons_succ]
    go_wp2_with fail
    refine (i_ActiveReservations l5 _ q5 _ (hr5.ext ((((((((((((hz8.trans hz9).trans hz10).trans hxC).trans ((Ext.refl _).drew)).trans hz11).trans hz12).trans hz13).trans hz14).trans hz15).trans hz16).trans hz17).trans hz18)) (by omega)).mono ?_
    rintro e w19 ⟨vc, rfl, ho, hz19⟩
    have hrc := OwnF.rd (hf := Resv.flen) ho
    clear ho
    try clear cf28
    try clear cf29
    have cf30 := blk5 (Ext.block (((((((((((((((((((hz2.trans hz3).trans hz4).trans hz5).trans hz6).trans hz7).trans hz8).trans hz9).trans hz10).trans hxC).trans ((Ext.refl _).drew)).trans hz11).trans hz12).trans hz13).trans hz14).trans hz15).trans hz16).trans hz17).trans hz18).trans hz19) HBB.out)
    have cf31 := blk5 (Ext.block (((((((((((Ext.refl _).drew).trans hz11).trans hz12).trans hz13).trans hz14).trans hz15).trans hz16).trans hz17).trans hz18).trans hz19) HBC.out)
    go_wp2_with fail
    refine HK.out _ _ hz19 ?_
    clear HK K
    refine oneStep (fun K HK => ?_)
    simp only [pick, List.filterMap_cons, List.filterMap_nil, List.getElem?_toArray, List.getElem?_cons_zero, List.getElem?_cons_succ]
    go_wp2_with fail
    refine (s_ActiveReservations l5 _ q5 _ (hr5.ext (((((((((((((hz8.trans hz9).trans hz10).trans hxC).trans ((Ext.refl _).drew)).trans hz11).trans hz12).trans hz13).trans hz14).trans hz15).trans hz16).trans hz17).trans hz18).trans hz19)) (by omega)).mono ?_
    rintro e w20 ⟨vd, rfl, ho, hz20⟩
    have hrd := OwnF.rd (hf := Resv.flen) ho
    clear ho
    try clear cf30
    try clear cf31
    have cf32 := blk5 (Ext.block ((((((((((((((((((((hz2.trans hz3).trans hz4).trans hz5).trans hz6).trans hz7).trans hz8).trans hz9).trans hz10).trans hxC).trans ((Ext.refl _).drew)).trans hz11).trans hz12).trans hz13).trans hz14).trans hz15).trans hz16).trans hz17).trans hz18).trans hz19).trans hz20) HBB.out)
    have cf33 := blk5 (Ext.block ((((((((((((Ext.refl _).drew).trans hz11).trans hz12).trans hz13).trans hz14).trans hz15).trans hz16).trans hz17).trans hz18).trans hz19).trans hz20) HBC.out)
    go_wp2_with fail
    refine HK.out _ _ hz20 ?_
    clear HK K
    refine oneStep (fun K HK => ?_)
    simp only [pick, List.filterMap_cons, List.filterMap_nil, List.getElem?_toArray, List.getElem?_cons_zero, List.getElem?_cons_succ]
    go_wp2_with fail
    refine (l_sameShares _ _ _ _ _ (hrc.ext hz20) (hrd.ext (Ext.refl _))).mono ?_
    rintro e w21 ⟨rfl, hz21⟩
    try clear cf32
    try clear cf33
    have cf34 := blk5 (Ext.block (((((((((((((((((((((hz2.trans hz3).trans hz4).trans hz5).trans hz6).trans hz7).trans hz8).trans hz9).trans hz10).trans hxC).trans ((Ext.refl _).drew)).trans hz11).trans hz12).trans hz13).trans hz14).trans hz15).trans hz16).trans hz17).trans hz18).trans hz19).trans hz20).trans hz21) HBB.out)
    have cf35 := blk5 (Ext.block (((((((((((((Ext.refl _).drew).trans hz11).trans hz12).trans hz13).trans hz14).trans hz15).trans hz16).trans hz17).trans hz18).trans hz19).trans hz20).trans hz21) HBC.out)
    go_wp2_with fail
    refine HK.out _ _ hz21 ?_
    clear HK K
    as_aux_lemma =>
      refine blkStep (fun K HK => ?_)
      simp only [pick, List.filterMap_cons, List.filterMap_nil, List.getElem?_toArray, List.getElem?_cons_zero, List.getElem?_cons_succ]
      go_wp2_with fail
      refine HK.out _ _ ?_
      clear HK K
      refine oneStep (fun K HK => ?_)
      simp only [pick, List.filterMap_cons, List.filterMap_nil, List.getElem?_toArray, List.getElem?_cons_zero, List.getElem?_cons_succ]
      go_wp2_with fail
      refine (i_ValidReservations l6 _ c6 n6 _ (hr6.ext ((((((((((((((hz9.trans hz10).trans hxC).trans ((Ext.refl _).drew)).trans hz11).trans hz12).trans hz13).trans hz14).trans hz15).trans hz16).trans hz17).trans hz18).trans hz19).trans hz20).trans hz21))).mono ?_
      rintro e w22 ⟨rfl, hz22⟩
      try clear cf34
      try clear cf35
      have cf36 := blk5 (Ext.block ((((((((((((((((((((((hz2.trans hz3).trans hz4).trans hz5).trans hz6).trans hz7).trans hz8).trans hz9).trans hz10).trans hxC).trans ((Ext.refl _).drew)).trans hz11).trans hz12).trans hz13).trans hz14).trans hz15).trans hz16).trans hz17).trans hz18).trans hz19).trans hz20).trans hz21).trans hz22) HBB.out)
      have cf37 := blk5 (Ext.block ((((((((((((((Ext.refl _).drew).trans hz11).trans hz12).trans hz13).trans hz14).trans hz15).trans hz16).trans hz17).trans hz18).trans hz19).trans hz20).trans hz21).trans hz22) HBC.out)
      go_wp2_with fail
      refine HK.out _ _ hz22 ?_
      clear HK K
      refine oneStep (fun K HK => ?_)
      simp only [pick, List.filterMap_cons, List.filterMap_nil, List.getElem?_toArray, List.getElem?_cons_zero, List.getElem?_cons_succ]
      go_wp2_with fail
      refine (s_ValidReservations l6 _ c6 n6 _ (hr6.ext (((((((((((((((hz9.trans hz10).trans hxC).trans ((Ext.refl _).drew)).trans hz11).trans hz12).trans hz13).trans hz14).trans hz15).trans hz16).trans hz17).trans hz18).trans hz19).trans hz20).trans hz21).trans hz22)) (by omega)).mono ?_
      rintro e w23 ⟨rfl, hz23⟩
      try clear cf36
      try clear cf37
      have cf38 := blk5 (Ext.block (((((((((((((((((((((((hz2.trans hz3).trans hz4).trans hz5).trans hz6).trans hz7).trans hz8).trans hz9).trans hz10).trans hxC).trans ((Ext.refl _).drew)).trans hz11).trans hz12).trans hz13).trans hz14).trans hz15).trans hz16).trans hz17).trans hz18).trans hz19).trans hz20).trans hz21).trans hz22).trans hz23) HBB.out)
      have cf39 := blk5 (Ext.block (((((((((((((((Ext.refl _).drew).trans hz11).trans hz12).trans hz13).trans hz14).trans hz15).trans hz16).trans hz17).trans hz18).trans hz19).trans hz20).trans hz21).trans hz22).trans hz23) HBC.out)
      go_wp2_with fail
      refine HK.out _ _ hz23 ?_
      clear HK K
      refine blkStep (fun K HK => ?_)
      simp only [pick, List.filterMap_cons, List.filterMap_nil, List.getElem?_toArray, List.getElem?_cons_zero, List.getElem?_cons_succ]
      go_wp2_with fail
      refine HK.out _ _ ?_
      clear HK K
      refine oneStep (fun K HK => ?_)
      simp only [pick, List.filterMap_cons, List.filterMap_nil, List.getElem?_toArray, List.getElem?_cons_zero, List.getElem?_cons_succ]
      go_wp2_with fail
      refine (i_FreeRate l7 _ c7 r7 d7 n7 _ (hr7.ext (((((((((((((((hz10.trans hxC).trans ((Ext.refl _).drew)).trans hz11).trans hz12).trans hz13).trans hz14).trans hz15).trans hz16).trans hz17).trans hz18).trans hz19).trans hz20).trans hz21).trans hz22).trans hz23))).mono ?_
      rintro e w24 ⟨rfl, hz24⟩
      try clear cf38
      try clear cf39
      have cf40 := blk5 (Ext.block ((((((((((((((((((((((((hz2.trans hz3).trans hz4).trans hz5).trans hz6).trans hz7).trans hz8).trans hz9).trans hz10).trans hxC).trans ((Ext.refl _).drew)).trans hz11).trans hz12).trans hz13).trans hz14).trans hz15).trans hz16).trans hz17).trans hz18).trans hz19).trans hz20).trans hz21).trans hz22).trans hz23).trans hz24) HBB.out)
      have cf41 := blk5 (Ext.block ((((((((((((((((Ext.refl _).drew).trans hz11).trans hz12).trans hz13).trans hz14).trans hz15).trans hz16).trans hz17).trans hz18).trans hz19).trans hz20).trans hz21).trans hz22).trans hz23).trans hz24) HBC.out)
      go_wp2_with fail
      refine HK.out _ _ hz24 ?_
      clear HK K
      refine oneStep (fun K HK => ?_)
      simp only [pick, List.filterMap_cons, List.filterMap_nil, List.getElem?_toArray, List.getElem?_cons_zero, List.getElem?_cons_succ]
      go_wp2_with fail
      refine (s_FreeRate l7 _ c7 r7 d7 n7 _ (hr7.ext ((((((((((((((((hz10.trans hxC).trans ((Ext.refl _).drew)).trans hz11).trans hz12).trans hz13).trans hz14).trans hz15).trans hz16).trans hz17).trans hz18).trans hz19).trans hz20).trans hz21).trans hz22).trans hz23).trans hz24))).mono ?_
      rintro e w25 ⟨rfl, hz25⟩
      try clear cf40
      try clear cf41
      have cf42 := blk5 (Ext.block (((((((((((((((((((((((((hz2.trans hz3).trans hz4).trans hz5).trans hz6).trans hz7).trans hz8).trans hz9).trans hz10).trans hxC).trans ((Ext.refl _).drew)).trans hz11).trans hz12).trans hz13).trans hz14).trans hz15).trans hz16).trans hz17).trans hz18).trans hz19).trans hz20).trans hz21).trans hz22).trans hz23).trans hz24).trans hz25) HBB.out)
      have cf43 := blk5 (Ext.block (((((((((((((((((Ext.refl _).drew).trans hz11).trans hz12).trans hz13).trans hz14).trans hz15).trans hz16).trans hz17).trans hz18).trans hz19).trans hz20).trans hz21).trans hz22).trans hz23).trans hz24).trans hz25) HBC.out)
      go_wp2_with fail
      refine HK.out _ _ hz25 ?_
      clear HK K
      refine blkStep (fun K HK => ?_)
      simp only [pick, List.filterMap_cons, List.filterMap_nil, List.getElem?_toArray, List.getElem?_cons_zero, List.getElem?_cons_succ]
      go_wp2_with fail
      refine HK.out _ _ ?_
      clear HK K
      refine oneStep (fun K HK => ?_)
      simp only [pick, List.filterMap_cons, List.filterMap_nil, List.getElem?_toArray, List.getElem?_cons_zero, List.getElem?_cons_succ]
      go_wp2_with fail
      refine (i_ValidReservation x8 _).mono ?_
      rintro e w26 ⟨rfl, hz26⟩
      try clear cf42
      try clear cf43
      have cf44 := blk5 (Ext.block ((((((((((((((((((((((((((hz2.trans hz3).trans hz4).trans hz5).trans hz6).trans hz7).trans hz8).trans hz9).trans hz10).trans hxC).trans ((Ext.refl _).drew)).trans hz11).trans hz12).trans hz13).trans hz14).trans hz15).trans hz16).trans hz17).trans hz18).trans hz19).trans hz20).trans hz21).trans hz22).trans hz23).trans hz24).trans hz25).trans hz26) HBB.out)
      have cf45 := blk5 (Ext.block ((((((((((((((((((Ext.refl _).drew).trans hz11).trans hz12).trans hz13).trans hz14).trans hz15).trans hz16).trans hz17).trans hz18).trans hz19).trans hz20).trans hz21).trans hz22).trans hz23).trans hz24).trans hz25).trans hz26) HBC.out)
      go_wp2_with fail
      refine HK.out _ _ hz26 ?_
      clear HK K
      refine oneStep (fun K HK => ?_)
      simp only [pick, List.filterMap_cons, List.filterMap_nil, List.getElem?_toArray, List.getElem?_cons_zero, List.getElem?_cons_succ]
      go_wp2_with fail
      refine (s_ValidReservation x8 _).mono ?_
      rintro e w27 ⟨rfl, hz27⟩
      try clear cf44
      try clear cf45
      have cf46 := blk5 (Ext.block (((((((((((((((((((((((((((hz2.trans hz3).trans hz4).trans hz5).trans hz6).trans hz7).trans hz8).trans hz9).trans hz10).trans hxC).trans ((Ext.refl _).drew)).trans hz11).trans hz12).trans hz13).trans hz14).trans hz15).trans hz16).trans hz17).trans hz18).trans hz19).trans hz20).trans hz21).trans hz22).trans hz23).trans hz24).trans hz25).trans hz26).trans hz27) HBB.out)
      have cf47 := blk5 (Ext.block (((((((((((((((((((Ext.refl _).drew).trans hz11).trans hz12).trans hz13).trans hz14).trans hz15).trans hz16).trans hz17).trans hz18).trans hz19).trans hz20).trans hz21).trans hz22).trans hz23).trans hz24).trans hz25).trans hz26).trans hz27) HBC.out)
      go_wp2_with fail
      refine HK.out _ _ hz27 ?_
      clear HK K
      refine blkStep (fun K HK => ?_)
      simp only [pick, List.filterMap_cons, List.filterMap_nil, List.getElem?_toArray, List.getElem?_cons_zero, List.getElem?_cons_succ]
      go_wp2_with fail
      refine HK.out _ _ ?_
      clear HK K
      refine doneStep (by kernel_rfl) ?_
      cases hok : (admit l1 x1 c1 n1).2
      · as_aux_lemma =>
          have hsame : decide ((admit l1 x1 c1 n1).1 = l1) = true := decide_eq_true (admit_bad hok)
          go_wp2_with fail
          refine (l_sameShares _ _ _ _ _ (hry.ext ((((((((((((((((((((((((((hz3.trans hz4).trans hz5).trans hz6).trans hz7).trans hz8).trans hz9).trans hz10).trans hxC).trans ((Ext.refl _).drew)).trans hz11).trans hz12).trans hz13).trans hz14).trans hz15).trans hz16).trans hz17).trans hz18).trans hz19).trans hz20).trans hz21).trans hz22).trans hz23).trans hz24).trans hz25).trans hz26).trans hz27)) (hr1.ext ((((((((((((((((((((((((((((hxB.trans hz2).trans hz3).trans hz4).trans hz5).trans hz6).trans hz7).trans hz8).trans hz9).trans hz10).trans hxC).trans ((Ext.refl _).drew)).trans hz11).trans hz12).trans hz13).trans hz14).trans hz15).trans hz16).trans hz17).trans hz18).trans hz19).trans hz20).trans hz21).trans hz22).trans hz23).trans hz24).trans hz25).trans hz26).trans hz27))).mono ?_
          rintro e w28 ⟨rfl, hz28⟩
          try clear cf46
          try clear cf47
          have cf48 := blk5 (Ext.block ((((((((((((((((((((((((((((hz2.trans hz3).trans hz4).trans hz5).trans hz6).trans hz7).trans hz8).trans hz9).trans hz10).trans hxC).trans ((Ext.refl _).drew)).trans hz11).trans hz12).trans hz13).trans hz14).trans hz15).trans hz16).trans hz17).trans hz18).trans hz19).trans hz20).trans hz21).trans hz22).trans hz23).trans hz24).trans hz25).trans hz26).trans hz27).trans hz28) HBB.out)
          have cf49 := blk5 (Ext.block ((((((((((((((((((((Ext.refl _).drew).trans hz11).trans hz12).trans hz13).trans hz14).trans hz15).trans hz16).trans hz17).trans hz18).trans hz19).trans hz20).trans hz21).trans hz22).trans hz23).trans hz24).trans hz25).trans hz26).trans hz27).trans hz28) HBC.out)
          go_wp2_with fail
          go_ret
          exact ⟨rfl, ((((((((((((((((((((((((((((((hz1.trans hxB).trans hz2).trans hz3).trans hz4).trans hz5).trans hz6).trans hz7).trans hz8).trans hz9).trans hz10).trans hxC).trans ((Ext.refl _).drew)).trans hz11).trans hz12).trans hz13).trans hz14).trans hz15).trans hz16).trans hz17).trans hz18).trans hz19).trans hz20).trans hz21).trans hz22).trans hz23).trans hz24).trans hz25).trans hz26).trans hz27).trans hz28)⟩
      · as_aux_lemma =>
          have hq1 : (resvRate (admit l1 x1 c1 n1).1 x1.id x1.asn x1.iface n1 == x1.rate) = true := by rw [beq_iff_eq]; exact admit_rate hok
          have hq2 : resvdRate (admit l1 x1 c1 n1).1 x1.asn x1.iface n1 ≤ c1 := admit_resvd hok
          have hq3 : (resvRate (release x1.id (admit l1 x1 c1 n1).1) x1.id x1.asn x1.iface n1 == 0) = true := by rw [beq_iff_eq]; exact rate_release _ _ _ _ _
          have HLY := Lib.hid (admit_len l1 x1 c1 n1)
          go_wp2_with fail
          refine planStep (.blk [0, 1, 2, 3, 4, 5, 6, 7, 9, 10] (.one 8 (.blk [11, 12, 13, 14, 15, 16, 17, 18, 20] (.one 19 (.blk [21, 22, 23, 24, 25, 26] (.one 27 (.blk [28, 29, 30, 31, 32] (.one 33 (.blk [34, 35, 36, 37, 38, 39, 41, 42, 43, 44, 45, 46, 47] (.one 40 (.one 48 (.blk [49, 50, 51] .done)))))))))))) [] (by kernel_rfl) (by as_aux_lemma => kernel_rfl) ?_
          try clear cf46
          try clear cf47
          have cf50 := blk5 (Ext.block ((((((((((((((((((((((((((((hz2.trans hz3).trans hz4).trans hz5).trans hz6).trans hz7).trans hz8).trans hz9).trans hz10).trans hxC).trans ((Ext.refl _).drew)).trans hz11).trans hz12).trans hz13).trans hz14).trans hz15).trans hz16).trans hz17).trans hz18).trans hz19).trans hz20).trans hz21).trans hz22).trans hz23).trans hz24).trans hz25).trans hz26).trans hz27).trans ((Ext.refl _).drew)) HBB.out)
          have cf51 := blk5 (Ext.block ((((((((((((((((((((Ext.refl _).drew).trans hz11).trans hz12).trans hz13).trans hz14).trans hz15).trans hz16).trans hz17).trans hz18).trans hz19).trans hz20).trans hz21).trans hz22).trans hz23).trans hz24).trans hz25).trans hz26).trans hz27).trans ((Ext.refl _).drew)) HBC.out)
          refine blkStep (fun K HK => ?_)
          simp only [pick, List.filterMap_cons, List.filterMap_nil, List.getElem?_toArray, List.getElem?_cons_zero, List.getElem?_cons_succ]
          go_wp2_with fail
          refine HK.out _ _ ?_
          clear HK K
          refine oneStep (fun K HK => ?_)
          simp only [pick, List.filterMap_cons, List.filterMap_nil, List.getElem?_toArray, List.getElem?_cons_zero, List.getElem?_cons_succ]
          go_wp2_with fail
          refine (i_ReservationRate (admit l1 x1 c1 n1).1 _ x1.id x1.asn x1.iface n1 _ (hry.ext (((((((((((((((((((((((((((hz3.trans hz4).trans hz5).trans hz6).trans hz7).trans hz8).trans hz9).trans hz10).trans hxC).trans ((Ext.refl _).drew)).trans hz11).trans hz12).trans hz13).trans hz14).trans hz15).trans hz16).trans hz17).trans hz18).trans hz19).trans hz20).trans hz21).trans hz22).trans hz23).trans hz24).trans hz25).trans hz26).trans hz27).trans ((Ext.refl _).drew)))).mono ?_
          rintro e w29 ⟨rfl, hz29⟩
          try clear cf50
          try clear cf51
          have cf52 := blk5 (Ext.block (((((((((((((((((((((((((((((hz2.trans hz3).trans hz4).trans hz5).trans hz6).trans hz7).trans hz8).trans hz9).trans hz10).trans hxC).trans ((Ext.refl _).drew)).trans hz11).trans hz12).trans hz13).trans hz14).trans hz15).trans hz16).trans hz17).trans hz18).trans hz19).trans hz20).trans hz21).trans hz22).trans hz23).trans hz24).trans hz25).trans hz26).trans hz27).trans ((Ext.refl _).drew)).trans hz29) HBB.out)
          have cf53 := blk5 (Ext.block (((((((((((((((((((((Ext.refl _).drew).trans hz11).trans hz12).trans hz13).trans hz14).trans hz15).trans hz16).trans hz17).trans hz18).trans hz19).trans hz20).trans hz21).trans hz22).trans hz23).trans hz24).trans hz25).trans hz26).trans hz27).trans ((Ext.refl _).drew)).trans hz29) HBC.out)
          go_wp2_with fail
          refine HK.out _ _ hz29 ?_
          clear HK K
          refine blkStep (fun K HK => ?_)
          simp only [pick, List.filterMap_cons, List.filterMap_nil, List.getElem?_toArray, List.getElem?_cons_zero, List.getElem?_cons_succ]
          go_wp2_with fail
          refine HK.out _ _ ?_
          clear HK K
          refine oneStep (fun K HK => ?_)
          simp only [pick, List.filterMap_cons, List.filterMap_nil, List.getElem?_toArray, List.getElem?_cons_zero, List.getElem?_cons_succ]
          go_wp2_with fail
          refine (i_ReservedRate (admit l1 x1 c1 n1).1 _ x1.asn x1.iface n1 _ (hry.ext ((((((((((((((((((((((((((((hz3.trans hz4).trans hz5).trans hz6).trans hz7).trans hz8).trans hz9).trans hz10).trans hxC).trans ((Ext.refl _).drew)).trans hz11).trans hz12).trans hz13).trans hz14).trans hz15).trans hz16).trans hz17).trans hz18).trans hz19).trans hz20).trans hz21).trans hz22).trans hz23).trans hz24).trans hz25).trans hz26).trans hz27).trans ((Ext.refl _).drew)).trans hz29))).mono ?_
          rintro e w30 ⟨rfl, hz30⟩
          try clear cf52
          try clear cf53
          have cf54 := blk5 (Ext.block ((((((((((((((((((((((((((((((hz2.trans hz3).trans hz4).trans hz5).trans hz6).trans hz7).trans hz8).trans hz9).trans hz10).trans hxC).trans ((Ext.refl _).drew)).trans hz11).trans hz12).trans hz13).trans hz14).trans hz15).trans hz16).trans hz17).trans hz18).trans hz19).trans hz20).trans hz21).trans hz22).trans hz23).trans hz24).trans hz25).trans hz26).trans hz27).trans ((Ext.refl _).drew)).trans hz29).trans hz30) HBB.out)
          have cf55 := blk5 (Ext.block ((((((((((((((((((((((Ext.refl _).drew).trans hz11).trans hz12).trans hz13).trans hz14).trans hz15).trans hz16).trans hz17).trans hz18).trans hz19).trans hz20).trans hz21).trans hz22).trans hz23).trans hz24).trans hz25).trans hz26).trans hz27).trans ((Ext.refl _).drew)).trans hz29).trans hz30) HBC.out)
          go_wp2_with fail
          refine HK.out _ _ hz30 ?_
          clear HK K
          refine blkStep (fun K HK => ?_)
          simp only [pick, List.filterMap_cons, List.filterMap_nil, List.getElem?_toArray, List.getElem?_cons_zero, List.getElem?_cons_succ]
          go_wp2_with fail
          refine HK.out _ _ ?_
          clear HK K
          refine oneStep (fun K HK => ?_)
          simp only [pick, List.filterMap_cons, List.filterMap_nil, List.getElem?_toArray, List.getElem?_cons_zero, List.getElem?_cons_succ]
          go_wp2_with fail
          refine (i_ValidReservations l1 _ c1 n1 _ (hr1.ext (((((((((((((((((((((((((((((((hxB.trans hz2).trans hz3).trans hz4).trans hz5).trans hz6).trans hz7).trans hz8).trans hz9).trans hz10).trans hxC).trans ((Ext.refl _).drew)).trans hz11).trans hz12).trans hz13).trans hz14).trans hz15).trans hz16).trans hz17).trans hz18).trans hz19).trans hz20).trans hz21).trans hz22).trans hz23).trans hz24).trans hz25).trans hz26).trans hz27).trans ((Ext.refl _).drew)).trans hz29).trans hz30))).mono ?_
          rintro e w31 ⟨rfl, hz31⟩
          try clear cf54
          try clear cf55
          have cf56 := blk5 (Ext.block (((((((((((((((((((((((((((((((hz2.trans hz3).trans hz4).trans hz5).trans hz6).trans hz7).trans hz8).trans hz9).trans hz10).trans hxC).trans ((Ext.refl _).drew)).trans hz11).trans hz12).trans hz13).trans hz14).trans hz15).trans hz16).trans hz17).trans hz18).trans hz19).trans hz20).trans hz21).trans hz22).trans hz23).trans hz24).trans hz25).trans hz26).trans hz27).trans ((Ext.refl _).drew)).trans hz29).trans hz30).trans hz31) HBB.out)
          have cf57 := blk5 (Ext.block (((((((((((((((((((((((Ext.refl _).drew).trans hz11).trans hz12).trans hz13).trans hz14).trans hz15).trans hz16).trans hz17).trans hz18).trans hz19).trans hz20).trans hz21).trans hz22).trans hz23).trans hz24).trans hz25).trans hz26).trans hz27).trans ((Ext.refl _).drew)).trans hz29).trans hz30).trans hz31) HBC.out)
          go_wp2_with fail
          refine HK.out _ _ hz31 ?_
          clear HK K
          cases hv : validResvs l1 c1 n1
          · as_aux_lemma =>
              refine blkStep (fun K HK => ?_)
              simp only [pick, List.filterMap_cons, List.filterMap_nil, List.getElem?_toArray, List.getElem?_cons_zero, List.getElem?_cons_succ]
              go_wp2_with fail
              refine HK.out _ _ ?_
              clear HK K
              refine oneSkip [227] (by kernel_rfl) ?_
              simp only [undefs, Act.put, List.setIfInBounds_toArray, List.set_cons_succ, List.set_cons_zero]
              refine blkStep (fun K HK => ?_)
              simp only [pick, List.filterMap_cons, List.filterMap_nil, List.getElem?_toArray, List.getElem?_cons_zero, List.getElem?_cons_succ]
              go_wp2_with fail
              refine HK.out _ _ ?_
              clear HK K
              refine oneStep (fun K HK => ?_)
              simp only [pick, List.filterMap_cons, List.filterMap_nil, List.getElem?_toArray, List.getElem?_cons_zero, List.getElem?_cons_succ]
              go_wp2_with fail
              refine (i_Release (admit l1 x1 c1 n1).1 _ x1.id _ (hry.ext ((((((((((((((((((((((((((((((hz3.trans hz4).trans hz5).trans hz6).trans hz7).trans hz8).trans hz9).trans hz10).trans hxC).trans ((Ext.refl _).drew)).trans hz11).trans hz12).trans hz13).trans hz14).trans hz15).trans hz16).trans hz17).trans hz18).trans hz19).trans hz20).trans hz21).trans hz22).trans hz23).trans hz24).trans hz25).trans hz26).trans hz27).trans ((Ext.refl _).drew)).trans hz29).trans hz30).trans hz31)) (by have h1 := HLY.out; omega)).mono ?_
              rintro e w32 ⟨vr, rfl, hor, hz32⟩
              have hrq := OwnF.rd (hf := Resv.flen) hor
              clear hor
              try clear cf56
              try clear cf57
              have cf58 := blk5 (Ext.block ((((((((((((((((((((((((((((((((hz2.trans hz3).trans hz4).trans hz5).trans hz6).trans hz7).trans hz8).trans hz9).trans hz10).trans hxC).trans ((Ext.refl _).drew)).trans hz11).trans hz12).trans hz13).trans hz14).trans hz15).trans hz16).trans hz17).trans hz18).trans hz19).trans hz20).trans hz21).trans hz22).trans hz23).trans hz24).trans hz25).trans hz26).trans hz27).trans ((Ext.refl _).drew)).trans hz29).trans hz30).trans hz31).trans hz32) HBB.out)
              have cf59 := blk5 (Ext.block ((((((((((((((((((((((((Ext.refl _).drew).trans hz11).trans hz12).trans hz13).trans hz14).trans hz15).trans hz16).trans hz17).trans hz18).trans hz19).trans hz20).trans hz21).trans hz22).trans hz23).trans hz24).trans hz25).trans hz26).trans hz27).trans ((Ext.refl _).drew)).trans hz29).trans hz30).trans hz31).trans hz32) HBC.out)
              go_wp2_with fail
              refine HK.out _ _ hz32 ?_
              clear HK K
              refine oneStep (fun K HK => ?_)
              simp only [pick, List.filterMap_cons, List.filterMap_nil, List.getElem?_toArray, List.getElem?_cons_zero, List.getElem?_cons_succ]
              go_wp2_with fail
              refine (i_ReservationRate (release x1.id (admit l1 x1 c1 n1).1) _ x1.id x1.asn x1.iface n1 _ (hrq.ext (Ext.refl _))).mono ?_
              rintro e w33 ⟨rfl, hz33⟩
              try clear cf58
              try clear cf59
              have cf60 := blk5 (Ext.block (((((((((((((((((((((((((((((((((hz2.trans hz3).trans hz4).trans hz5).trans hz6).trans hz7).trans hz8).trans hz9).trans hz10).trans hxC).trans ((Ext.refl _).drew)).trans hz11).trans hz12).trans hz13).trans hz14).trans hz15).trans hz16).trans hz17).trans hz18).trans hz19).trans hz20).trans hz21).trans hz22).trans hz23).trans hz24).trans hz25).trans hz26).trans hz27).trans ((Ext.refl _).drew)).trans hz29).trans hz30).trans hz31).trans hz32).trans hz33) HBB.out)
              have cf61 := blk5 (Ext.block (((((((((((((((((((((((((Ext.refl _).drew).trans hz11).trans hz12).trans hz13).trans hz14).trans hz15).trans hz16).trans hz17).trans hz18).trans hz19).trans hz20).trans hz21).trans hz22).trans hz23).trans hz24).trans hz25).trans hz26).trans hz27).trans ((Ext.refl _).drew)).trans hz29).trans hz30).trans hz31).trans hz32).trans hz33) HBC.out)
              go_wp2_with fail
              refine HK.out _ _ hz33 ?_
              clear HK K
              refine blkStep (fun K HK => ?_)
              simp only [pick, List.filterMap_cons, List.filterMap_nil, List.getElem?_toArray, List.getElem?_cons_zero, List.getElem?_cons_succ]
              go_wp2_with fail
              refine HK.out _ _ ?_
              clear HK K
              refine doneStep (by kernel_rfl) ?_
              go_wp2_with fail
              go_ret
              exact ⟨rfl, (((((((((((((((((((((((((((((((((((hz1.trans hxB).trans hz2).trans hz3).trans hz4).trans hz5).trans hz6).trans hz7).trans hz8).trans hz9).trans hz10).trans hxC).trans ((Ext.refl _).drew)).trans hz11).trans hz12).trans hz13).trans hz14).trans hz15).trans hz16).trans hz17).trans hz18).trans hz19).trans hz20).trans hz21).trans hz22).trans hz23).trans hz24).trans hz25).trans hz26).trans hz27).trans ((Ext.refl _).drew)).trans hz29).trans hz30).trans hz31).trans hz32).trans hz33)⟩
          · have hvy : validResvs (admit l1 x1 c1 n1).1 c1 n1 = true := admit_valid hok hv
            as_aux_lemma =>
              refine blkStep (fun K HK => ?_)
              simp only [pick, List.filterMap_cons, List.filterMap_nil, List.getElem?_toArray, List.getElem?_cons_zero, List.getElem?_cons_succ]
              go_wp2_with fail
              refine HK.out _ _ ?_
              clear HK K
              refine oneStep (fun K HK => ?_)
              simp only [pick, List.filterMap_cons, List.filterMap_nil, List.getElem?_toArray, List.getElem?_cons_zero, List.getElem?_cons_succ]
              go_wp2_with fail
              refine (i_ValidReservations (admit l1 x1 c1 n1).1 _ c1 n1 _ (hry.ext ((((((((((((((((((((((((((((((hz3.trans hz4).trans hz5).trans hz6).trans hz7).trans hz8).trans hz9).trans hz10).trans hxC).trans ((Ext.refl _).drew)).trans hz11).trans hz12).trans hz13).trans hz14).trans hz15).trans hz16).trans hz17).trans hz18).trans hz19).trans hz20).trans hz21).trans hz22).trans hz23).trans hz24).trans hz25).trans hz26).trans hz27).trans ((Ext.refl _).drew)).trans hz29).trans hz30).trans hz31))).mono ?_
              rintro e w34 ⟨rfl, hz34⟩
              try clear cf56
              try clear cf57
              have cf62 := blk5 (Ext.block ((((((((((((((((((((((((((((((((hz2.trans hz3).trans hz4).trans hz5).trans hz6).trans hz7).trans hz8).trans hz9).trans hz10).trans hxC).trans ((Ext.refl _).drew)).trans hz11).trans hz12).trans hz13).trans hz14).trans hz15).trans hz16).trans hz17).trans hz18).trans hz19).trans hz20).trans hz21).trans hz22).trans hz23).trans hz24).trans hz25).trans hz26).trans hz27).trans ((Ext.refl _).drew)).trans hz29).trans hz30).trans hz31).trans hz34) HBB.out)
              have cf63 := blk5 (Ext.block ((((((((((((((((((((((((Ext.refl _).drew).trans hz11).trans hz12).trans hz13).trans hz14).trans hz15).trans hz16).trans hz17).trans hz18).trans hz19).trans hz20).trans hz21).trans hz22).trans hz23).trans hz24).trans hz25).trans hz26).trans hz27).trans ((Ext.refl _).drew)).trans hz29).trans hz30).trans hz31).trans hz34) HBC.out)
              go_wp2_with fail
              refine HK.out _ _ hz34 ?_
              clear HK K
              refine blkStep (fun K HK => ?_)
              simp only [pick, List.filterMap_cons, List.filterMap_nil, List.getElem?_toArray, List.getElem?_cons_zero, List.getElem?_cons_succ]
              go_wp2_with fail
              refine HK.out _ _ ?_
              clear HK K
              refine oneStep (fun K HK => ?_)
              simp only [pick, List.filterMap_cons, List.filterMap_nil, List.getElem?_toArray, List.getElem?_cons_zero, List.getElem?_cons_succ]
              go_wp2_with fail
              refine (i_Release (admit l1 x1 c1 n1).1 _ x1.id _ (hry.ext (((((((((((((((((((((((((((((((hz3.trans hz4).trans hz5).trans hz6).trans hz7).trans hz8).trans hz9).trans hz10).trans hxC).trans ((Ext.refl _).drew)).trans hz11).trans hz12).trans hz13).trans hz14).trans hz15).trans hz16).trans hz17).trans hz18).trans hz19).trans hz20).trans hz21).trans hz22).trans hz23).trans hz24).trans hz25).trans hz26).trans hz27).trans ((Ext.refl _).drew)).trans hz29).trans hz30).trans hz31).trans hz34)) (by have h1 := HLY.out; omega)).mono ?_
              rintro e w35 ⟨vr, rfl, hor, hz35⟩
              have hrq := OwnF.rd (hf := Resv.flen) hor
              clear hor
              try clear cf62
              try clear cf63
              have cf64 := blk5 (Ext.block (((((((((((((((((((((((((((((((((hz2.trans hz3).trans hz4).trans hz5).trans hz6).trans hz7).trans hz8).trans hz9).trans hz10).trans hxC).trans ((Ext.refl _).drew)).trans hz11).trans hz12).trans hz13).trans hz14).trans hz15).trans hz16).trans hz17).trans hz18).trans hz19).trans hz20).trans hz21).trans hz22).trans hz23).trans hz24).trans hz25).trans hz26).trans hz27).trans ((Ext.refl _).drew)).trans hz29).trans hz30).trans hz31).trans hz34).trans hz35) HBB.out)
              have cf65 := blk5 (Ext.block (((((((((((((((((((((((((Ext.refl _).drew).trans hz11).trans hz12).trans hz13).trans hz14).trans hz15).trans hz16).trans hz17).trans hz18).trans hz19).trans hz20).trans hz21).trans hz22).trans hz23).trans hz24).trans hz25).trans hz26).trans hz27).trans ((Ext.refl _).drew)).trans hz29).trans hz30).trans hz31).trans hz34).trans hz35) HBC.out)
              go_wp2_with fail
              refine HK.out _ _ hz35 ?_
              clear HK K
              refine oneStep (fun K HK => ?_)
              simp only [pick, List.filterMap_cons, List.filterMap_nil, List.getElem?_toArray, List.getElem?_cons_zero, List.getElem?_cons_succ]
              go_wp2_with fail
              refine (i_ReservationRate (release x1.id (admit l1 x1 c1 n1).1) _ x1.id x1.asn x1.iface n1 _ (hrq.ext (Ext.refl _))).mono ?_
              rintro e w36 ⟨rfl, hz36⟩
              try clear cf64
              try clear cf65
              have cf66 := blk5 (Ext.block ((((((((((((((((((((((((((((((((((hz2.trans hz3).trans hz4).trans hz5).trans hz6).trans hz7).trans hz8).trans hz9).trans hz10).trans hxC).trans ((Ext.refl _).drew)).trans hz11).trans hz12).trans hz13).trans hz14).trans hz15).trans hz16).trans hz17).trans hz18).trans hz19).trans hz20).trans hz21).trans hz22).trans hz23).trans hz24).trans hz25).trans hz26).trans hz27).trans ((Ext.refl _).drew)).trans hz29).trans hz30).trans hz31).trans hz34).trans hz35).trans hz36) HBB.out)
              have cf67 := blk5 (Ext.block ((((((((((((((((((((((((((Ext.refl _).drew).trans hz11).trans hz12).trans hz13).trans hz14).trans hz15).trans hz16).trans hz17).trans hz18).trans hz19).trans hz20).trans hz21).trans hz22).trans hz23).trans hz24).trans hz25).trans hz26).trans hz27).trans ((Ext.refl _).drew)).trans hz29).trans hz30).trans hz31).trans hz34).trans hz35).trans hz36) HBC.out)
              go_wp2_with fail
              refine HK.out _ _ hz36 ?_
              clear HK K
              refine blkStep (fun K HK => ?_)
              simp only [pick, List.filterMap_cons, List.filterMap_nil, List.getElem?_toArray, List.getElem?_cons_zero, List.getElem?_cons_succ]
              go_wp2_with fail
              refine HK.out _ _ ?_
              clear HK K
              refine doneStep (by kernel_rfl) ?_
              go_wp2_with fail
              go_ret
              exact ⟨rfl, ((((((((((((((((((((((((((((((((((((hz1.trans hxB).trans hz2).trans hz3).trans hz4).trans hz5).trans hz6).trans hz7).trans hz8).trans hz9).trans hz10).trans hxC).trans ((Ext.refl _).drew)).trans hz11).trans hz12).trans hz13).trans hz14).trans hz15).trans hz16).trans hz17).trans hz18).trans hz19).trans hz20).trans hz21).trans hz22).trans hz23).trans hz24).trans hz25).trans hz26).trans hz27).trans ((Ext.refl _).drew)).trans hz29).trans hz30).trans hz31).trans hz34).trans hz35).trans hz36)⟩

end Go.Proofs.Ytebmeolkiafdaaa
