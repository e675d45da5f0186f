/- Contract of the reference's test of a list of reservations. No condition but the bounds that each theorem names. -/
import Derived.Test.YtebmeolkiafdaaaW36
import Derived.Test.YtebmeolkiafdaaaSeq
namespace Go.Proofs.Ytebmeolkiafdaaa
open Go.ChangeShapes Go.WideShapes Go.ChangeAt Go.RowKit Go.Deep

theorem without_all {x : Resv} {l : List Resv} {k : Nat} (hk : k ≤ l.length) : (without x (l.take k)).length = k ↔ (l.take k).all (otherResv x) = true := by
  have hl : (l.take k).length = k := by simp; omega
  unfold without
  constructor
  · intro h
    rw [List.all_eq_true]
    exact List.length_filter_eq_length_iff.1 (by rw [h, hl])
  · intro h
    rw [List.length_filter_eq_length_iff.2 (List.all_eq_true.1 h), hl]

set_option maxRecDepth 100000 in
set_option maxHeartbeats 4000000 in
theorem s_ValidReservations (l : List Resv) (v : Value) (c now : Int) (w : World) (hv : RdS Resv.rep w v l) (hl : l.length ≤ 1048576) :
    Calls Try.prog 31 #[v, .int .i64 c, .int .i64 now] w fun e w' => e = .returned (.bool (validResvs l c now)) ∧ Ext w w' := by
  obtain ⟨o, cap, rfl, hsm⟩ := hv.shape
  have hcap := hv.capLe
  go_enter Try.func31, Try.ntmps31
  go_wp2
  go_loopw [7] (fun i wr => ∃ (k : Nat), k ≤ l.length ∧ i = .int .i64 k ∧ resvsOk l c now k = true ∧ Ext w wr) (fun i _ => l.length - (intOf i).toNat)
  case atStart => exact ⟨0, Nat.zero_le _, rfl, rfl, Ext.refl _⟩
  case round =>
    obtain ⟨k, hk, rfl, hok, hx⟩ := hrel
    have HOK := Lib.hid hok; clear hok
    by_cases hlt : k < l.length
    · obtain ⟨b, off, rfl, hcw⟩ := Resv.at hv k hlt
      have hc := Resv.at_ext hx hcw
      have hlk0 : (0 : Int) ≤ (k : Int) := Int.natCast_nonneg _
      have hlk1 : (k : Int) < (l.length : Int) := by omega
      have hkc : k ≤ cap := by omega
      have hpt := RdS.part hv 0 k (Nat.zero_le _) (by omega)
      simp only [Nat.zero_mul, Nat.add_zero, Nat.sub_zero, List.drop_zero] at hpt
      have HPT := Lib.hid hpt; clear hpt
      go_wp2_with fail
      refine planStep (.blk [0, 1, 2, 3] (.one 4 (.blk [5, 6] (.blk [7, 8, 9, 10, 11, 12, 13, 16] (.one 14 (.blk [15, 17] (.blk [18, 19] (.blk [20, 21, 22, 23, 24, 25, 26, 27, 28, 29, 30, 31, 33] (.one 32 (.blk [34] (.blk [35] .done))))))))))) [] (by kernel_rfl) (by kernel_rfl) ?_
      refine blkStep (fun K HK => ?_)
      simp only [pick, List.filterMap_cons, List.filterMap_nil, List.getElem?_toArray, List.getElem?_cons_zero, List.getElem?_cons_succ]
      go_wp2_with fail
      refine HK.out _ _ ?_
      clear HK K
      refine oneStep (fun K HK => ?_)
      simp only [pick, List.filterMap_cons, List.filterMap_nil, List.getElem?_toArray, List.getElem?_cons_zero, List.getElem?_cons_succ]
      go_wp2_with fail
      refine (s_ValidReservation l[k] _).mono ?_
      rintro e w1 ⟨rfl, h1⟩
      have hx1 := hx.drew.trans h1
      have hc1 := Resv.at_ext hx1 hcw
      cases hvx : validResv l[k]
      · have hno := validResvs_no (c := c) (now := now) hlt (by simp [resvFits, hvx])
        have HN := Lib.hid hno; clear hno
        go_wp2_with fail
        refine HK.out _ _ (h1) ?_
        clear HK K
        refine blkStep (fun K HK => ?_)
        simp only [pick, List.filterMap_cons, List.filterMap_nil, List.getElem?_toArray, List.getElem?_cons_zero, List.getElem?_cons_succ]
        go_wp2_with fail
        refine HK.out _ _ ?_
        clear HK K
        refine blkSkip [21, 22, 23, 24, 25, 26, 27, 30] (by kernel_rfl) ?_
        simp only [undefs, Act.put, List.setIfInBounds_toArray, List.set_cons_succ, List.set_cons_zero]
        refine oneSkip [28] (by kernel_rfl) ?_
        simp only [undefs, Act.put, List.setIfInBounds_toArray, List.set_cons_succ, List.set_cons_zero]
        refine blkSkip [29, 31] (by kernel_rfl) ?_
        simp only [undefs, Act.put, List.setIfInBounds_toArray, List.set_cons_succ, List.set_cons_zero]
        refine blkStep (fun K HK => ?_)
        simp only [pick, List.filterMap_cons, List.filterMap_nil, List.getElem?_toArray, List.getElem?_cons_zero, List.getElem?_cons_succ]
        go_wp2_with fail
        refine HK.out _ _ ?_
        clear HK K
        refine blkSkip [34, 35, 36, 37, 38, 39, 40, 41, 42, 43, 44, 45, 47] (by kernel_rfl) ?_
        simp only [undefs, Act.put, List.setIfInBounds_toArray, List.set_cons_succ, List.set_cons_zero]
        refine oneSkip [46] (by kernel_rfl) ?_
        simp only [undefs, Act.put, List.setIfInBounds_toArray, List.set_cons_succ, List.set_cons_zero]
        refine blkSkip [48] (by kernel_rfl) ?_
        simp only [undefs, Act.put, List.setIfInBounds_toArray, List.set_cons_succ, List.set_cons_zero]
        refine blkStep (fun K HK => ?_)
        simp only [pick, List.filterMap_cons, List.filterMap_nil, List.getElem?_toArray, List.getElem?_cons_zero, List.getElem?_cons_succ]
        go_wp2_with fail
        refine HK.out _ _ ?_
        clear HK K
        refine doneStep (by kernel_rfl) ?_
        go_wp2_with fail
        go_ret
        exact ⟨ret_bool HN.out.symm, hx1⟩
      · go_wp2_with fail
        refine HK.out _ _ (h1) ?_
        clear HK K
        refine blkStep (fun K HK => ?_)
        simp only [pick, List.filterMap_cons, List.filterMap_nil, List.getElem?_toArray, List.getElem?_cons_zero, List.getElem?_cons_succ]
        go_wp2_with fail
        refine HK.out _ _ ?_
        clear HK K
        refine blkStep (fun K HK => ?_)
        simp only [pick, List.filterMap_cons, List.filterMap_nil, List.getElem?_toArray, List.getElem?_cons_zero, List.getElem?_cons_succ]
        go_wp2_with fail
        refine HK.out _ _ ?_
        clear HK K
        refine oneStep (fun K HK => ?_)
        simp only [pick, List.filterMap_cons, List.filterMap_nil, List.getElem?_toArray, List.getElem?_cons_zero, List.getElem?_cons_succ]
        go_wp2_with fail
        refine (s_l32Without (l.take k) _ l[k] _ (HPT.out.ext hx1) (by simp; omega)).mono ?_
        rintro e w2 ⟨v2, rfl, o2, h2⟩
        obtain ⟨oo2, co2, rfl, hs2⟩ := (OwnF.rd (hf := Resv.flen) o2).shape
        have hx2 := hx1.trans h2
        have hc2 := Resv.at_ext hx2 hcw
        clear o2
        cases hal : (l.take k).all (otherResv l[k])
        · have hlw : (without l[k] (l.take k)).length ≠ k := fun h => by rw [(without_all (by omega)).1 h] at hal; cases hal
          have tl : (((without l[k] (l.take k)).length : Int) != (k : Int)) = true := by rw [bne_iff_ne]; omega
          have hno := validResvs_no (c := c) (now := now) hlt (by rw [hal, Bool.and_false])
          have HN := Lib.hid hno; clear hno hlw hal
          go_wp2_with fail
          refine HK.out _ _ (h2) ?_
          clear HK K
          refine blkStep (fun K HK => ?_)
          simp only [pick, List.filterMap_cons, List.filterMap_nil, List.getElem?_toArray, List.getElem?_cons_zero, List.getElem?_cons_succ]
          go_wp2_with fail
          refine HK.out _ _ ?_
          clear HK K
          refine blkStep (fun K HK => ?_)
          simp only [pick, List.filterMap_cons, List.filterMap_nil, List.getElem?_toArray, List.getElem?_cons_zero, List.getElem?_cons_succ]
          go_wp2_with fail
          refine HK.out _ _ ?_
          clear HK K
          refine blkSkip [34, 35, 36, 37, 38, 39, 40, 41, 42, 43, 44, 45, 47] (by kernel_rfl) ?_
          simp only [undefs, Act.put, List.setIfInBounds_toArray, List.set_cons_succ, List.set_cons_zero]
          refine oneSkip [46] (by kernel_rfl) ?_
          simp only [undefs, Act.put, List.setIfInBounds_toArray, List.set_cons_succ, List.set_cons_zero]
          refine blkSkip [48] (by kernel_rfl) ?_
          simp only [undefs, Act.put, List.setIfInBounds_toArray, List.set_cons_succ, List.set_cons_zero]
          refine blkStep (fun K HK => ?_)
          simp only [pick, List.filterMap_cons, List.filterMap_nil, List.getElem?_toArray, List.getElem?_cons_zero, List.getElem?_cons_succ]
          go_wp2_with fail
          refine HK.out _ _ ?_
          clear HK K
          refine doneStep (by kernel_rfl) ?_
          go_wp2_with fail
          go_ret
          exact ⟨ret_bool HN.out.symm, hx2⟩
        · have hlw : (without l[k] (l.take k)).length = k := (without_all (by omega)).2 hal
          have tl : (((without l[k] (l.take k)).length : Int) != (k : Int)) = false := by rw [hlw]; simp
          clear hlw
          have HAL := Lib.hid hal; clear hal
          go_wp2_with fail
          refine HK.out _ _ (h2) ?_
          clear HK K
          refine blkStep (fun K HK => ?_)
          simp only [pick, List.filterMap_cons, List.filterMap_nil, List.getElem?_toArray, List.getElem?_cons_zero, List.getElem?_cons_succ]
          go_wp2_with fail
          refine HK.out _ _ ?_
          clear HK K
          refine blkStep (fun K HK => ?_)
          simp only [pick, List.filterMap_cons, List.filterMap_nil, List.getElem?_toArray, List.getElem?_cons_zero, List.getElem?_cons_succ]
          go_wp2_with fail
          refine HK.out _ _ ?_
          clear HK K
          refine blkStep (fun K HK => ?_)
          simp only [pick, List.filterMap_cons, List.filterMap_nil, List.getElem?_toArray, List.getElem?_cons_zero, List.getElem?_cons_succ]
          go_wp2_with fail
          refine HK.out _ _ ?_
          clear HK K
          refine oneStep (fun K HK => ?_)
          simp only [pick, List.filterMap_cons, List.filterMap_nil, List.getElem?_toArray, List.getElem?_cons_zero, List.getElem?_cons_succ]
          go_wp2_with fail
          refine (s_ReservedRate l _ _ _ _ _ (hv.ext hx2)).mono ?_
          rintro e w3 ⟨rfl, h3⟩
          by_cases hrt : resvdRate l l[k].asn l[k].iface now ≤ c
          · have hok2 : resvsOk l c now (k + 1) = true := by rw [resvsOk_succ hlt, HOK.out, HAL.out]; simp [resvFits, hvx, hrt]
            have HO2 := Lib.hid hok2; clear hok2
            go_wp2_with fail
            refine HK.out _ _ (h3) ?_
            clear HK K
            refine blkStep (fun K HK => ?_)
            simp only [pick, List.filterMap_cons, List.filterMap_nil, List.getElem?_toArray, List.getElem?_cons_zero, List.getElem?_cons_succ]
            go_wp2_with fail
            refine HK.out _ _ ?_
            clear HK K
            refine blkStep (fun K HK => ?_)
            simp only [pick, List.filterMap_cons, List.filterMap_nil, List.getElem?_toArray, List.getElem?_cons_zero, List.getElem?_cons_succ]
            go_wp2_with fail
            refine HK.out _ _ ?_
            clear HK K
            refine doneStep (by kernel_rfl) ?_
            go_wp2_with fail
            go_roundw
            case rel => exact ⟨k + 1, by omega, by go_num, HO2.out, hx2.trans h3⟩
            case measure => simp [intOf]; omega
          · have hrt2 : c < resvdRate l l[k].asn l[k].iface now := by omega
            have hno := validResvs_no (c := c) (now := now) hlt (by simp [resvFits, hrt])
            have HN := Lib.hid hno; clear hno
            go_wp2_with fail
            refine HK.out _ _ (h3) ?_
            clear HK K
            refine blkStep (fun K HK => ?_)
            simp only [pick, List.filterMap_cons, List.filterMap_nil, List.getElem?_toArray, List.getElem?_cons_zero, List.getElem?_cons_succ]
            go_wp2_with fail
            refine HK.out _ _ ?_
            clear HK K
            refine blkStep (fun K HK => ?_)
            simp only [pick, List.filterMap_cons, List.filterMap_nil, List.getElem?_toArray, List.getElem?_cons_zero, List.getElem?_cons_succ]
            go_wp2_with fail
            refine HK.out _ _ ?_
            clear HK K
            refine doneStep (by kernel_rfl) ?_
            go_wp2_with fail
            go_ret
            exact ⟨ret_bool HN.out.symm, hx2.trans h3⟩
    · obtain rfl : k = l.length := by omega
      have hfin : validResvs l c now = decide (l.length ≤ 40) := by simp [validResvs, HOK.out]
      have HF := Lib.hid hfin; clear hfin
      go_wp2
      go_ret
      refine ⟨ret_bool ?_, hx⟩
      rw [HF.out]
      simp only [decide_eq_decide]
      omega

end Go.Proofs.Ytebmeolkiafdaaa
