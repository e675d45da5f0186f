/- Contracts of the test of a list of reservations, program and reference. No condition but the bounds that each theorem names. -/
import Derived.Test.YtebmeolkiafdaaaW34
import Derived.Test.YtebmeolkiafdaaaSched
namespace Go.Proofs.Ytebmeolkiafdaaa
open Go.ChangeShapes Go.WideShapes Go.ChangeAt Go.RowKit Go.Deep

def resvFits (l : List Resv) (c now : Int) (x : Resv) : Bool := validResv x && decide (resvdRate l x.asn x.iface now ≤ c)
/-- Each fits, and none has the number and the interface of one before it. -/
def resvsOk (l : List Resv) (c now : Int) (k : Nat) : Bool := (List.range k).all fun i => match l[i]? with
  | none => true
  | some x => resvFits l c now x && (l.take i).all (otherResv x)
def validResvs (l : List Resv) (c now : Int) : Bool := decide (l.length ≤ 40) && resvsOk l c now l.length
theorem resvsOk_succ {l : List Resv} {c now : Int} {k : Nat} (hk : k < l.length) : resvsOk l c now (k + 1) = (resvsOk l c now k && (resvFits l c now l[k] && (l.take k).all (otherResv l[k]))) := by
  simp [resvsOk, List.range_succ, List.getElem?_eq_getElem hk]
theorem resvsOk_mono {l : List Resv} {c now : Int} {k m : Nat} (h : k ≤ m) (hn : resvsOk l c now k = false) : resvsOk l c now m = false := by
  simp only [resvsOk, List.all_eq_false, List.mem_range] at hn ⊢
  obtain ⟨i, hi, hh⟩ := hn
  exact ⟨i, by omega, hh⟩
theorem validResvs_no {l : List Resv} {c now : Int} {k : Nat} (hk : k < l.length) (h : (resvFits l c now l[k] && (l.take k).all (otherResv l[k])) = false) : validResvs l c now = false := by
  have : resvsOk l c now (k + 1) = false := by rw [resvsOk_succ hk, h, Bool.and_false]
  simp [validResvs, resvsOk_mono (m := l.length) (by omega) this]

set_option maxRecDepth 100000 in
set_option maxHeartbeats 40000000 in
theorem i_ValidReservations (l : List Resv) (v : Value) (c now : Int) (w : World) (hv : RdS Resv.rep w v l) :
    Calls Try.prog 30 #[v, .int .i64 c, .int .i64 now] w fun e w' => e = .returned (.bool (validResvs l c now)) ∧ Ext w w' := by
  obtain ⟨o, cap, rfl, hsm⟩ := hv.shape
  by_cases h40 : l.length ≤ 40
  · have h40i : (l.length : Int) ≤ 40 := by omega
    go_enter Try.func30, Try.ntmps30
    go_wp2
    go_loopw [16] (fun i wr => ∃ (k : Nat), k ≤ l.length ∧ i = .int .i64 k ∧ resvsOk l c now k = true ∧ Ext w wr) (fun i _ => l.length - (intOf i).toNat)
    case atStart => exact ⟨0, Nat.zero_le _, rfl, rfl, Ext.refl _⟩
    case round =>
      obtain ⟨k, hk, rfl, hok, hx⟩ := hrel
      have HOK := Lib.hid hok; clear hok
      by_cases hlt : k < l.length
      · obtain ⟨b, off, rfl, hcw⟩ := Resv.at hv k hlt
        have hc := Resv.at_ext hx hcw
        have hlk1 : (k : Int) < (l.length : Int) := by omega
        cases hvx : validResv l[k]
        · have hno := validResvs_no (c := c) (now := now) hlt (by simp [resvFits, hvx])
          have HN := Lib.hid hno; clear hno
          go_wp2_with fail
          refine (i_ValidReservation l[k] _).mono ?_
          rintro e w1 ⟨rfl, h1⟩
          go_wp2_with fail
          go_ret
          exact ⟨ret_bool HN.out.symm, (hx.alloc _).trans h1⟩
        · go_wp2_with fail
          refine (i_ValidReservation l[k] _).mono ?_
          rintro e w1 ⟨rfl, h1⟩
          have hb1 := h1.block (blk_new wr _)
          have hcb1 := blk5 hb1
          have hx1 := (hx.alloc _).trans h1
          go_wp2_with fail
          refine (i_ReservedRate l _ _ _ _ _ (hv.ext hx1)).mono ?_
          rintro e w2 ⟨rfl, h2⟩
          have hx2 := hx1.trans h2
          have hb2 := h2.block hb1
          have HB2 := Lib.hid hb2; clear hb1 hb2 hcb1
          by_cases hrt : resvdRate l l[k].asn l[k].iface now ≤ c
          · have hfit : resvFits l c now l[k] = true := by simp [resvFits, hvx, hrt]
            have HF := Lib.hid hfit; clear hfit
            have hcap := hv.capLe
            have hkc : k ≤ cap := by omega
            go_wp2_with fail
            obtain ⟨wo, hwo⟩ : ∃ wo : World, wo = wr := ⟨_, rfl⟩
            subst hwo
            go_loopw [39] (fun i wi => ∃ (j : Nat), j ≤ k ∧ i = .int .i64 j ∧ (l.take j).all (otherResv l[k]) = true ∧ Ext w2 wi) (fun i _ => k - (intOf i).toNat)
            case atStart => exact ⟨0, Nat.zero_le _, rfl, rfl, Ext.refl _⟩
            case round =>
              obtain ⟨j, hj, rfl, hall, hxi⟩ := hrel
              have HAL := Lib.hid hall; clear hall
              have hbx := hxi.block HB2.out
              have hcbx := blk5 hbx
              have HBX := Lib.hid hbx; clear hbx
              by_cases hjk : j < k
              · have hjl : j < l.length := by omega
                obtain ⟨b', off', he, hcj⟩ := Resv.at hv j hjl
                cases he
                have hcj2 := Resv.at_ext (hx2.trans hxi) hcj
                have hjk1 : (j : Int) < (k : Int) := by omega
                have hsn : (l.take (j + 1)).all (otherResv l[k]) = ((l.take j).all (otherResv l[k]) && otherResv l[k] l[j]) := by
                  rw [List.take_succ_eq_append_getElem hjl, List.all_append]; simp
                have HSN := Lib.hid hsn; clear hsn
                have hcbx2 := blk5 (Ext.block ((Ext.refl wr).alloc (.cells #[.int .i64 l[j].id, .int .i64 l[j].asn, .int .i64 l[j].iface, .int .i64 l[j].rate, .int .i64 l[j].till] 26)) HBX.out)
                cases hid : (l[j].id == l[k].id)
                · have ho : otherResv l[k] l[j] = true := by simp only [otherResv, bne, hid, Bool.not_false, Bool.true_or]
                  have hal2 : (l.take (j + 1)).all (otherResv l[k]) = true := by rw [HSN.out, HAL.out, ho]; rfl
                  have HA2 := Lib.hid hal2; clear hal2 ho
                  go_wp2_with fail
                  go_roundw
                  case rel => exact ⟨j + 1, by omega, by go_num, HA2.out, hxi.alloc _⟩
                  case measure => simp [intOf]; omega
                · go_wp2_with fail
                  refine (i_at l[j] _ _ _).mono ?_
                  rintro e w3 ⟨rfl, h3⟩
                  have hx3 := (hxi.alloc _).trans h3
                  cases hat : resvAt l[j] l[k].asn l[k].iface
                  · have ho : otherResv l[k] l[j] = true := by simp only [otherResv, hat, Bool.not_false, Bool.or_true]
                    have hal2 : (l.take (j + 1)).all (otherResv l[k]) = true := by rw [HSN.out, HAL.out, ho]; rfl
                    have HA2 := Lib.hid hal2; clear hal2 ho
                    go_wp2_with fail
                    go_roundw
                    case rel => exact ⟨j + 1, by omega, by go_num, HA2.out, hx3⟩
                    case measure => simp [intOf]; omega
                  · have ho : otherResv l[k] l[j] = false := by simp only [otherResv, bne, hid, hat, Bool.not_true, Bool.or_false]
                    have hal2 : (l.take k).all (otherResv l[k]) = false := by
                      rw [List.all_eq_false]
                      exact ⟨l[j], List.mem_take_iff_getElem.2 ⟨j, by omega, rfl⟩, by rw [ho]; decide⟩
                    have hno := validResvs_no (c := c) (now := now) hlt (by rw [hal2, Bool.and_false])
                    have HN := Lib.hid hno; clear hno hal2 ho
                    go_wp2_with fail
                    go_ret
                    exact ⟨ret_bool HN.out.symm, hx2.trans hx3⟩
              · obtain rfl : j = k := by omega
                have hok2 : resvsOk l c now (j + 1) = true := by rw [resvsOk_succ hlt, HOK.out, HF.out, HAL.out]; rfl
                have HO2 := Lib.hid hok2; clear hok2
                go_wp2
                go_roundw
                case rel => exact ⟨j + 1, by omega, by go_num, HO2.out, hx2.trans hxi⟩
                case measure => simp [intOf]; omega
          · have hrt2 : c < resvdRate l l[k].asn l[k].iface now := by omega
            have hno := validResvs_no (c := c) (now := now) hlt (by simp [resvFits, hrt])
            have HN := Lib.hid hno; clear hno
            go_wp2_with fail
            go_ret
            exact ⟨ret_bool HN.out.symm, hx2⟩
      · obtain rfl : k = l.length := by omega
        have hyes : validResvs l c now = true := by simp [validResvs, HOK.out, h40]
        have HY := Lib.hid hyes; clear hyes
        go_wp2
        go_ret
        exact ⟨ret_bool HY.out.symm, hx⟩
  · have h40i : (40 : Int) < (l.length : Int) := by omega
    have hno : validResvs l c now = false := by simp [validResvs, h40]
    have HN := Lib.hid hno; clear hno
    go_enter Try.func30, Try.ntmps30
    go_wp2
    go_ret
    exact ⟨ret_bool HN.out.symm, Ext.refl _⟩

end Go.Proofs.Ytebmeolkiafdaaa
