/- Contracts of the encoding of revocations, program and reference. No condition but the bounds that each theorem names. -/
import Derived.Test.YtmjpjapjdhgchaaW02
import Derived.Test.YtmjpjapjdhgchaaW31
namespace Go.Proofs.Ytmjpjapjdhgchaa
open Go.ChangeShapes Go.WideShapes Go.ChangeAt Go.RowKit Go.Deep

def encRev (x : Revc) : List Int := if validRev x then encInts [x.asn, x.iface, x.till] else []
theorem encRev_len (x : Revc) : (encRev x).length ≤ 4294967296 := by
  unfold encRev
  split
  · have := encInts_len [x.asn, x.iface, x.till]
    simp at this; omega
  · simp

set_option maxHeartbeats 1000000 in
theorem i_EncodeRevocation (x : Revc) (w : World) :
    Calls Try.prog 51 #[.agg #[.int .i64 x.asn, .int .i64 x.iface, .int .i64 x.till]] w fun e w' => ∃ v', e = .returned v' ∧ OwnF byteF 1 w.heap.size 5 w' v' (encRev x) ∧ Ext w w' := by
  go_enter Try.func51, Try.ntmps51
  go_wp2_with fail
  have hB := blk_new w (.cells #[.int .i64 x.asn, .int .i64 x.iface, .int .i64 x.till] 25)
  have hx0 := (Ext.refl w).alloc (.cells #[.int .i64 x.asn, .int .i64 x.iface, .int .i64 x.till] 25)
  generalize w.alloc (.cells #[.int .i64 x.asn, .int .i64 x.iface, .int .i64 x.till] 25) = W0 at hB hx0 ⊢
  refine (i_ValidRevocation x _).mono ?_
  rintro e w1 ⟨rfl, h1⟩
  have hcb := blk3 (h1.block hB)
  have hx1 := hx0.trans h1
  clear hB
  cases hvx : validRev x
  · have he : encRev x = [] := by simp [encRev, hvx]
    have HE := Lib.hid he; clear he
    go_wp2_with fail
    go_ret
    rw [HE.out]
    exact ⟨_, rfl, OwnF.nil _ _ _ _ _, hx1⟩
  · have he : encRev x = encInts [x.asn, x.iface, x.till] := by simp [encRev, hvx]
    have HE := Lib.hid he; clear he
    have hlit := OwnF.lit intFlen w1.heap.size 3 w1 [x.asn, x.iface, x.till] (Nat.le_refl _) (by simp [maxLen])
    go_wp2_with fail
    refine (i_EncodeInts [x.asn, x.iface, x.till] _ _ (ints_rep hlit) (by simp)).mono ?_
    rintro e w2 ⟨v2, rfl, o2, h2⟩
    have hx2 := (hx1.alloc _).trans h2
    clear hlit
    go_wp2_with fail
    go_ret
    rw [HE.out]
    exact ⟨_, rfl, o2.mono (hx1.alloc _).size, hx2⟩

set_option maxHeartbeats 1000000 in
theorem s_EncodeRevocation (x : Revc) (w : World) :
    Calls Try.prog 50 #[.agg #[.int .i64 x.asn, .int .i64 x.iface, .int .i64 x.till]] w fun e w' => ∃ v', e = .returned v' ∧ OwnF byteF 1 w.heap.size 5 w' v' (encRev x) ∧ Ext w w' := by
  go_enter Try.func50, Try.ntmps50
  go_wp2_with fail
  have hB := blk_new w (.cells #[.int .i64 x.asn, .int .i64 x.iface, .int .i64 x.till] 25)
  have hx0 := (Ext.refl w).alloc (.cells #[.int .i64 x.asn, .int .i64 x.iface, .int .i64 x.till] 25)
  generalize w.alloc (.cells #[.int .i64 x.asn, .int .i64 x.iface, .int .i64 x.till] 25) = W0 at hB hx0 ⊢
  refine (s_ValidRevocation x _).mono ?_
  rintro e w1 ⟨rfl, h1⟩
  have hcb := blk3 (h1.block hB)
  have hx1 := hx0.trans h1
  clear hB
  cases hvx : validRev x
  · have he : encRev x = [] := by simp [encRev, hvx]
    have HE := Lib.hid he; clear he
    go_wp2_with fail
    go_ret
    rw [HE.out]
    exact ⟨_, rfl, (OwnF.empty byteF 1 w1.heap.size 5 w1 (Nat.le_refl _)).mono hx1.size, hx1.alloc _⟩
  · have he : encRev x = encInts [x.asn, x.iface, x.till] := by simp [encRev, hvx]
    have HE := Lib.hid he; clear he
    have hlit := OwnF.lit intFlen w1.heap.size 3 w1 [x.asn, x.iface, x.till] (Nat.le_refl _) (by simp [maxLen])
    go_wp2_with fail
    refine (s_EncodeInts [x.asn, x.iface, x.till] _ _ (ints_rep hlit) (by simp)).mono ?_
    rintro e w2 ⟨v2, rfl, o2, h2⟩
    have hx2 := (hx1.alloc _).trans h2
    clear hlit
    go_wp2_with fail
    go_ret
    rw [HE.out]
    exact ⟨_, rfl, o2.mono (hx1.alloc _).size, hx2⟩

end Go.Proofs.Ytmjpjapjdhgchaa
