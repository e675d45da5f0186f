/- Contracts of the counts of a scheduler, program and reference. No condition but the bounds that each theorem names. -/
import Derived.Test.YtjcojpnfoblpgaaTySched
import Derived.Test.YtjcojpnfoblpgaaW32
namespace Go.Proofs.Ytjcojpnfoblpgaa
open Go.ChangeShapes Go.WideShapes Go.ChangeAt Go.RowKit Go.Deep

def usgAt (a i : Int) (x : Usg) : Bool := (x.asn == a) && (x.iface == i)
def sumCount (a i : Int) : List Usg → Int → Int
  | [], m => m
  | x :: l, m => sumCount a i l (if usgAt a i x then wrap64 (m + x.count) else m)
def sentCount (l : List Usg) (a i : Int) : Int := sumCount a i l 0
def usgIs (id a i : Int) (x : Usg) : Bool := (x.id == id) && ((x.asn == a) && (x.iface == i))
def placeFrom (id a i : Int) : List Usg → Nat → Int
  | [], _ => -1
  | x :: l, k => if usgIs id a i x then k else placeFrom id a i l (k + 1)
def place (l : List Usg) (id a i : Int) : Int := placeFrom id a i l 0
theorem placeFrom_some {id a i : Int} : ∀ (l : List Usg) (k : Nat), placeFrom id a i l k = -1 ∨ ∃ j, ∃ (h : j < l.length), placeFrom id a i l k = (k : Int) + j
  | [], _ => .inl rfl
  | x :: l, k => by
    by_cases h : usgIs id a i x = true
    · right; exact ⟨0, by simp, by simp [placeFrom, h]⟩
    · rcases placeFrom_some (id := id) (a := a) (i := i) l (k + 1) with e | ⟨j, hj, e⟩
      · left; simp [placeFrom, h, e]
      · right; refine ⟨j + 1, by simpa using hj, ?_⟩
        simp only [placeFrom, h, e]; simp; omega
def usedCount (l : List Usg) (id a i : Int) : Int := match l.find? (usgIs id a i) with
  | some x => x.count
  | none => 0
theorem placeFrom_find {id a i : Int} : ∀ (l : List Usg) (k : Nat), (placeFrom id a i l k = -1 ∧ l.find? (usgIs id a i) = none) ∨ ∃ j, ∃ (h : j < l.length), placeFrom id a i l k = (k : Int) + j ∧ l.find? (usgIs id a i) = some l[j]
  | [], _ => .inl ⟨rfl, rfl⟩
  | x :: l, k => by
    by_cases h : usgIs id a i x = true
    · right; exact ⟨0, by simp, by simp [placeFrom, h], by simp [h]⟩
    · rcases placeFrom_find (id := id) (a := a) (i := i) l (k + 1) with ⟨e, f⟩ | ⟨j, hj, e, f⟩
      · left; simp [placeFrom, h, e, f]
      · right; refine ⟨j + 1, by simpa using hj, ?_, by simp [h, f]⟩
        simp only [placeFrom, h, e]; simp; omega

set_option maxHeartbeats 1000000 in
theorem i_SentCount (x : Schd) (v1 v2 : Value) (a i : Int) (w : World) (r1 : RdS Resv.rep w v1 x.rs) (r2 : RdS Usg.rep w v2 x.us) :
    Calls Try.prog 53 #[.agg #[.int .i64 x.cap, v1, v2], .int .i64 a, .int .i64 i] w fun e w' => e = .returned (.int .i64 (sentCount x.us a i)) ∧ Ext w w' := by
  obtain ⟨o, cap, rfl, hsm⟩ := r2.shape
  go_enter Try.func53, Try.ntmps53
  have hx0 : Ext w (w.alloc (.cells #[.int .i64 x.cap, v1, .slice o x.us.length cap] 67)) := (Ext.refl _).alloc _
  go_wp2
  go_loopw [7, 9, 13] (fun n _ i' wr => ∃ k : Nat, k ≤ x.us.length ∧ i' = .int .i64 k ∧ (∃ m : Int, n = .int .i64 m ∧ sumCount a i (x.us.drop k) m = sentCount x.us a i) ∧ Ext w wr) (fun _ _ i _ => x.us.length - (intOf i).toNat)
  case atStart => exact ⟨0, Nat.zero_le _, rfl, ⟨_, rfl, rfl⟩, hx0⟩
  case round =>
    obtain ⟨k, hk, rfl, ⟨m, rfl, hm⟩, hx⟩ := hrel
    have Hm := Lib.hid hm; clear hm
    by_cases hlt : k < x.us.length
    · obtain ⟨b, off, rfl, hc⟩ := Usg.at (r2.ext hx) k hlt
      have hstep : sumCount a i (x.us.drop (k + 1)) (if usgAt a i x.us[k] then wrap64 (m + x.us[k].count) else m) = sentCount x.us a i := by
        rw [← Hm.out, List.drop_eq_getElem_cons hlt]; rfl
      have HS := Lib.hid hstep; clear hstep
      go_wp2_with fail
      all_goals
        go_roundw
        case rel =>
          refine ⟨k + 1, by omega, by go_num, ⟨_, rfl, ?_⟩, hx.alloc _⟩
          rw [← HS.out]
          simp [usgAt, *]
        case measure => simp [intOf]; omega
    · go_wp2
      go_ret
      refine ⟨?_, hx⟩
      rw [← Hm.out, List.drop_of_length_le (by omega)]; rfl
set_option maxHeartbeats 1000000 in
theorem s_SentCount (x : Schd) (v1 v2 : Value) (a i : Int) (w : World) (r1 : RdS Resv.rep w v1 x.rs) (r2 : RdS Usg.rep w v2 x.us) :
    Calls Try.prog 51 #[.agg #[.int .i64 x.cap, v1, v2], .int .i64 a, .int .i64 i] w fun e w' => e = .returned (.int .i64 (sentCount x.us a i)) ∧ Ext w w' := by
  obtain ⟨o, cap, rfl, hsm⟩ := r2.shape
  go_enter Try.func51, Try.ntmps51
  have hx0 : Ext w (w.alloc (.cells #[.int .i64 x.cap, v1, .slice o x.us.length cap] 67)) := (Ext.refl _).alloc _
  go_wp2
  go_loop [7, 8] (fun n i' => ∃ k : Nat, k ≤ x.us.length ∧ i' = .int .i64 k ∧ (∃ m : Int, n = .int .i64 m ∧ sumCount a i (x.us.drop k) m = sentCount x.us a i)) (fun _ i => x.us.length - (intOf i).toNat)
  case atStart => exact ⟨0, Nat.zero_le _, rfl, ⟨_, rfl, rfl⟩⟩
  case round =>
    obtain ⟨k, hk, rfl, ⟨m, rfl, hm⟩⟩ := hrel
    have Hm := Lib.hid hm; clear hm
    by_cases hlt : k < x.us.length
    · obtain ⟨b, off, rfl, hc⟩ := Usg.at (r2.ext hx0) k hlt
      have hstep : sumCount a i (x.us.drop (k + 1)) (if usgAt a i x.us[k] then wrap64 (m + x.us[k].count) else m) = sentCount x.us a i := by
        rw [← Hm.out, List.drop_eq_getElem_cons hlt]; rfl
      have HS := Lib.hid hstep; clear hstep
      go_wp2_with fail
      all_goals
        go_round
        case rel =>
          refine ⟨k + 1, by omega, by go_num, ⟨_, rfl, ?_⟩⟩
          rw [← HS.out]
          simp [usgAt, *]
        case measure => simp [intOf]; omega
    · go_wp2
      go_ret
      refine ⟨?_, hx0⟩
      rw [← Hm.out, List.drop_of_length_le (by omega)]; rfl
set_option maxHeartbeats 1000000 in
theorem i_usageAt (x : Schd) (v1 v2 : Value) (id a i : Int) (w : World) (r1 : RdS Resv.rep w v1 x.rs) (r2 : RdS Usg.rep w v2 x.us) :
    Calls Try.prog 112 #[.agg #[.int .i64 x.cap, v1, v2], .int .i64 id, .int .i64 a, .int .i64 i] w fun e w' => e = .returned (.int .i64 (place x.us id a i)) ∧ Ext w w' := by
  obtain ⟨o, cap, rfl, hsm⟩ := r2.shape
  go_enter Try.func112, Try.ntmps112
  have hx0 : Ext w (w.alloc (.cells #[.int .i64 x.cap, v1, .slice o x.us.length cap] 67)) := (Ext.refl _).alloc _
  go_wp2
  go_loopw [9, 10, 14] (fun _ _ i' wr => ∃ k : Nat, k ≤ x.us.length ∧ i' = .int .i64 k ∧ placeFrom id a i (x.us.drop k) k = place x.us id a i ∧ Ext w wr) (fun _ _ i _ => x.us.length - (intOf i).toNat)
  case atStart => exact ⟨0, Nat.zero_le _, rfl, rfl, hx0⟩
  case round =>
    obtain ⟨k, hk, rfl, hm, hx⟩ := hrel
    have Hm := Lib.hid hm; clear hm
    by_cases hlt : k < x.us.length
    · obtain ⟨b, off, rfl, hc⟩ := Usg.at (r2.ext hx) k hlt
      have hstep : (if usgIs id a i x.us[k] then (k : Int) else placeFrom id a i (x.us.drop (k + 1)) (k + 1)) = place x.us id a i := by
        rw [← Hm.out, List.drop_eq_getElem_cons hlt]; rfl
      have HS := Lib.hid hstep; clear hstep
      go_wp2_with fail
      all_goals first
        | (go_ret; refine ⟨ret_int ?_, hx.alloc _⟩; rw [← HS.out, if_pos (by simp [usgIs, *])])
        | (go_roundw
           case rel =>
             refine ⟨k + 1, by omega, by go_num, ?_, hx.alloc _⟩
             rw [← HS.out, if_neg (by simp [usgIs, *])]
           case measure => simp [intOf]; omega)
    · go_wp2
      go_ret
      refine ⟨?_, hx⟩
      rw [← Hm.out, List.drop_of_length_le (by omega)]; rfl
set_option maxHeartbeats 1000000 in
theorem s_l34Place (l : List Usg) (v : Value) (id a i : Int) (w : World) (r2 : RdS Usg.rep w v l) :
    Calls Try.prog 111 #[v, .int .i64 id, .int .i64 a, .int .i64 i] w fun e w' => e = .returned (.int .i64 (place l id a i)) ∧ w = w' := by
  obtain ⟨o, cap, rfl, hsm⟩ := r2.shape
  go_enter Try.func111, Try.ntmps111
  go_wp2
  go_loop [9] (fun i' => ∃ k : Nat, k ≤ l.length ∧ i' = .int .i64 k ∧ placeFrom id a i (l.drop k) k = place l id a i) (fun i => l.length - (intOf i).toNat)
  case atStart => exact ⟨0, Nat.zero_le _, rfl, rfl⟩
  case round =>
    obtain ⟨k, hk, rfl, hm⟩ := hrel
    have Hm := Lib.hid hm; clear hm
    by_cases hlt : k < l.length
    · obtain ⟨b, off, rfl, hc⟩ := Usg.at r2 k hlt
      have hstep : (if usgIs id a i l[k] then (k : Int) else placeFrom id a i (l.drop (k + 1)) (k + 1)) = place l id a i := by
        rw [← Hm.out, List.drop_eq_getElem_cons hlt]; rfl
      have HS := Lib.hid hstep; clear hstep
      go_wp2_with fail
      all_goals first
        | (go_ret; refine ⟨ret_int ?_, rfl⟩; rw [← HS.out, if_pos (by simp [usgIs, *])])
        | (go_round
           case rel =>
             refine ⟨k + 1, by omega, by go_num, ?_⟩
             rw [← HS.out, if_neg (by simp [usgIs, *])]
           case measure => simp [intOf]; omega)
    · go_wp2
      go_ret
      refine ⟨?_, rfl⟩
      rw [← Hm.out, List.drop_of_length_le (by omega)]; rfl
set_option maxHeartbeats 1000000 in
theorem i_UsedCount (x : Schd) (v1 v2 : Value) (id a i : Int) (w : World) (r1 : RdS Resv.rep w v1 x.rs) (r2 : RdS Usg.rep w v2 x.us) :
    Calls Try.prog 59 #[.agg #[.int .i64 x.cap, v1, v2], .int .i64 id, .int .i64 a, .int .i64 i] w fun e w' => e = .returned (.int .i64 (usedCount x.us id a i)) ∧ Ext w w' := by
  obtain ⟨o, cap, rfl, hsm⟩ := r2.shape
  go_enter Try.func59, Try.ntmps59
  have hx0 : Ext w (w.alloc (.cells #[.int .i64 x.cap, v1, .slice o x.us.length cap] 67)) := (Ext.refl _).alloc _
  go_wp2_with fail
  refine (i_usageAt x _ _ id a i _ (r1.ext hx0) (r2.ext hx0)).mono ?_
  rintro e w1 ⟨rfl, k1⟩
  have hx1 := hx0.trans k1
  have hc1 := blk3 (k1.block (blk_new w _))
  rcases placeFrom_find (id := id) (a := a) (i := i) x.us 0 with ⟨e1, e2⟩ | ⟨j, hj, e1, e2⟩
  · have hu : usedCount x.us id a i = 0 := by simp [usedCount, e2]
    have HU := Lib.hid hu; clear hu
    rw [show place x.us id a i = -1 from e1]
    clear e1 e2
    go_wp2_with fail
    go_ret
    exact ⟨ret_int HU.out.symm, hx1⟩
  · have hu : usedCount x.us id a i = x.us[j].count := by simp [usedCount, e2]
    have HU := Lib.hid hu; clear hu
    rw [show place x.us id a i = (j : Int) from by simpa [place] using e1]
    clear e1 e2
    obtain ⟨b, off, rfl, hc⟩ := Usg.at (r2.ext hx1) j hj
    go_wp2_with fail
    go_ret
    exact ⟨ret_int HU.out.symm, hx1⟩
set_option maxHeartbeats 1000000 in
theorem s_UsedCount (x : Schd) (v1 v2 : Value) (id a i : Int) (w : World) (r1 : RdS Resv.rep w v1 x.rs) (r2 : RdS Usg.rep w v2 x.us) :
    Calls Try.prog 58 #[.agg #[.int .i64 x.cap, v1, v2], .int .i64 id, .int .i64 a, .int .i64 i] w fun e w' => e = .returned (.int .i64 (usedCount x.us id a i)) ∧ Ext w w' := by
  obtain ⟨o, cap, rfl, hsm⟩ := r2.shape
  go_enter Try.func58, Try.ntmps58
  have hx0 : Ext w (w.alloc (.cells #[.int .i64 x.cap, v1, .slice o x.us.length cap] 67)) := (Ext.refl _).alloc _
  go_wp2_with fail
  refine (s_l34Place x.us _ id a i _ (r2.ext hx0)).mono ?_
  rintro e w1 ⟨rfl, rfl⟩
  rcases placeFrom_find (id := id) (a := a) (i := i) x.us 0 with ⟨e1, e2⟩ | ⟨j, hj, e1, e2⟩
  · have hu : usedCount x.us id a i = 0 := by simp [usedCount, e2]
    have HU := Lib.hid hu; clear hu
    rw [show place x.us id a i = -1 from e1]
    clear e1 e2
    go_wp2_with fail
    go_ret
    exact ⟨ret_int HU.out.symm, hx0⟩
  · have hu : usedCount x.us id a i = x.us[j].count := by simp [usedCount, e2]
    have HU := Lib.hid hu; clear hu
    rw [show place x.us id a i = (j : Int) from by simpa [place] using e1]
    clear e1 e2
    obtain ⟨b, off, rfl, hc⟩ := Usg.at (r2.ext hx0) j hj
    go_wp2_with fail
    go_ret
    exact ⟨ret_int HU.out.symm, hx0⟩
end Go.Proofs.Ytjcojpnfoblpgaa
