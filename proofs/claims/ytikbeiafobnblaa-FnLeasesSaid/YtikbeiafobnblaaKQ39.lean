/- What these laws need: FnLeases: Contracts of the IDs of reservations, program and reference. -/
import Derived.Deep.DeepCutAuto
import Derived.Deep.LoopGhost
import Derived.Test.YtikbeiafobnblaaKQ4
import Derived.Test.YtikbeiafobnblaaKQ37
namespace Go.Proofs.Ytikbeiafobnblaa
section
open Go.ChangeShapes Go.WideShapes Go.ChangeAt Go.RowKit Go.Deep
def idStep (out : List Int) (x : Resv) : List Int := insInt x.id out
def idsOf (l : List Resv) : List Int := l.foldl idStep []
theorem foldl_snocI {α β : Type} (f : β → α → β) (z : β) {l : List α} {k : Nat} (hk : k < l.length) : (l.take (k + 1)).foldl f z = f ((l.take k).foldl f z) l[k] := by
 rw [List.take_succ_eq_append_getElem hk, List.foldl_append]; rfl
theorem idsOf_len (l : List Resv) : (idsOf l).length ≤ l.length := by
 have : ∀ (l : List Resv) (z : List Int), (l.foldl idStep z).length ≤ z.length + l.length := by
  intro l
  induction l with
  | nil => intro z; simp
  | cons x l ih => intro z; have h1 := ih (idStep z x); have h2 := insInt_len x.id z; simp only [List.foldl_cons, List.length_cons]; unfold idStep at *; omega
 simpa [idsOf] using this l []
def asc (l : List Int) : Prop := l.Pairwise (· < ·)
theorem mem_insInt {n y : Int} : ∀ {l : List Int}, y ∈ insInt n l → y = n ∨ y ∈ l
 | [], h => by simp [insInt] at h; exact .inl h
 | x :: l, h => by
  unfold insInt at h
  split at h
  ·
   rcases List.mem_cons.1 h with h | h
   ·
    exact .inr (by simp [h])
   ·
    rcases mem_insInt h with h | h
    ·
     exact .inl h
    ·
     exact .inr (by simp [h])
  ·
   split at h
   ·
    exact .inr h
   ·
    rcases List.mem_cons.1 h with h | h
    ·
     exact .inl h
    ·
     exact .inr h
theorem insInt_asc {n : Int} : ∀ {l : List Int}, asc l → asc (insInt n l)
 | [], _ => by simp [insInt, asc]
 | x :: l, h => by
  obtain ⟨h1, h2⟩ := List.pairwise_cons.1 h
  unfold insInt
  split
  ·
   rename_i hx
   refine List.pairwise_cons.2 ⟨fun y hy => ?_, insInt_asc h2⟩
   rcases mem_insInt hy with rfl | hy
   ·
    exact hx
   ·
    exact h1 y hy
  ·
   split
   ·
    exact h
   ·
    rename_i hx hne
    refine List.pairwise_cons.2 ⟨fun y hy => ?_, h⟩
    rcases List.mem_cons.1 hy with rfl | hy
    ·
     omega
    ·
     have := h1 y hy; omega
theorem ids_asc (l : List Resv) : asc (idsOf l) := by
 have : ∀ (l : List Resv) (z : List Int), asc z → asc (l.foldl idStep z) := by
  intro l
  induction l with
  | nil => intro z h; exact h
  | cons x l ih => intro z h; exact ih _ (insInt_asc h)
 exact this l [] List.Pairwise.nil
theorem asc_below {n : Int} {l : List Int} {k : Nat} (h : asc l) (hk : k < l.length) (hx : l[k] < n) : below n l (k + 1) := by
 intro j hj hjk
 rcases Nat.lt_or_ge j k with h1 | h1
 ·
  have := List.pairwise_iff_getElem.1 h j k hj hk h1; omega
 ·
  obtain rfl : j = k := by omega
  exact hx
theorem asc_below' {n : Int} {l : List Int} {k : Nat} (h : asc l) (hk : k < l.length) (hx : l[k] = n) : below n l k := by
 intro j hj hjk
 have := List.pairwise_iff_getElem.1 h j k hj hk hjk
 omega
def above (n : Int) (l : List Int) (k : Nat) : Prop := ∀ (j : Nat) (h : j < l.length), k ≤ j → n < l[j]
theorem above_end (n : Int) (l : List Int) : above n l l.length := fun j h hk => absurd h (by omega)
theorem above_pred {n : Int} {l : List Int} {k : Nat} (h : above n l (k + 1)) (hk : k < l.length) (hx : n < l[k]) : above n l k := by
 intro j hj hjk
 rcases Nat.lt_or_ge k j with h1 | h1
 ·
  exact h j hj h1
 ·
  obtain rfl : j = k := by omega
  exact hx
set_option maxRecDepth 100000 in
set_option maxHeartbeats 2000000 in
theorem i_ReservationIDs (l : List Resv) (v : Value) (w : World) (hv : RdS Resv.rep w v l) (hl : l.length ≤ 1048576) :
  Calls Try.prog 64 #[v] w fun e w' => ∃ v', e = .returned v' ∧ OwnF intF 1 w.heap.size 3 w' v' (idsOf l) ∧ Ext w w' := by
 obtain ⟨o, cap, rfl, hsm⟩ := hv.shape
 have HTI := Lib.hid (show idsOf l = l.foldl idStep [] from rfl)
 go_enter Try.func64, Try.ntmps64
 go_wp2
 go_loopg [3, 8] l.length (fun gk out i wr => ∃ (k : Nat) (xs : List Int), gk + k = l.length ∧ i = .int .i64 k ∧ Hid (xs = (l.take k).foldl idStep []) ∧ xs.length ≤ k ∧ OwnF intF 1 w.heap.size 3 wr out xs ∧ Ext w wr)
 case atStart => exact ⟨0, [], rfl, rfl, Lib.hid rfl, Nat.le_refl _, OwnF.nil _ _ _ _ _, Ext.refl _⟩
 case round =>
  obtain ⟨k, xs, hgk, rfl, HX, hxl, hown, hx⟩ := hrel
  obtain ⟨oo, co, rfl, _⟩ := (ints_rep hown).shape
  by_cases hlt : k < l.length
  ·
   obtain ⟨b, off, rfl, hc⟩ := Resv.at (hv.ext hx) k hlt
   have hg' : gk - 1 + (k + 1) = l.length ∧ gk - 1 < gk := by omega
   have HG := Lib.hid hg'; clear hg' hgk
   have HST := Lib.hid (show insInt l[k].id xs = (l.take (k + 1)).foldl idStep [] by rw [foldl_snocI _ _ hlt, ← HX.out]; rfl)
   have hi1 := insInt_len l[k].id xs
   have hxa : Ext wr (wr.alloc (.cells #[.int .i64 l[k].id, .int .i64 l[k].asn, .int .i64 l[k].iface, .int .i64 l[k].rate, .int .i64 l[k].till] 171)) := (Ext.refl _).alloc _
   go_wp2_with fail
   refine (i_insertInt xs _ l[k].id w.heap.size _ (hown.ext hxa) (Nat.le_trans hx.size hxa.size) (by omega)).mono ?_
   rintro e w2 ⟨v2, rfl, o2, k2⟩
   go_wp2_with fail
   go_roundg (gk - 1)
   case measure => exact HG.out.2
   case rel => exact ⟨k + 1, _, HG.out.1, by go_num, HST, by omega, o2, (hx.trans hxa).trans k2⟩
  ·
   have HXS := Lib.hid (show xs = idsOf l by have := HX.out; rw [List.take_of_length_le (by omega)] at this; exact this)
   go_wp2
   go_ret
   rw [← HXS.out]
   exact ⟨_, rfl, hown, hx⟩
def moreAt (n : Int) (l : List Int) : Nat → Bool
 | 0 => false
 | j + 1 => match l[j]? with | some x => decide (n < x) | none => false
def newAt (n : Int) (l : List Int) : Nat → Bool
 | 0 => true
 | j + 1 => match l[j]? with | some x => x != n | none => true
theorem moreAt_zero (n : Int) (l : List Int) : moreAt n l 0 = false := rfl
theorem moreAt_succ {n : Int} {l : List Int} {j : Nat} (h : j < l.length) : moreAt n l (j + 1) = decide (n < l[j]) := by simp [moreAt, h]
theorem newAt_zero (n : Int) (l : List Int) : newAt n l 0 = true := rfl
theorem newAt_succ {n : Int} {l : List Int} {j : Nat} (h : j < l.length) : newAt n l (j + 1) = (l[j] != n) := by simp [newAt, h]
theorem more_pred {n : Int} {l : List Int} {j : Nat} (hj : j ≤ l.length) (h : above n l j) (hm : true = moreAt n l j) : 0 < j ∧ above n l (j - 1) := by
 cases j with
 | zero => cases hm
 | succ j =>
  rw [moreAt_succ (by omega)] at hm
  exact ⟨Nat.succ_pos _, above_pred h (by omega) (by simpa using hm.symm)⟩
theorem more_hit {n : Int} {l : List Int} {j : Nat} (ha : asc l) (hj : j ≤ l.length) (hn : false = newAt n l j) : insInt n l = l := by
 cases j with
 | zero => cases hn
 | succ j =>
  rw [newAt_succ (by omega)] at hn
  have he : l[j]'(by omega) = n := by simpa using hn.symm
  exact insInt_hit (asc_below' ha (by omega) he) (by omega) he
theorem more_put {n : Int} {l : List Int} {j : Nat} (ha : asc l) (hj : j ≤ l.length) (hab : above n l j) (hm : false = moreAt n l j) (hn : true = newAt n l j) : insInt n l = (l.take j ++ [n]) ++ l.drop j := by
 cases j with
 | zero => exact insInt_put (below_zero _ _) hj (fun h => hab _ h (Nat.le_refl _))
 | succ j =>
  rw [newAt_succ (by omega)] at hn
  rw [moreAt_succ (by omega)] at hm
  have h1 : ¬ n < l[j]'(by omega) := by simpa using hm.symm
  have h2 : l[j]'(by omega) ≠ n := by simpa using hn.symm
  exact insInt_put (asc_below ha (by omega) (by omega)) hj (fun h => hab _ h (Nat.le_refl _))
set_option maxRecDepth 100000 in
set_option maxHeartbeats 3000000 in
theorem s_ReservationIDs (rs : List Resv) (v : Value) (w : World) (hv : RdS Resv.rep w v rs) (hl : rs.length ≤ 1048576) :
  Calls Try.prog 65 #[v] w fun e w' => ∃ v', e = .returned v' ∧ OwnF intF 1 w.heap.size 3 w' v' (idsOf rs) ∧ Ext w w' := by
 obtain ⟨o, cap, rfl, hsm⟩ := hv.shape
 obtain ⟨E⟩ := elemInt
 have HTI := Lib.hid (show idsOf rs = rs.foldl idStep [] from rfl)
 go_enter Try.func65, Try.ntmps65
 go_wp2
 go_loopg [3, 4] rs.length (fun gk out i wr => ∃ (k : Nat) (xs : List Int), gk + k = rs.length ∧ i = .int .i64 k ∧ Hid (xs = (rs.take k).foldl idStep []) ∧ xs.length ≤ k ∧ OwnF intF 1 w.heap.size 3 wr out xs ∧ Ext w wr)
 case atStart => exact ⟨0, [], rfl, rfl, Lib.hid rfl, Nat.le_refl _, OwnF.empty _ _ _ _ _ (Nat.le_refl _), (Ext.refl _).alloc _⟩
 case round =>
  obtain ⟨m, l, hgk, rfl, HX, hxl, hown, hx⟩ := hrel
  obtain ⟨oo, co, rfl, _⟩ := (ints_rep hown).shape
  by_cases hlt : m < rs.length
  ·
   obtain ⟨b, off, rfl, hc⟩ := Resv.at (hv.ext hx) m hlt
   have hg' : gk - 1 + (m + 1) = rs.length ∧ gk - 1 < gk := by omega
   have HG := Lib.hid hg'; clear hg' hgk
   have HST := Lib.hid (show insInt rs[m].id l = (rs.take (m + 1)).foldl idStep [] by rw [foldl_snocI _ _ hlt, ← HX.out]; rfl)
   have hi1 := insInt_len rs[m].id l
   have HAS : Hid (asc l) := Lib.hid (by rw [HX.out]; exact ids_asc (rs.take m))
   have hcn := hc.1
   generalize rs[m].id = n at HST hi1 hcn
   clear hc
   have HCN := Lib.hid hcn; clear hcn
   go_wp2_with fail
   obtain ⟨go, hgo⟩ : ∃ go : Nat, go = gk := ⟨_, rfl⟩
   subst hgo
   obtain ⟨wo, hwo⟩ : ∃ wo : World, wo = wr := ⟨_, rfl⟩
   subst hwo
   go_loopg [5] l.length (fun gj kk wr => ∃ j : Nat, gj = j ∧ kk = .int .i64 j ∧ j ≤ l.length ∧ Hid (above n l j) ∧ Ext wo wr)
   case atStart => exact ⟨l.length, rfl, rfl, Nat.le_refl _, Lib.hid (above_end _ _), Ext.refl _⟩
   case round =>
    obtain ⟨j, hgj, rfl, hjl, HAB, hxp⟩ := hrel
    have HGJ := Lib.hid hgj; clear hgj
    go_upto_region 6 with (fail)
    go_cut [29] (fun c wx => ∃ cb : Bool, c = .bool cb ∧ Hid (cb = moreAt n l j) ∧ Ext wr wx)
    case first =>
     obtain ⟨j', hj'⟩ | hj0 : (∃ j', j = j' + 1) ∨ j = 0 := by
      cases j with
      | zero => exact .inr rfl
      | succ j => exact .inl ⟨j, rfl⟩
     ·
      subst hj'
      have hjlt : j' < l.length := by omega
      have howp := hown.ext hxp
      obtain ⟨g, cg, hve, _, _⟩ := howp.some_shape (by omega)
      cases hve
      have hcj := ints_own_at howp j' hjlt
      have hcn := hxp.cell HCN.out
      have HMJ := Lib.hid (moreAt_succ (n := n) hjlt)
      refine planStep (.blk [0, 1, 2] (.blk [3, 4, 5, 6, 7, 8, 9, 10, 11, 12, 13] (.blk [14] .done))) [] (by kernel_rfl) (by kernel_rfl) ?_
      refine blkStep (fun K HK => ?_)
      simp only [PK]
      go_wp2_with fail
      refine HK.out _ _ ?_
      clear HK K
      refine blkStep (fun K HK => ?_)
      simp only [PK]
      go_wp2_with fail
      refine HK.out _ _ ?_
      clear HK K
      refine blkStep (fun K HK => ?_)
      simp only [PK]
      go_wp2_with fail
      refine HK.out _ _ ?_
      clear HK K
      refine doneStep (by kernel_rfl) ?_
      go_wp2_with fail
      go_meet
      exact ⟨_, rfl, Lib.hid HMJ.out.symm, (Ext.refl _).drew⟩
     ·
      have HM0 : Hid (moreAt n l j = moreAt n l 0) := Lib.hid (by rw [hj0])
      have hj1 : ¬ 0 < j := by omega
      have hj3 : decide (0 < j) = false := by simp; omega
      have hj2 : ((j : Int) == 0) = true := by rw [beq_iff_eq]; omega
      have HJ0 := Lib.hid hj0; clear hj0
      refine planStep (.blk [0, 1, 2] (.blk [3, 4, 5, 6, 7, 8, 9, 10, 11, 12, 13] (.blk [14] .done))) [] (by kernel_rfl) (by kernel_rfl) ?_
      refine blkStep (fun K HK => ?_)
      simp only [PK]
      go_wp2_with fail
      refine HK.out _ _ ?_
      clear HK K
      refine blkSkip [18, 19, 20, 21, 22, 23, 24, 25, 26, 27, 28] (by kernel_rfl) ?_
      simp only [undefs, Act.put, List.setIfInBounds_toArray, List.set_cons_succ, List.set_cons_zero]
      refine blkStep (fun K HK => ?_)
      simp only [PK]
      go_wp2_with fail
      refine HK.out _ _ ?_
      clear HK K
      refine doneStep (by kernel_rfl) ?_
      go_wp2_with fail
      go_meet
      exact ⟨_, rfl, Lib.hid HM0.out.symm, (Ext.refl _).drew⟩
    case rest =>
    obtain ⟨cb, rfl, Hcb, hxcb⟩ := hcut
    obtain ⟨wcb, hwcb⟩ : ∃ wA : World, wA = wc := ⟨_, rfl⟩
    subst hwcb
    cases cb
    case true =>
     have HP := Lib.hid (more_pred hjl HAB.out Hcb.out)
     go_wp2_with fail
     go_roundg (j - 1)
     case measure => rw [HGJ.out]; have := HP.out.1; omega
     case rel => exact ⟨j - 1, rfl, by rw [show ((j - 1 : Nat) : Int) = (j : Int) - 1 by have := HP.out.1; omega], by omega, Lib.hid HP.out.2, hxp.trans hxcb⟩
    case false =>
     have hxp1 := hxp.trans hxcb
     clear hxp
     have hxp := hxp1
     clear hxp1
     go_upto_region 8 with (fail)
     go_cut [46] (fun c wx => ∃ cb : Bool, c = .bool cb ∧ Hid (cb = newAt n l j) ∧ Ext wcb wx)
     case first =>
      obtain ⟨j', hj'⟩ | hj0 : (∃ j', j = j' + 1) ∨ j = 0 := by
       cases j with
       | zero => exact .inr rfl
       | succ j => exact .inl ⟨j, rfl⟩
      ·
       subst hj'
       have hjlt : j' < l.length := by omega
       have howp := hown.ext hxp
       obtain ⟨g, cg, hve, _, _⟩ := howp.some_shape (by omega)
       cases hve
       have hcj := ints_own_at howp j' hjlt
       have hcn := hxp.cell HCN.out
       have HMJ := Lib.hid (newAt_succ (n := n) hjlt)
       refine planStep (.blk [0, 1, 2] (.blk [3, 4, 5, 6, 7, 8, 9, 10, 11, 12, 13] (.blk [14] .done))) [] (by kernel_rfl) (by kernel_rfl) ?_
       refine blkStep (fun K HK => ?_)
       simp only [PK]
       go_wp2_with fail
       refine HK.out _ _ ?_
       clear HK K
       refine blkStep (fun K HK => ?_)
       simp only [PK]
       go_wp2_with fail
       refine HK.out _ _ ?_
       clear HK K
       refine blkStep (fun K HK => ?_)
       simp only [PK]
       go_wp2_with fail
       refine HK.out _ _ ?_
       clear HK K
       refine doneStep (by kernel_rfl) ?_
       go_wp2_with fail
       go_meet
       exact ⟨_, rfl, Lib.hid HMJ.out.symm, (Ext.refl _).drew⟩
      ·
       have HM0 : Hid (newAt n l j = newAt n l 0) := Lib.hid (by rw [hj0])
       have hj1 : ¬ 0 < j := by omega
       have hj3 : decide (0 < j) = false := by simp; omega
       have hj2 : ((j : Int) == 0) = true := by rw [beq_iff_eq]; omega
       have HJ0 := Lib.hid hj0; clear hj0
       refine planStep (.blk [0, 1, 2] (.blk [3, 4, 5, 6, 7, 8, 9, 10, 11, 12, 13] (.blk [14] .done))) [] (by kernel_rfl) (by kernel_rfl) ?_
       refine blkStep (fun K HK => ?_)
       simp only [PK]
       go_wp2_with fail
       refine HK.out _ _ ?_
       clear HK K
       refine blkSkip [35, 36, 37, 38, 39, 40, 41, 42, 43, 44, 45] (by kernel_rfl) ?_
       simp only [undefs, Act.put, List.setIfInBounds_toArray, List.set_cons_succ, List.set_cons_zero]
       refine blkStep (fun K HK => ?_)
       simp only [PK]
       go_wp2_with fail
       refine HK.out _ _ ?_
       clear HK K
       refine doneStep (by kernel_rfl) ?_
       go_wp2_with fail
       go_meet
       exact ⟨_, rfl, Lib.hid HM0.out.symm, (Ext.refl _).drew⟩
     case rest =>
     obtain ⟨eb, rfl, Heb, hxeb⟩ := hcut
     obtain ⟨web, hweb⟩ : ∃ wA : World, wA = wc := ⟨_, rfl⟩
     subst hweb
     have hxq := hxp.trans hxeb
     cases eb
     case false =>
      have HI := Lib.hid (more_hit HAS.out hjl Heb.out)
      go_wp2_with fail
      go_roundg (go - 1)
      case measure => exact HG.out.2
      case rel => exact ⟨m + 1, l, HG.out.1, by go_num, Lib.hid (by rw [← HST.out]; exact HI.out.symm), by omega, hown.ext hxq, hx.trans hxq⟩
     case true =>
      have HI := Lib.hid (more_put HAS.out hjl HAB.out Hcb.out Heb.out)
      have hcq := hxq.cell HCN.out
      have hb : w.heap.size ≤ web.heap.size := Nat.le_trans hx.size hxq.size
      obtain ⟨wq, hwq⟩ : ∃ wA : World, wA = web := ⟨_, rfl⟩
      subst hwq
      go_wp2_with fail
      rcases (hown.ext hxq).2 with ⟨hve, hn⟩ | ⟨g, cap, cur, hve, hbg, hg, hnc, hcm, _, _⟩
      ·
       simp only [Value.slice.injEq] at hve
       obtain ⟨rfl, hve2, rfl⟩ := hve
       clear hve2
       have HL0 := Lib.hid (List.eq_nil_of_length_eq_zero hn)
       clear hn
       have hj0 : j = 0 := by have h := HL0.out; rw [h] at hjl; simpa using hjl
       subst hj0
       obtain ⟨kz, hkz⟩ : ∃ kz : Nat, kz = 0 := ⟨0, rfl⟩
       have HI2 : Hid (insInt n l = (l.take kz ++ [n]) ++ l.drop kz) := Lib.hid (by rw [hkz]; exact HI.out)
       clear HI
       have HI := HI2
       have hrq := ints_rep (hown.ext hxq)
       have HH : Hid (RdS Rep.int wq (.slice none 0 0) (l.take kz) ∧ RdS Rep.int wq (.slice none l.length 0) (l.drop kz)) := Lib.hid ⟨by rw [hkz, HL0.out]; exact RdS.nil _ _, by rw [hkz]; exact hrq⟩
       clear hkz hrq
       refine planStep (.blk [1, 2, 3, 5, 6, 7, 8, 9, 12, 13, 14] (.two 0 10 (.two 4 10 (.one 10 (.one 11 (.one 15 (.blk [16] .done)))) (.one 4 (.one 11 (.one 15 (.blk [16] .done))))) (.one 0 (.one 4 (.one 11 (.one 15 (.blk [16] .done))))))) [11, 15] (by kernel_rfl) (by kernel_rfl) ?_
       refine blkStep (fun K HK => ?_)
       simp only [PK]
       go_wp2_with fail
       refine HK.out _ _ ?_
       clear HK K
       refine twoStep ?_ ?_
       ·
        refine oneStep (fun K HK => ?_)
        simp only [pick, List.filterMap_cons, List.filterMap_nil, List.getElem?_toArray, List.getElem?_cons_zero]
        go_wp2_with fail
        refine HK.out _ _ ((Ext.refl _).alloc _) ?_
        clear HK K
        refine twoStep ?_ ?_
        ·
         refine oneStep (fun K HK => ?_)
         simp only [PK]
         refine appE (g := wq.heap.size) E intFlen intOne rfl _ _ rfl (l.take kz) rfl (OwnF.empty intF 1 wq.heap.size 3 wq.drew (by simp)) rfl (HH.out.1.ext ((Ext.refl wq).drew.alloc (.cells #[] 3))) (by simp only [List.length_take]; omega) (by simp only [List.length_take, maxLen]; omega) ((Ext.refl wq).drew.alloc (.cells #[] 3)).size ?_
         intro v1 w1 o1 hy1
         have hx1 : Ext wq w1 := ((Ext.refl wq).drew.alloc (.cells #[] 3)).trans hy1
         go_wp2_with fail
         refine HK.out _ _ hy1 ?_
         clear HK K
         refine oneStep (fun K HK => ?_)
         simp only [PK]
         go_wp2_with fail
         refine HK.out _ _ ((Ext.refl _).alloc _) ?_
         clear HK K
         refine badStep (by kernel_rfl) (fun K HK => ?_)
         simp only [PK]
         refine app1 E intFlen intOne rfl _ _ rfl n rfl (OwnF.ext o1 ((Ext.refl w1).alloc _)) rfl (by exact blk_list (intF n) (blk_new w1 _)) (by simp only [List.length_take]; omega) (by simp only [List.length_take, maxLen]; omega) (by exact (hx1.alloc _).size) ?_
         intro v3 w3 o3 hg3
         have hx3 : Ext wq w3 := (hx1.alloc _).app hg3 o1 (Nat.le_refl _)
         clear hg3
         go_wp2_with fail
         refine HK.out _ _ ?_
         clear HK K
         refine badStep (by kernel_rfl) (fun K HK => ?_)
         simp only [PK]
         refine appS E intFlen intOne rfl _ _ rfl (l.drop kz) rfl o3 rfl (HH.out.2.ext hx3) (by simp only [List.length_append, List.length_take, List.length_drop, List.length_cons, List.length_nil]; omega) (by simp only [List.length_append, List.length_take, List.length_drop, List.length_cons, List.length_nil, maxLen]; omega) hx3.size ?_
         intro v4 w4 o4 hg4
         have hx4 : Ext wq w4 := hx3.app hg4 o3 (Nat.le_refl _)
         rw [← HI.out] at o4
         have o4' := o4.mono hb
         clear hg4 o4
         go_wp2_with fail
         refine HK.out _ _ ?_
         clear HK K
         refine blkStep (fun K HK => ?_)
         simp only [PK]
         go_wp2_with fail
         refine HK.out _ _ ?_
         clear HK K
         refine doneStep (by kernel_rfl) ?_
         go_wp2_with fail
         go_roundg (go - 1)
         case measure => exact HG.out.2
         case rel => exact ⟨m + 1, _, HG.out.1, by go_num, HST, by omega, o4', hx.trans (hxq.trans hx4)⟩
        ·
         refine oneStep (fun K HK => ?_)
         simp only [PK]
         go_wp2_with fail
         refine HK.out _ _ ((Ext.refl _).alloc _) ?_
         clear HK K
         have hb2 := blk_new2 wq.drew (.cells #[] 3) (.cells #[.int .i64 n] 3)
         have HB2 := Lib.hid hb2; clear hb2
         refine oneStep (fun K HK => ?_)
         simp only [PK]
         refine appE (g := wq.heap.size) E intFlen intOne rfl _ _ rfl (l.take kz) rfl (OwnF.ext (OwnF.empty intF 1 wq.heap.size 3 wq.drew (by simp)) ((Ext.refl _).alloc (.cells #[.int .i64 n] 3))) rfl (HH.out.1.ext (((Ext.refl wq).drew.alloc (.cells #[] 3)).alloc (.cells #[.int .i64 n] 3))) (by simp only [List.length_take]; omega) (by simp only [List.length_take, maxLen]; omega) (((Ext.refl wq).drew.alloc (.cells #[] 3)).alloc (.cells #[.int .i64 n] 3)).size ?_
         intro v1 w1 o1 hy1
         have hx1 : Ext wq w1 := (((Ext.refl wq).drew.alloc (.cells #[] 3)).alloc (.cells #[.int .i64 n] 3)).trans hy1
         go_wp2_with fail
         refine HK.out _ _ hy1 ?_
         clear HK K
         refine badStep (by kernel_rfl) (fun K HK => ?_)
         simp only [PK]
         refine app1 E intFlen intOne rfl _ _ rfl n rfl o1 rfl (by exact blk_list (intF n) (hy1.block HB2.out)) (by simp only [List.length_take]; omega) (by simp only [List.length_take, maxLen]; omega) hx1.size ?_
         intro v3 w3 o3 hg3
         have hx3 : Ext wq w3 := hx1.app hg3 o1 (Nat.le_refl _)
         clear hg3
         go_wp2_with fail
         refine HK.out _ _ ?_
         clear HK K
         refine badStep (by kernel_rfl) (fun K HK => ?_)
         simp only [PK]
         refine appS E intFlen intOne rfl _ _ rfl (l.drop kz) rfl o3 rfl (HH.out.2.ext hx3) (by simp only [List.length_append, List.length_take, List.length_drop, List.length_cons, List.length_nil]; omega) (by simp only [List.length_append, List.length_take, List.length_drop, List.length_cons, List.length_nil, maxLen]; omega) hx3.size ?_
         intro v4 w4 o4 hg4
         have hx4 : Ext wq w4 := hx3.app hg4 o3 (Nat.le_refl _)
         rw [← HI.out] at o4
         have o4' := o4.mono hb
         clear hg4 o4
         go_wp2_with fail
         refine HK.out _ _ ?_
         clear HK K
         refine blkStep (fun K HK => ?_)
         simp only [PK]
         go_wp2_with fail
         refine HK.out _ _ ?_
         clear HK K
         refine doneStep (by kernel_rfl) ?_
         go_wp2_with fail
         go_roundg (go - 1)
         case measure => exact HG.out.2
         case rel => exact ⟨m + 1, _, HG.out.1, by go_num, HST, by omega, o4', hx.trans (hxq.trans hx4)⟩
       ·
        refine oneStep (fun K HK => ?_)
        simp only [PK]
        go_wp2_with fail
        refine HK.out _ _ ((Ext.refl _).alloc _) ?_
        clear HK K
        refine oneStep (fun K HK => ?_)
        simp only [pick, List.filterMap_cons, List.filterMap_nil, List.getElem?_toArray, List.getElem?_cons_zero]
        go_wp2_with fail
        refine HK.out _ _ ((Ext.refl _).alloc _) ?_
        clear HK K
        have hb2 := (al2 wq.drew (.cells #[.int .i64 n] 3) (.cells #[] 3)).1
        have HB2 := Lib.hid hb2; clear hb2
        refine oneStep (fun K HK => ?_)
        simp only [PK]
        refine appE (g := wq.heap.size + 1) E intFlen intOne rfl _ _ rfl (l.take kz) rfl (OwnF.emptyAt (f := intF) (n := 1) (e := 3) (w := wq.drew.alloc (.cells #[.int .i64 n] 3)) (g := wq.heap.size + 1) (base := wq.heap.size) (by simp) (by omega)) rfl (HH.out.1.ext (((Ext.refl wq).drew.alloc (.cells #[.int .i64 n] 3)).alloc (.cells #[] 3))) (by simp only [List.length_take]; omega) (by simp only [List.length_take, maxLen]; omega) (((Ext.refl wq).drew.alloc (.cells #[.int .i64 n] 3)).alloc (.cells #[] 3)).size ?_
        intro v1 w1 o1 hy1
        have hx1 : Ext wq w1 := (((Ext.refl wq).drew.alloc (.cells #[.int .i64 n] 3)).alloc (.cells #[] 3)).trans hy1
        go_wp2_with fail
        refine HK.out _ _ hy1 ?_
        clear HK K
        refine badStep (by kernel_rfl) (fun K HK => ?_)
        simp only [PK]
        refine app1 E intFlen intOne rfl _ _ rfl n rfl o1 rfl (by exact blk_list (intF n) (hy1.block HB2.out)) (by simp only [List.length_take]; omega) (by simp only [List.length_take, maxLen]; omega) hx1.size ?_
        intro v3 w3 o3 hg3
        have hx3 : Ext wq w3 := hx1.app hg3 o1 (Nat.le_refl _)
        clear hg3
        go_wp2_with fail
        refine HK.out _ _ ?_
        clear HK K
        refine badStep (by kernel_rfl) (fun K HK => ?_)
        simp only [PK]
        refine appS E intFlen intOne rfl _ _ rfl (l.drop kz) rfl o3 rfl (HH.out.2.ext hx3) (by simp only [List.length_append, List.length_take, List.length_drop, List.length_cons, List.length_nil]; omega) (by simp only [List.length_append, List.length_take, List.length_drop, List.length_cons, List.length_nil, maxLen]; omega) hx3.size ?_
        intro v4 w4 o4 hg4
        have hx4 : Ext wq w4 := hx3.app hg4 o3 (Nat.le_refl _)
        rw [← HI.out] at o4
        have o4' := o4.mono hb
        clear hg4 o4
        go_wp2_with fail
        refine HK.out _ _ ?_
        clear HK K
        refine blkStep (fun K HK => ?_)
        simp only [PK]
        go_wp2_with fail
        refine HK.out _ _ ?_
        clear HK K
        refine doneStep (by kernel_rfl) ?_
        go_wp2_with fail
        go_roundg (go - 1)
        case measure => exact HG.out.2
        case rel => exact ⟨m + 1, _, HG.out.1, by go_num, HST, by omega, o4', hx.trans (hxq.trans hx4)⟩
      ·
       simp only [Value.slice.injEq] at hve
       obtain ⟨rfl, hve2, rfl⟩ := hve
       clear hg hve2
       by_cases hkc : j < co
       ·
        have HH := Lib.hid (halves (hown.ext hxq) j hjl)
        refine planStep (.blk [1, 2, 3, 5, 6, 7, 8, 9, 12, 13, 14] (.two 0 10 (.two 4 10 (.one 10 (.one 11 (.one 15 (.blk [16] .done)))) (.one 4 (.one 11 (.one 15 (.blk [16] .done))))) (.one 0 (.one 4 (.one 11 (.one 15 (.blk [16] .done))))))) [11, 15] (by kernel_rfl) (by kernel_rfl) ?_
        refine blkStep (fun K HK => ?_)
        simp only [PK]
        go_wp2_with fail
        refine HK.out _ _ ?_
        clear HK K
        refine twoStep ?_ ?_
        ·
         refine oneStep (fun K HK => ?_)
         simp only [pick, List.filterMap_cons, List.filterMap_nil, List.getElem?_toArray, List.getElem?_cons_zero]
         go_wp2_with fail
         refine HK.out _ _ ((Ext.refl _).alloc _) ?_
         clear HK K
         refine twoStep ?_ ?_
         ·
          refine oneStep (fun K HK => ?_)
          simp only [PK]
          refine appE (g := wq.heap.size) E intFlen intOne rfl _ _ rfl (l.take j) rfl (OwnF.empty intF 1 wq.heap.size 3 wq.drew (by simp)) rfl (HH.out.1.ext ((Ext.refl wq).drew.alloc (.cells #[] 3))) (by simp only [List.length_take]; omega) (by simp only [List.length_take, maxLen]; omega) ((Ext.refl wq).drew.alloc (.cells #[] 3)).size ?_
          intro v1 w1 o1 hy1
          have hx1 : Ext wq w1 := ((Ext.refl wq).drew.alloc (.cells #[] 3)).trans hy1
          go_wp2_with fail
          refine HK.out _ _ hy1 ?_
          clear HK K
          refine oneStep (fun K HK => ?_)
          simp only [PK]
          go_wp2_with fail
          refine HK.out _ _ ((Ext.refl _).alloc _) ?_
          clear HK K
          refine badStep (by kernel_rfl) (fun K HK => ?_)
          simp only [PK]
          refine app1 E intFlen intOne rfl _ _ rfl n rfl (OwnF.ext o1 ((Ext.refl w1).alloc _)) rfl (by exact blk_list (intF n) (blk_new w1 _)) (by simp only [List.length_take]; omega) (by simp only [List.length_take, maxLen]; omega) (by exact (hx1.alloc _).size) ?_
          intro v3 w3 o3 hg3
          have hx3 : Ext wq w3 := (hx1.alloc _).app hg3 o1 (Nat.le_refl _)
          clear hg3
          go_wp2_with fail
          refine HK.out _ _ ?_
          clear HK K
          refine badStep (by kernel_rfl) (fun K HK => ?_)
          simp only [PK]
          refine appS E intFlen intOne rfl _ _ rfl (l.drop j) rfl o3 rfl (HH.out.2.ext hx3) (by simp only [List.length_append, List.length_take, List.length_drop, List.length_cons, List.length_nil]; omega) (by simp only [List.length_append, List.length_take, List.length_drop, List.length_cons, List.length_nil, maxLen]; omega) hx3.size ?_
          intro v4 w4 o4 hg4
          have hx4 : Ext wq w4 := hx3.app hg4 o3 (Nat.le_refl _)
          rw [← HI.out] at o4
          have o4' := o4.mono hb
          clear hg4 o4
          go_wp2_with fail
          refine HK.out _ _ ?_
          clear HK K
          refine blkStep (fun K HK => ?_)
          simp only [PK]
          go_wp2_with fail
          refine HK.out _ _ ?_
          clear HK K
          refine doneStep (by kernel_rfl) ?_
          go_wp2_with fail
          go_roundg (go - 1)
          case measure => exact HG.out.2
          case rel => exact ⟨m + 1, _, HG.out.1, by go_num, HST, by omega, o4', hx.trans (hxq.trans hx4)⟩
         ·
          refine oneStep (fun K HK => ?_)
          simp only [PK]
          go_wp2_with fail
          refine HK.out _ _ ((Ext.refl _).alloc _) ?_
          clear HK K
          have hb2 := blk_new2 wq.drew (.cells #[] 3) (.cells #[.int .i64 n] 3)
          have HB2 := Lib.hid hb2; clear hb2
          refine oneStep (fun K HK => ?_)
          simp only [PK]
          refine appE (g := wq.heap.size) E intFlen intOne rfl _ _ rfl (l.take j) rfl (OwnF.ext (OwnF.empty intF 1 wq.heap.size 3 wq.drew (by simp)) ((Ext.refl _).alloc (.cells #[.int .i64 n] 3))) rfl (HH.out.1.ext (((Ext.refl wq).drew.alloc (.cells #[] 3)).alloc (.cells #[.int .i64 n] 3))) (by simp only [List.length_take]; omega) (by simp only [List.length_take, maxLen]; omega) (((Ext.refl wq).drew.alloc (.cells #[] 3)).alloc (.cells #[.int .i64 n] 3)).size ?_
          intro v1 w1 o1 hy1
          have hx1 : Ext wq w1 := (((Ext.refl wq).drew.alloc (.cells #[] 3)).alloc (.cells #[.int .i64 n] 3)).trans hy1
          go_wp2_with fail
          refine HK.out _ _ hy1 ?_
          clear HK K
          refine badStep (by kernel_rfl) (fun K HK => ?_)
          simp only [PK]
          refine app1 E intFlen intOne rfl _ _ rfl n rfl o1 rfl (by exact blk_list (intF n) (hy1.block HB2.out)) (by simp only [List.length_take]; omega) (by simp only [List.length_take, maxLen]; omega) hx1.size ?_
          intro v3 w3 o3 hg3
          have hx3 : Ext wq w3 := hx1.app hg3 o1 (Nat.le_refl _)
          clear hg3
          go_wp2_with fail
          refine HK.out _ _ ?_
          clear HK K
          refine badStep (by kernel_rfl) (fun K HK => ?_)
          simp only [PK]
          refine appS E intFlen intOne rfl _ _ rfl (l.drop j) rfl o3 rfl (HH.out.2.ext hx3) (by simp only [List.length_append, List.length_take, List.length_drop, List.length_cons, List.length_nil]; omega) (by simp only [List.length_append, List.length_take, List.length_drop, List.length_cons, List.length_nil, maxLen]; omega) hx3.size ?_
          intro v4 w4 o4 hg4
          have hx4 : Ext wq w4 := hx3.app hg4 o3 (Nat.le_refl _)
          rw [← HI.out] at o4
          have o4' := o4.mono hb
          clear hg4 o4
          go_wp2_with fail
          refine HK.out _ _ ?_
          clear HK K
          refine blkStep (fun K HK => ?_)
          simp only [PK]
          go_wp2_with fail
          refine HK.out _ _ ?_
          clear HK K
          refine doneStep (by kernel_rfl) ?_
          go_wp2_with fail
          go_roundg (go - 1)
          case measure => exact HG.out.2
          case rel => exact ⟨m + 1, _, HG.out.1, by go_num, HST, by omega, o4', hx.trans (hxq.trans hx4)⟩
        ·
         refine oneStep (fun K HK => ?_)
         simp only [PK]
         go_wp2_with fail
         refine HK.out _ _ ((Ext.refl _).alloc _) ?_
         clear HK K
         refine oneStep (fun K HK => ?_)
         simp only [pick, List.filterMap_cons, List.filterMap_nil, List.getElem?_toArray, List.getElem?_cons_zero]
         go_wp2_with fail
         refine HK.out _ _ ((Ext.refl _).alloc _) ?_
         clear HK K
         have hb2 := (al2 wq.drew (.cells #[.int .i64 n] 3) (.cells #[] 3)).1
         have HB2 := Lib.hid hb2; clear hb2
         refine oneStep (fun K HK => ?_)
         simp only [PK]
         refine appE (g := wq.heap.size + 1) E intFlen intOne rfl _ _ rfl (l.take j) rfl (OwnF.emptyAt (f := intF) (n := 1) (e := 3) (w := wq.drew.alloc (.cells #[.int .i64 n] 3)) (g := wq.heap.size + 1) (base := wq.heap.size) (by simp) (by omega)) rfl (HH.out.1.ext (((Ext.refl wq).drew.alloc (.cells #[.int .i64 n] 3)).alloc (.cells #[] 3))) (by simp only [List.length_take]; omega) (by simp only [List.length_take, maxLen]; omega) (((Ext.refl wq).drew.alloc (.cells #[.int .i64 n] 3)).alloc (.cells #[] 3)).size ?_
         intro v1 w1 o1 hy1
         have hx1 : Ext wq w1 := (((Ext.refl wq).drew.alloc (.cells #[.int .i64 n] 3)).alloc (.cells #[] 3)).trans hy1
         go_wp2_with fail
         refine HK.out _ _ hy1 ?_
         clear HK K
         refine badStep (by kernel_rfl) (fun K HK => ?_)
         simp only [PK]
         refine app1 E intFlen intOne rfl _ _ rfl n rfl o1 rfl (by exact blk_list (intF n) (hy1.block HB2.out)) (by simp only [List.length_take]; omega) (by simp only [List.length_take, maxLen]; omega) hx1.size ?_
         intro v3 w3 o3 hg3
         have hx3 : Ext wq w3 := hx1.app hg3 o1 (Nat.le_refl _)
         clear hg3
         go_wp2_with fail
         refine HK.out _ _ ?_
         clear HK K
         refine badStep (by kernel_rfl) (fun K HK => ?_)
         simp only [PK]
         refine appS E intFlen intOne rfl _ _ rfl (l.drop j) rfl o3 rfl (HH.out.2.ext hx3) (by simp only [List.length_append, List.length_take, List.length_drop, List.length_cons, List.length_nil]; omega) (by simp only [List.length_append, List.length_take, List.length_drop, List.length_cons, List.length_nil, maxLen]; omega) hx3.size ?_
         intro v4 w4 o4 hg4
         have hx4 : Ext wq w4 := hx3.app hg4 o3 (Nat.le_refl _)
         rw [← HI.out] at o4
         have o4' := o4.mono hb
         clear hg4 o4
         go_wp2_with fail
         refine HK.out _ _ ?_
         clear HK K
         refine blkStep (fun K HK => ?_)
         simp only [PK]
         go_wp2_with fail
         refine HK.out _ _ ?_
         clear HK K
         refine doneStep (by kernel_rfl) ?_
         go_wp2_with fail
         go_roundg (go - 1)
         case measure => exact HG.out.2
         case rel => exact ⟨m + 1, _, HG.out.1, by go_num, HST, by omega, o4', hx.trans (hxq.trans hx4)⟩
       ·
        obtain rfl : co = j := by omega
        have HH := Lib.hid (halvesEnd (hown.ext hxq) (by omega))
        refine planStep (.blk [1, 2, 3, 5, 6, 7, 8, 9, 12, 13, 14] (.two 0 10 (.two 4 10 (.one 10 (.one 11 (.one 15 (.blk [16] .done)))) (.one 4 (.one 11 (.one 15 (.blk [16] .done))))) (.one 0 (.one 4 (.one 11 (.one 15 (.blk [16] .done))))))) [11, 15] (by kernel_rfl) (by kernel_rfl) ?_
        refine blkStep (fun K HK => ?_)
        simp only [PK]
        go_wp2_with fail
        refine HK.out _ _ ?_
        clear HK K
        refine twoStep ?_ ?_
        ·
         refine oneStep (fun K HK => ?_)
         simp only [pick, List.filterMap_cons, List.filterMap_nil, List.getElem?_toArray, List.getElem?_cons_zero]
         go_wp2_with fail
         refine HK.out _ _ ((Ext.refl _).alloc _) ?_
         clear HK K
         refine twoStep ?_ ?_
         ·
          refine oneStep (fun K HK => ?_)
          simp only [PK]
          refine appE (g := wq.heap.size) E intFlen intOne rfl _ _ rfl (l.take co) rfl (OwnF.empty intF 1 wq.heap.size 3 wq.drew (by simp)) rfl (HH.out.1.ext ((Ext.refl wq).drew.alloc (.cells #[] 3))) (by simp only [List.length_take]; omega) (by simp only [List.length_take, maxLen]; omega) ((Ext.refl wq).drew.alloc (.cells #[] 3)).size ?_
          intro v1 w1 o1 hy1
          have hx1 : Ext wq w1 := ((Ext.refl wq).drew.alloc (.cells #[] 3)).trans hy1
          go_wp2_with fail
          refine HK.out _ _ hy1 ?_
          clear HK K
          refine oneStep (fun K HK => ?_)
          simp only [PK]
          go_wp2_with fail
          refine HK.out _ _ ((Ext.refl _).alloc _) ?_
          clear HK K
          refine badStep (by kernel_rfl) (fun K HK => ?_)
          simp only [PK]
          refine app1 E intFlen intOne rfl _ _ rfl n rfl (OwnF.ext o1 ((Ext.refl w1).alloc _)) rfl (by exact blk_list (intF n) (blk_new w1 _)) (by simp only [List.length_take]; omega) (by simp only [List.length_take, maxLen]; omega) (by exact (hx1.alloc _).size) ?_
          intro v3 w3 o3 hg3
          have hx3 : Ext wq w3 := (hx1.alloc _).app hg3 o1 (Nat.le_refl _)
          clear hg3
          go_wp2_with fail
          refine HK.out _ _ ?_
          clear HK K
          refine badStep (by kernel_rfl) (fun K HK => ?_)
          simp only [PK]
          refine appS E intFlen intOne rfl _ _ rfl (l.drop co) rfl o3 rfl (HH.out.2.ext hx3) (by simp only [List.length_append, List.length_take, List.length_drop, List.length_cons, List.length_nil]; omega) (by simp only [List.length_append, List.length_take, List.length_drop, List.length_cons, List.length_nil, maxLen]; omega) hx3.size ?_
          intro v4 w4 o4 hg4
          have hx4 : Ext wq w4 := hx3.app hg4 o3 (Nat.le_refl _)
          rw [← HI.out] at o4
          have o4' := o4.mono hb
          clear hg4 o4
          go_wp2_with fail
          refine HK.out _ _ ?_
          clear HK K
          refine blkStep (fun K HK => ?_)
          simp only [PK]
          go_wp2_with fail
          refine HK.out _ _ ?_
          clear HK K
          refine doneStep (by kernel_rfl) ?_
          go_wp2_with fail
          go_roundg (go - 1)
          case measure => exact HG.out.2
          case rel => exact ⟨m + 1, _, HG.out.1, by go_num, HST, by omega, o4', hx.trans (hxq.trans hx4)⟩
         ·
          refine oneStep (fun K HK => ?_)
          simp only [PK]
          go_wp2_with fail
          refine HK.out _ _ ((Ext.refl _).alloc _) ?_
          clear HK K
          have hb2 := blk_new2 wq.drew (.cells #[] 3) (.cells #[.int .i64 n] 3)
          have HB2 := Lib.hid hb2; clear hb2
          refine oneStep (fun K HK => ?_)
          simp only [PK]
          refine appE (g := wq.heap.size) E intFlen intOne rfl _ _ rfl (l.take co) rfl (OwnF.ext (OwnF.empty intF 1 wq.heap.size 3 wq.drew (by simp)) ((Ext.refl _).alloc (.cells #[.int .i64 n] 3))) rfl (HH.out.1.ext (((Ext.refl wq).drew.alloc (.cells #[] 3)).alloc (.cells #[.int .i64 n] 3))) (by simp only [List.length_take]; omega) (by simp only [List.length_take, maxLen]; omega) (((Ext.refl wq).drew.alloc (.cells #[] 3)).alloc (.cells #[.int .i64 n] 3)).size ?_
          intro v1 w1 o1 hy1
          have hx1 : Ext wq w1 := (((Ext.refl wq).drew.alloc (.cells #[] 3)).alloc (.cells #[.int .i64 n] 3)).trans hy1
          go_wp2_with fail
          refine HK.out _ _ hy1 ?_
          clear HK K
          refine badStep (by kernel_rfl) (fun K HK => ?_)
          simp only [PK]
          refine app1 E intFlen intOne rfl _ _ rfl n rfl o1 rfl (by exact blk_list (intF n) (hy1.block HB2.out)) (by simp only [List.length_take]; omega) (by simp only [List.length_take, maxLen]; omega) hx1.size ?_
          intro v3 w3 o3 hg3
          have hx3 : Ext wq w3 := hx1.app hg3 o1 (Nat.le_refl _)
          clear hg3
          go_wp2_with fail
          refine HK.out _ _ ?_
          clear HK K
          refine badStep (by kernel_rfl) (fun K HK => ?_)
          simp only [PK]
          refine appS E intFlen intOne rfl _ _ rfl (l.drop co) rfl o3 rfl (HH.out.2.ext hx3) (by simp only [List.length_append, List.length_take, List.length_drop, List.length_cons, List.length_nil]; omega) (by simp only [List.length_append, List.length_take, List.length_drop, List.length_cons, List.length_nil, maxLen]; omega) hx3.size ?_
          intro v4 w4 o4 hg4
          have hx4 : Ext wq w4 := hx3.app hg4 o3 (Nat.le_refl _)
          rw [← HI.out] at o4
          have o4' := o4.mono hb
          clear hg4 o4
          go_wp2_with fail
          refine HK.out _ _ ?_
          clear HK K
          refine blkStep (fun K HK => ?_)
          simp only [PK]
          go_wp2_with fail
          refine HK.out _ _ ?_
          clear HK K
          refine doneStep (by kernel_rfl) ?_
          go_wp2_with fail
          go_roundg (go - 1)
          case measure => exact HG.out.2
          case rel => exact ⟨m + 1, _, HG.out.1, by go_num, HST, by omega, o4', hx.trans (hxq.trans hx4)⟩
        ·
         refine oneStep (fun K HK => ?_)
         simp only [PK]
         go_wp2_with fail
         refine HK.out _ _ ((Ext.refl _).alloc _) ?_
         clear HK K
         refine oneStep (fun K HK => ?_)
         simp only [pick, List.filterMap_cons, List.filterMap_nil, List.getElem?_toArray, List.getElem?_cons_zero]
         go_wp2_with fail
         refine HK.out _ _ ((Ext.refl _).alloc _) ?_
         clear HK K
         have hb2 := (al2 wq.drew (.cells #[.int .i64 n] 3) (.cells #[] 3)).1
         have HB2 := Lib.hid hb2; clear hb2
         refine oneStep (fun K HK => ?_)
         simp only [PK]
         refine appE (g := wq.heap.size + 1) E intFlen intOne rfl _ _ rfl (l.take co) rfl (OwnF.emptyAt (f := intF) (n := 1) (e := 3) (w := wq.drew.alloc (.cells #[.int .i64 n] 3)) (g := wq.heap.size + 1) (base := wq.heap.size) (by simp) (by omega)) rfl (HH.out.1.ext (((Ext.refl wq).drew.alloc (.cells #[.int .i64 n] 3)).alloc (.cells #[] 3))) (by simp only [List.length_take]; omega) (by simp only [List.length_take, maxLen]; omega) (((Ext.refl wq).drew.alloc (.cells #[.int .i64 n] 3)).alloc (.cells #[] 3)).size ?_
         intro v1 w1 o1 hy1
         have hx1 : Ext wq w1 := (((Ext.refl wq).drew.alloc (.cells #[.int .i64 n] 3)).alloc (.cells #[] 3)).trans hy1
         go_wp2_with fail
         refine HK.out _ _ hy1 ?_
         clear HK K
         refine badStep (by kernel_rfl) (fun K HK => ?_)
         simp only [PK]
         refine app1 E intFlen intOne rfl _ _ rfl n rfl o1 rfl (by exact blk_list (intF n) (hy1.block HB2.out)) (by simp only [List.length_take]; omega) (by simp only [List.length_take, maxLen]; omega) hx1.size ?_
         intro v3 w3 o3 hg3
         have hx3 : Ext wq w3 := hx1.app hg3 o1 (Nat.le_refl _)
         clear hg3
         go_wp2_with fail
         refine HK.out _ _ ?_
         clear HK K
         refine badStep (by kernel_rfl) (fun K HK => ?_)
         simp only [PK]
         refine appS E intFlen intOne rfl _ _ rfl (l.drop co) rfl o3 rfl (HH.out.2.ext hx3) (by simp only [List.length_append, List.length_take, List.length_drop, List.length_cons, List.length_nil]; omega) (by simp only [List.length_append, List.length_take, List.length_drop, List.length_cons, List.length_nil, maxLen]; omega) hx3.size ?_
         intro v4 w4 o4 hg4
         have hx4 : Ext wq w4 := hx3.app hg4 o3 (Nat.le_refl _)
         rw [← HI.out] at o4
         have o4' := o4.mono hb
         clear hg4 o4
         go_wp2_with fail
         refine HK.out _ _ ?_
         clear HK K
         refine blkStep (fun K HK => ?_)
         simp only [PK]
         go_wp2_with fail
         refine HK.out _ _ ?_
         clear HK K
         refine doneStep (by kernel_rfl) ?_
         go_wp2_with fail
         go_roundg (go - 1)
         case measure => exact HG.out.2
         case rel => exact ⟨m + 1, _, HG.out.1, by go_num, HST, by omega, o4', hx.trans (hxq.trans hx4)⟩
  ·
   have HXS := Lib.hid (show l = idsOf rs by have := HX.out; rw [List.take_of_length_le (by omega)] at this; exact this)
   go_wp2
   go_ret
   rw [← HXS.out]
   exact ⟨_, rfl, hown, hx⟩
end
end Go.Proofs.Ytikbeiafobnblaa
