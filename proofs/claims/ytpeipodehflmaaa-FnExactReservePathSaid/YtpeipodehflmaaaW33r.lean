/- Contracts of reserving along a path, program and reference. No condition but the bounds that each theorem names. -/
import Derived.Test.YtpeipodehflmaaaW33e
import Derived.Test.YtpeipodehflmaaaW34
namespace Go.Proofs.Ytpeipodehflmaaa
open Go.ChangeShapes Go.WideShapes Go.ChangeAt Go.RowKit Go.Deep

theorem len6 {α : Type} : ∀ {cs : List α}, cs.length = 6 → ∃ a b c d e f, cs = [a, b, c, d, e, f]
  | [a, b, c, d, e, f], _ => ⟨a, b, c, d, e, f, rfl⟩
theorem len7 {α : Type} : ∀ {cs : List α}, cs.length = 7 → ∃ a b c d e f g, cs = [a, b, c, d, e, f, g]
  | [a, b, c, d, e, f, g], _ => ⟨a, b, c, d, e, f, g, rfl⟩
def rsvGo (id rate till c now : Int) : List Step → List Resv → Option (List Resv)
  | [], out => some out
  | s :: ss, out => if (admit out ⟨id, s.asn, s.eg, rate, till⟩ c now).2 then rsvGo id rate till c now ss (admit out ⟨id, s.asn, s.eg, rate, till⟩ c now).1 else none
def reservePath (rs : List Resv) (id : Int) (y : Pth) (rate till c now : Int) : List Resv × Bool :=
  match rsvGo id rate till c now (egSteps (pathSteps y.parts)) rs with
  | some out => (out, decide (0 < (egSteps (pathSteps y.parts)).length))
  | none => (rs, false)
theorem admit_max (l : List Resv) (x : Resv) (c now : Int) : (admit l x c now).1.length ≤ max l.length 40 := by
  cases h : refused l x c now
  · rw [admit_yes h]
    have h2 : ¬ 40 ≤ (without x l).length := by
      intro h3
      simp [refused, h3] at h
    simp only [List.length_append, List.length_cons, List.length_nil]
    omega
  · rw [admit_no h]; exact Nat.le_max_left _ _
theorem rsvGo_max (id rate till c now : Int) : ∀ (ss : List Step) (l out : List Resv), rsvGo id rate till c now ss l = some out → out.length ≤ max l.length 40
  | [], l, out, h => by cases h; omega
  | s :: ss, l, out, h => by
    unfold rsvGo at h
    split at h
    · have h1 := rsvGo_max id rate till c now ss _ _ h
      have h2 := admit_max l ⟨id, s.asn, s.eg, rate, till⟩ c now
      omega
    · cases h
theorem reservePath_max (rs : List Resv) (id : Int) (y : Pth) (rate till c now : Int) : (reservePath rs id y rate till c now).1.length ≤ max rs.length 40 := by
  unfold reservePath
  split
  · rename_i out h; exact rsvGo_max _ _ _ _ _ _ _ _ h
  · exact Nat.le_max_left _ _
theorem rsvGo_step {id rate till c now : Int} {l : List Step} {k : Nat} (hk : k < l.length) {xs r1 : List Resv} (h : admit xs ⟨id, l[k].asn, l[k].eg, rate, till⟩ c now = (r1, true)) : rsvGo id rate till c now (l.drop k) xs = rsvGo id rate till c now (l.drop (k + 1)) r1 := by
  rw [List.drop_eq_getElem_cons hk]
  show (if _ then _ else _) = _
  rw [h]
  simp
theorem rsvGo_fail {id rate till c now : Int} {l : List Step} {k : Nat} (hk : k < l.length) {xs r1 : List Resv} (h : admit xs ⟨id, l[k].asn, l[k].eg, rate, till⟩ c now = (r1, false)) : rsvGo id rate till c now (l.drop k) xs = none := by
  rw [List.drop_eq_getElem_cons hk]
  show (if _ then _ else _) = _
  rw [h]
  simp

set_option maxRecDepth 100000 in
set_option maxHeartbeats 4000000 in
theorem i_ReservePath (rs : List Resv) (u : Value) (id : Int) (y : Pth) (v : Value) (rate till c now : Int) (w : World) (ru : RdS Resv.rep w u rs) (r : RdS Part.rep w v y.parts) (hrl : rs.length ≤ 1048576) (hl : y.size ≤ 1048576) :
    Calls Try.prog 60 #[u, .int .i64 id, .agg #[v], .int .i64 rate, .int .i64 till, .int .i64 c, .int .i64 now] w fun e w' => ∃ v', e = .returned (.tuple #[v', .bool (reservePath rs id y rate till c now).2]) ∧ OwnF Resv.f 5 w.heap.size 137 w' v' (reservePath rs id y rate till c now).1 ∧ Ext w w' := by
  obtain ⟨E⟩ := elemResv
  obtain ⟨ou, cu, rfl, _⟩ := ru.shape
  obtain ⟨ov, cv, rfl, _⟩ := r.shape
  have hx0 : Ext w (w.alloc (.cells #[.slice ov y.parts.length cv] 47)) := (Ext.refl _).alloc _
  go_enter Try.func60, Try.ntmps60
  go_wp2_with fail
  refine (i_EgressSteps y _ _ (r.ext hx0) hl).mono ?_
  rintro e w1 ⟨v1, rfl, o1, hx1⟩
  obtain ⟨oa, ca, rfl, hsa⟩ := (OwnF.rd (hf := Step.flen) o1).shape
  go_wp2_with fail
  refine (i_copyReservations rs _ _ (ru.ext (hx0.trans hx1)) (by omega)).mono ?_
  rintro e w2 ⟨v2, rfl, o2, hx2⟩
  have hX := (hx0.trans hx1).trans hx2
  have o2' := o2.mono (hx0.trans hx1).size
  have o1' := o1.ext hx2
  clear o1 o2
  have hrv : reservePath rs id y rate till c now = (match rsvGo id rate till c now (egSteps (pathSteps y.parts)) rs with | some out => (out, decide (0 < (egSteps (pathSteps y.parts)).length)) | none => (rs, false)) := rfl
  have HR := Lib.hid hrv; clear hrv
  have hst := Nat.le_trans (egSteps_len _) (pathSteps_len y.parts)
  have hst2 : (egSteps (pathSteps y.parts)).length ≤ 1048576 := by unfold Pth.size at hl; omega
  clear hst
  generalize egSteps (pathSteps y.parts) = l at *
  go_wp2
  go_loopg [17, 28] l.length (fun gk out i wr => ∃ (k : Nat) (xs : List Resv), gk + k = l.length ∧ i = .int .i64 k ∧ xs.length ≤ 1048576 ∧ OwnF Resv.f 5 w.heap.size 137 wr out xs ∧ Hid (rsvGo id rate till c now (l.drop k) xs = rsvGo id rate till c now l rs) ∧ Ext w2 wr)
  case atStart => exact ⟨0, rs, rfl, rfl, hrl, o2', Lib.hid rfl, Ext.refl _⟩
  case round =>
    obtain ⟨k, xs, hgk, rfl, hxl, hown, HK0, hx⟩ := hrel
    obtain ⟨oo, co, rfl, _⟩ := (OwnF.rd (hf := Resv.flen) hown).shape
    by_cases hlt : k < l.length
    · obtain ⟨b, off, rfl, hc⟩ := Step.at ((OwnF.rd (hf := Step.flen) o1').ext hx) k hlt
      have hg' : gk - 1 + (k + 1) = l.length ∧ gk - 1 < gk := by omega
      have HG := Lib.hid hg'; clear hg' hgk
      have hmx := admit_max xs ⟨id, l[k].asn, l[k].eg, rate, till⟩ c now
      rcases hA : admit xs ⟨id, l[k].asn, l[k].eg, rate, till⟩ c now with ⟨r1, b1⟩
      rw [hA] at hmx
      have hr1 : r1.length ≤ 1048576 := by simp only at hmx; omega
      clear hmx
      have HA := Lib.hid hA; clear hA
      go_wp2_with fail
      refine (i_Admit xs _ ⟨id, l[k].asn, l[k].eg, rate, till⟩ c now _ (OwnF.rd (hf := Resv.flen) (hown.ext ((Ext.refl _).alloc _))) hxl).mono ?_
      rintro e w3 ⟨v3, rfl, o3, h3⟩
      rw [HA.out] at o3 ⊢
      have hx3 := ((Ext.refl _).alloc _).trans h3
      have o3' := o3.mono (base' := w.heap.size) (((hX.trans hx).alloc _).size)
      clear o3 hown
      cases b1
      · have hy : reservePath rs id y rate till c now = (rs, false) := by rw [HR.out, ← HK0.out, rsvGo_fail hlt HA.out]
        have HY := Lib.hid hy; clear hy
        have hxw := (hX.trans hx).trans hx3
        have hru3 := ru.ext hxw
        have hru4 := hru3.ext ((Ext.refl w3).alloc (.cells #[] 137))
        go_wp2_with fail
        refine (i_copyReservations rs _ _ hru3 (by omega)).mono ?_
        rintro e w4 ⟨v4, rfl, o4, hx4⟩
        have o4' := o4.mono (base' := w.heap.size) hxw.size
        clear o4
        go_wp2_with fail
        go_ret2
        rw [HY.out]
        exact ⟨_, rfl, o4', hxw.trans hx4⟩
      · have hs := rsvGo_step hlt HA.out
        have HS := Lib.hid (hs.symm.trans HK0.out); clear hs
        have hx3' := hx.trans hx3
        clear h3
        go_wp2_with fail
        go_roundg (gk - 1)
        case measure => exact HG.out.2
        case rel => exact ⟨k + 1, r1, HG.out.1, by go_num, hr1, o3', HS, hx3'⟩
    · have hy : reservePath rs id y rate till c now = (xs, decide (0 < l.length)) := by
        have := HK0.out
        rw [List.drop_of_length_le (by omega)] at this
        rw [HR.out, ← this]; rfl
      have HY := Lib.hid hy; clear hy
      by_cases h0 : 0 < l.length
      · have HY2 := Lib.hid (HY.out.trans (by rw [decide_eq_true h0]))
        have q0 : (0 : Int) < (l.length : Int) := by omega
        go_wp2
        go_ret2
        rw [HY2.out]
        exact ⟨_, rfl, hown, hX.trans hx⟩
      · have HY2 := Lib.hid (HY.out.trans (by rw [decide_eq_false h0]))
        have q0 : ¬ (0 : Int) < (l.length : Int) := by omega
        go_wp2
        go_ret2
        rw [HY2.out]
        exact ⟨_, rfl, hown, hX.trans hx⟩

set_option maxRecDepth 100000 in
set_option maxHeartbeats 4000000 in
theorem s_ReservePath (rs : List Resv) (u : Value) (id : Int) (y : Pth) (v : Value) (rate till c now : Int) (w : World) (ru : RdS Resv.rep w u rs) (r : RdS Part.rep w v y.parts) (hrl : rs.length ≤ 1048576) (hl : y.size ≤ 1048576) :
    Calls Try.prog 59 #[u, .int .i64 id, .agg #[v], .int .i64 rate, .int .i64 till, .int .i64 c, .int .i64 now] w fun e w' => ∃ v', e = .returned (.tuple #[v', .bool (reservePath rs id y rate till c now).2]) ∧ OwnF Resv.f 5 w.heap.size 137 w' v' (reservePath rs id y rate till c now).1 ∧ Ext w w' := by
  obtain ⟨E⟩ := elemResv
  obtain ⟨ou, cu, rfl, _⟩ := ru.shape
  obtain ⟨ov, cv, rfl, _⟩ := r.shape
  have hx0 : Ext w (w.alloc (.cells #[.slice ov y.parts.length cv] 47)) := (Ext.refl _).alloc _
  have hxe : Ext w ((w.alloc (.cells #[.slice ov y.parts.length cv] 47)).alloc (.cells #[] 137)) := hx0.alloc _
  have ho0 := (OwnF.empty Resv.f 5 (w.alloc (.cells #[.slice ov y.parts.length cv] 47)).heap.size 137 (w.alloc (.cells #[.slice ov y.parts.length cv] 47)) (Nat.le_refl _))
  have hB := Lib.hid (Ext.block ((Ext.refl _).alloc (.cells #[] 137)) (blk_new w (.cells #[.slice ov y.parts.length cv] 47)))
  have hrx := ru.ext hxe
  have hbs := hx0.size
  simp only [nblk_alloc] at ho0
  go_enter Try.func59, Try.ntmps59
  go_wp2_with (at_builtin; refine appS E Resv.flen Resv.one rfl _ _ rfl rs rfl ho0 rfl hrx (by simp; omega) (by simp [maxLen]; omega) (by simp) ?_)
  intro v1 w1 o1 hg1
  have hx1 : Ext w w1 := hxe.app hg1 ho0 (by simp)
  have hb1 := own_ne ho0 hB.out (by decide) hg1
  have hc1 := blk1 hb1
  try rw [List.nil_append] at o1
  have o1' := o1.mono (base' := w.heap.size) (by simp)
  clear hg1 o1
  go_wp2_with fail
  refine (s_EgressSteps y _ _ (r.ext hx1) hl).mono ?_
  rintro e w2 ⟨v2, rfl, o2, hx2⟩
  have hX := hx1.trans hx2
  have o2' := o1'.ext hx2
  have o1' := o2
  clear o2
  obtain ⟨oa, ca, rfl, hsa⟩ := (OwnF.rd (hf := Step.flen) o1').shape
  have hrv : reservePath rs id y rate till c now = (match rsvGo id rate till c now (egSteps (pathSteps y.parts)) rs with | some out => (out, decide (0 < (egSteps (pathSteps y.parts)).length)) | none => (rs, false)) := rfl
  have HR := Lib.hid hrv; clear hrv
  have hst := Nat.le_trans (egSteps_len _) (pathSteps_len y.parts)
  have hst2 : (egSteps (pathSteps y.parts)).length ≤ 1048576 := by unfold Pth.size at hl; omega
  clear hst
  generalize egSteps (pathSteps y.parts) = l at *
  go_wp2
  go_loopg [16, 18] l.length (fun gk out i wr => ∃ (k : Nat) (xs : List Resv), gk + k = l.length ∧ i = .int .i64 k ∧ xs.length ≤ 1048576 ∧ OwnF Resv.f 5 w.heap.size 137 wr out xs ∧ Hid (rsvGo id rate till c now (l.drop k) xs = rsvGo id rate till c now l rs) ∧ Ext w2 wr)
  case atStart => exact ⟨0, rs, rfl, rfl, hrl, o2', Lib.hid rfl, Ext.refl _⟩
  case round =>
    obtain ⟨k, xs, hgk, rfl, hxl, hown, HK0, hx⟩ := hrel
    obtain ⟨oo, co, rfl, _⟩ := (OwnF.rd (hf := Resv.flen) hown).shape
    by_cases hlt : k < l.length
    · obtain ⟨b, off, rfl, hc⟩ := Step.at ((OwnF.rd (hf := Step.flen) o1').ext hx) k hlt
      have hg' : gk - 1 + (k + 1) = l.length ∧ gk - 1 < gk := by omega
      have HG := Lib.hid hg'; clear hg' hgk
      have hmx := admit_max xs ⟨id, l[k].asn, l[k].eg, rate, till⟩ c now
      rcases hA : admit xs ⟨id, l[k].asn, l[k].eg, rate, till⟩ c now with ⟨r1, b1⟩
      rw [hA] at hmx
      have hr1 : r1.length ≤ 1048576 := by simp only at hmx; omega
      clear hmx
      have HA := Lib.hid hA; clear hA
      go_wp2_with fail
      refine planStep (.blk [0, 1, 2, 3, 4, 5, 6, 7, 8, 9, 10, 11, 12, 13, 14, 15, 16] (.one 17 (.blk [18, 19, 20, 21, 22] .done))) [] (by kernel_rfl) (by kernel_rfl) ?_

      refine blkStep (fun K HK => ?_)
      simp only [pick, List.filterMap_cons, List.filterMap_nil, List.getElem?_toArray, List.getElem?_cons_zero, List.getElem?_cons_succ]
      go_wp2_with fail
      refine HK.out _ _ ?_
      clear HK K

      refine oneStep (fun K HK => ?_)
      simp only [pick, List.filterMap_cons, List.filterMap_nil, List.getElem?_toArray, List.getElem?_cons_zero, List.getElem?_cons_succ]
      go_wp2_with fail

      refine (s_Admit xs _ ⟨id, l[k].asn, l[k].eg, rate, till⟩ c now _ (OwnF.rd (hf := Resv.flen) (hown.ext ((Ext.refl _).drew))) hxl).mono ?_
      rintro e w3 ⟨v3, rfl, o3, h3⟩
      rw [HA.out] at o3 ⊢
      have hx3 := ((Ext.refl _).drew).trans h3
      have o3' := o3.mono (base' := w.heap.size) (((hX.trans hx).drew).size)
      clear o3 hown
      cases b1
      · have hy : reservePath rs id y rate till c now = (rs, false) := by rw [HR.out, ← HK0.out, rsvGo_fail hlt HA.out]
        have HY := Lib.hid hy; clear hy
        have hxw := (hX.trans hx).trans hx3
        have hru3 := ru.ext hxw
        have hru4 := hru3.ext ((Ext.refl w3).alloc (.cells #[] 137))
        go_wp2_with fail
        refine HK.out _ _ (h3) ?_
        clear HK K

        refine blkStep (fun K HK => ?_)
        simp only [pick, List.filterMap_cons, List.filterMap_nil, List.getElem?_toArray, List.getElem?_cons_zero, List.getElem?_cons_succ]
        go_wp2_with fail
        refine HK.out _ _ ?_
        clear HK K

        refine doneStep (by kernel_rfl) ?_

        have hoe := OwnF.empty Resv.f 5 w.heap.size 137 w3 hxw.size
        go_wp2_with (at_builtin; refine appS E Resv.flen Resv.one rfl _ _ rfl rs rfl hoe rfl hru4 (by simp; omega) (by simp [maxLen]; omega) (by simp; exact Nat.le_succ_of_le hxw.size) ?_)
        intro v4 w4 o4 hg4
        have hx4 : Ext w w4 := (hxw.alloc _).app hg4 hoe (Nat.le_refl _)
        try rw [List.nil_append] at o4
        clear hg4 hoe
        go_wp2_with fail
        go_ret2
        rw [HY.out]
        exact ⟨_, rfl, o4, hx4⟩
      · have hs := rsvGo_step hlt HA.out
        have HS := Lib.hid (hs.symm.trans HK0.out); clear hs
        have hx3' := hx.trans hx3
        go_wp2_with fail
        refine HK.out _ _ (h3) ?_
        clear HK K

        refine blkStep (fun K HK => ?_)
        simp only [pick, List.filterMap_cons, List.filterMap_nil, List.getElem?_toArray, List.getElem?_cons_zero, List.getElem?_cons_succ]
        go_wp2_with fail
        refine HK.out _ _ ?_
        clear HK K

        refine doneStep (by kernel_rfl) ?_

        go_wp2_with fail
        go_roundg (gk - 1)
        case measure => exact HG.out.2
        case rel => exact ⟨k + 1, r1, HG.out.1, by go_num, hr1, o3', HS, hx3'⟩
    · have hy : reservePath rs id y rate till c now = (xs, decide (0 < l.length)) := by
        have := HK0.out
        rw [List.drop_of_length_le (by omega)] at this
        rw [HR.out, ← this]; rfl
      have HY := Lib.hid hy; clear hy
      by_cases h0 : 0 < l.length
      · have HY2 := Lib.hid (HY.out.trans (by rw [decide_eq_true h0]))
        have q0 : (0 : Int) < (l.length : Int) := by omega
        go_wp2
        go_ret2
        rw [HY2.out]
        exact ⟨_, rfl, hown, hX.trans hx⟩
      · have HY2 := Lib.hid (HY.out.trans (by rw [decide_eq_false h0]))
        have q0 : ¬ (0 : Int) < (l.length : Int) := by omega
        go_wp2
        go_ret2
        rw [HY2.out]
        exact ⟨_, rfl, hown, hX.trans hx⟩

end Go.Proofs.Ytpeipodehflmaaa
