/- Contracts of the adding of revocations, program and reference. No condition but the bounds that each theorem names. -/
import Derived.Test.YtjcojpnfoblpgaaW34
namespace Go.Proofs.Ytjcojpnfoblpgaa
open Go.ChangeShapes Go.WideShapes Go.ChangeAt Go.RowKit Go.Deep

def sameDoor (x y : Revc) : Bool := (y.asn == x.asn) && (y.iface == x.iface)
/-- The first revocation of the same interface is prolonged; none: none. -/
def prolong (x : Revc) : List Revc → Option (List Revc)
  | [] => none
  | y :: l => if sameDoor x y then some (⟨y.asn, y.iface, max y.till x.till⟩ :: l) else (prolong x l).map (y :: ·)
def addRev (l : List Revc) (x : Revc) : List Revc :=
  if validRev x then
    match prolong x l with
    | some m => m
    | none => if 16 ≤ l.length then (l ++ [x]).drop 1 else l ++ [x]
  else l
theorem prolong_at {x : Revc} {l : List Revc} {k : Nat} (hk : k < l.length) (h0 : ∀ i (hi : i < k), sameDoor x (l[i]'(by omega)) = false) (h : sameDoor x l[k] = true) :
    prolong x l = some (l.set k ⟨l[k].asn, l[k].iface, max l[k].till x.till⟩) := by
  induction l generalizing k with
  | nil => simp at hk
  | cons y l ih =>
    cases k with
    | zero => simp only [List.getElem_cons_zero] at h; simp [prolong, h]
    | succ k =>
      have hy : sameDoor x y = false := h0 0 (by omega)
      have := ih (k := k) (by simpa using hk) (fun i hi => by have := h0 (i + 1) (by omega); simpa using this) (by simpa using h)
      simp only [prolong, hy, this]
      simp
theorem prolong_none {x : Revc} {l : List Revc} (h0 : ∀ i (hi : i < l.length), sameDoor x l[i] = false) : prolong x l = none := by
  induction l with
  | nil => rfl
  | cons y l ih =>
    have hy : sameDoor x y = false := h0 0 (by simp)
    have := ih (fun i hi => by have := h0 (i + 1) (by simpa using hi); simpa using this)
    simp [prolong, hy, this]
theorem addRev_len (l : List Revc) (x : Revc) (h : l.length ≤ 1048576) : (addRev l x).length ≤ 4294967296 := by
  have hp : ∀ m, prolong x l = some m → m.length = l.length := by
    intro m hm
    clear h
    induction l generalizing m with
    | nil => simp [prolong] at hm
    | cons y l ih =>
      simp only [prolong] at hm
      split at hm
      · cases hm; simp
      · simp only [Option.map_eq_some_iff] at hm
        obtain ⟨m', hm', rfl⟩ := hm
        simp [ih m' hm']
  unfold addRev
  split
  · split
    · rename_i m hm
      rw [hp m hm]; omega
    · split <;> simp <;> omega
  · omega

set_option maxRecDepth 100000 in
set_option maxHeartbeats 40000000 in
theorem i_AddRevocation (l : List Revc) (v : Value) (x : Revc) (w : World) (hv : RdS Revc.rep w v l) (hl : l.length ≤ 1048576) :
    Calls Try.prog 36 #[v, .agg #[.int .i64 x.asn, .int .i64 x.iface, .int .i64 x.till]] w fun e w' => ∃ v', e = .returned v' ∧ OwnF Revc.f 3 w.heap.size 46 w' v' (addRev l x) ∧ Ext w w' := by
  obtain ⟨o, cap, rfl, hsm⟩ := hv.shape
  obtain ⟨E⟩ := elemRevc
  go_enter Try.func36, Try.ntmps36
  go_wp2_with fail
  have hB := blk_new w (.cells #[.int .i64 x.asn, .int .i64 x.iface, .int .i64 x.till] 46)
  have hx0 := (Ext.refl w).alloc (.cells #[.int .i64 x.asn, .int .i64 x.iface, .int .i64 x.till] 46)
  generalize w.alloc (.cells #[.int .i64 x.asn, .int .i64 x.iface, .int .i64 x.till] 46) = W0 at hB hx0 ⊢
  refine (i_copyRevocations l _ _ (hv.ext hx0) (by omega)).mono ?_
  rintro e w1 ⟨v1, rfl, o1, h1⟩
  have hcb := blk3 (h1.block hB)
  have hx1 := hx0.trans h1
  go_wp2_with fail
  refine (i_ValidRevocation x _).mono ?_
  rintro e w2 ⟨rfl, h2⟩
  have hB2 := (h1.trans h2).block hB
  have HB := Lib.hid hB; clear hB hB2 hcb
  have hx2 := h1.trans h2
  have o2 := o1.ext h2
  clear o1
  cases hvx : validRev x
  · have he : addRev l x = l := by simp [addRev, hvx]
    have HE := Lib.hid he; clear he
    go_wp2_with fail
    go_ret
    rw [HE.out]
    exact ⟨_, rfl, o2.mono hx0.size, hx0.trans hx2⟩
  · obtain ⟨oo, co, rfl, hso⟩ := (OwnF.rd (hf := Revc.flen) o2).shape
    go_wp2_with fail
    go_loopw [15] (fun i wr => ∃ (k : Nat), k ≤ l.length ∧ i = .int .i64 k ∧ (∀ j (hj : j < k) (hj2 : j < l.length), sameDoor x l[j] = false) ∧ OwnF Revc.f 3 W0.heap.size 46 wr (.slice oo l.length co) l ∧ Ext W0 wr) (fun i _ => l.length - (intOf i).toNat)
    case atStart => exact ⟨0, Nat.zero_le _, rfl, fun j hj => absurd hj (by omega), o2, hx2⟩
    case round =>
      clear o2
      obtain ⟨k, hk, rfl, hno, hown, hx⟩ := hrel
      have HNo := Lib.hid hno; clear hno
      have hcb := blk3 (hx.block HB.out)
      by_cases hlt : k < l.length
      · obtain ⟨g, cg, hsh, hbg, hgs⟩ := hown.some_shape (by omega)
        cases hsh
        have hcs := Revc.own_at hown k hlt
        have hlk0 : (0 : Int) ≤ (k : Int) := Int.natCast_nonneg _
        have hlk1 : (k : Int) < (l.length : Int) := by omega
        have hsd : sameDoor x l[k] = ((l[k].asn == x.asn) && (l[k].iface == x.iface)) := rfl
        have HSD := Lib.hid hsd; clear hsd
        cases ha : (l[k].asn == x.asn)
        · have hnk : sameDoor x l[k] = false := by rw [HSD.out, ha]; rfl
          have hno2 : ∀ j (hj : j < k + 1) (hj2 : j < l.length), sameDoor x l[j] = false := by
            intro j hj hj2
            by_cases hjk : j = k
            · subst hjk; exact hnk
            · exact HNo.out j (by omega) hj2
          have HN2 := Lib.hid hno2; clear hno2 hnk
          go_wp2_with fail
          refine wp_region_ext (by kernel_rfl) (by kernel_rfl) ?_
          have q0 := ExtW.cell (hcb.1)
          have q1 := ExtW.cell (hcb.2.1)
          have q2 := ExtW.cell (hcb.2.2)
          have q3 := ExtW.cell (hcs.1)
          have q4 := ExtW.cell (hcs.2.1)
          have q5 := ExtW.cell (hcs.2.2)
          repeat (first | go_big_quiet_step ((fail)) | quiet_step ((fail)))
          refine wpQuiet_nil ?_
          intro w9 hw9
          have h9 : Ext wr w9 := by obtain ⟨y, rfl⟩ := hw9; exact y.h
          clear hw9 q0 q1 q2 q3 q4 q5
          go_wp2_with fail
          go_roundw
          case rel => exact ⟨k + 1, by omega, by go_num, HN2.out, hown.ext h9, hx.trans h9⟩
          case measure => simp [intOf]; omega
        · cases hb : (l[k].iface == x.iface)
          · have hnk : sameDoor x l[k] = false := by rw [HSD.out, ha, hb]; rfl
            have hno2 : ∀ j (hj : j < k + 1) (hj2 : j < l.length), sameDoor x l[j] = false := by
              intro j hj hj2
              by_cases hjk : j = k
              · subst hjk; exact hnk
              · exact HNo.out j (by omega) hj2
            have HN2 := Lib.hid hno2; clear hno2 hnk
            go_wp2_with fail
            refine wp_region_ext (by kernel_rfl) (by kernel_rfl) ?_
            have q0 := ExtW.cell (hcb.1)
            have q1 := ExtW.cell (hcb.2.1)
            have q2 := ExtW.cell (hcb.2.2)
            have q3 := ExtW.cell (hcs.1)
            have q4 := ExtW.cell (hcs.2.1)
            have q5 := ExtW.cell (hcs.2.2)
            repeat (first | go_big_quiet_step ((fail)) | quiet_step ((fail)))
            refine wpQuiet_nil ?_
            intro w9 hw9
            have h9 : Ext wr w9 := by obtain ⟨y, rfl⟩ := hw9; exact y.h
            clear hw9 q0 q1 q2 q3 q4 q5
            go_wp2_with fail
            go_roundw
            case rel => exact ⟨k + 1, by omega, by go_num, HN2.out, hown.ext h9, hx.trans h9⟩
            case measure => simp [intOf]; omega
          · have hpr := prolong_at hlt (fun j hj => HNo.out j hj (by omega)) (by rw [HSD.out, ha, hb]; rfl)
            have he : addRev l x = l.set k ⟨l[k].asn, l[k].iface, max l[k].till x.till⟩ := by simp [addRev, hvx, hpr]
            have HE := Lib.hid he; clear he hpr
            go_wp2_with fail
            refine wp_region_ext (by kernel_rfl) (by kernel_rfl) ?_
            have q0 := ExtW.cell (hcb.1)
            have q1 := ExtW.cell (hcb.2.1)
            have q2 := ExtW.cell (hcb.2.2)
            have q3 := ExtW.cell (hcs.1)
            have q4 := ExtW.cell (hcs.2.1)
            have q5 := ExtW.cell (hcs.2.2)
            repeat (first | go_big_quiet_step ((fail)) | quiet_step ((fail)))
            refine wpQuiet_nil ?_
            intro w9 hw9
            have h9 : Ext wr w9 := by obtain ⟨y, rfl⟩ := hw9; exact y.h
            clear hw9 q0 q1 q2 q3 q4 q5
            have o9 := hown.ext h9
            have hcs9 := Revc.own_at o9 k hlt
            have hcb9 := blk3 ((hx.trans h9).block HB.out)
            have f9 := o9.free (k * 3 + 2)
            go_wp2_with fail
            refine wp_region_still_tail 12 (by kernel_rfl) (by kernel_rfl) ?_
            simp only [List.take_succ_cons, List.take_zero, List.drop_succ_cons, List.drop_zero]
            repeat still_step
            still_call ((i_Max _ _ _).mono fun _ _ hh => ⟨hh.1, hh.2.symm⟩)
            repeat still_step
            refine wpStill_nil ?_
            obtain ⟨op, hgp⟩ := OwnF.put1 Revc.flen (o9.ext (Ext.refl w9).drew) k hlt 2 (by decide) (.int .i64 (max l[k].till x.till)) ⟨l[k].asn, l[k].iface, max l[k].till x.till⟩ rfl
            go_wp2_with fail
            go_ret
            rw [HE.out]
            exact ⟨_, rfl, op.mono hx0.size, hx0.trans (((hx.trans h9).drew).grown hgp (fun _ e => by cases e; exact hbg))⟩
      · have hno2 : prolong x l = none := prolong_none (fun j hj => HNo.out j (by omega) hj)
        have hxr := (show Ext W0 (wr.alloc (.cells #[.int .i64 x.asn, .int .i64 x.iface, .int .i64 x.till] 46)) from hx.alloc _)
        go_wp2_with (at_builtin; refine app1 E Revc.flen Revc.one rfl _ _ rfl x rfl (OwnF.ext hown ((Ext.refl _).alloc _)) rfl (by first | exact blk_list x.f (blk_new wr _) | exact fun j u hu => hu) (by omega) (by unfold maxLen; omega) hxr.size ?_)
        intro v' w' ho' hg'
        have hx' : Ext W0 w' := hxr.app hg' hown (Nat.le_refl _)
        clear hg'
        obtain ⟨g, cg, hsh, hbg, hgs⟩ := ho'.some_shape (by simp)
        have hlx : (l ++ [x]).length = l.length + 1 := by simp
        rw [hlx] at hsh
        subst hsh
        have HLX := Lib.hid hlx; clear hlx
        by_cases h16 : 16 ≤ l.length
        · have he : addRev l x = (l ++ [x]).drop 1 := by simp [addRev, hvx, hno2, h16]
          have HE := Lib.hid he; clear he
          have hpt := RdS.part (OwnF.rd (hf := Revc.flen) ho') 1 (l.length + 1) (by omega) (by rw [HLX.out]; exact Nat.le_refl _)
          rw [List.take_of_length_le (by rw [HLX.out]; exact Nat.le_refl _)] at hpt
          have h16i : (16 : Int) < (l.length : Int) + 1 := by omega
          have hcg := ho'.capLe.1
          have hcg1 : cg ≠ 1 := by omega
          have hpt2 : RdS Revc.rep w' (.slice (some ⟨g, 3, none⟩) l.length (cg - 1)) ((l ++ [x]).drop 1) := by simpa [Revc.rep, Rep.flat] using hpt
          clear hpt
          go_wp2_with fail
          refine (i_copyRevocations ((l ++ [x]).drop 1) _ _ hpt2 (by simp; omega)).mono ?_
          rintro e w8 ⟨v8, rfl, o8, h8⟩
          go_wp2_with fail
          go_ret
          rw [HE.out]
          exact ⟨_, rfl, o8.mono (hx0.trans hx').size, hx0.trans (hx'.trans h8)⟩
        · have he : addRev l x = l ++ [x] := by simp [addRev, hvx, hno2]; omega
          have HE := Lib.hid he; clear he
          have h16i : (l.length : Int) + 1 ≤ 16 := by omega
          go_wp2_with fail
          go_ret
          rw [HE.out]
          exact ⟨_, rfl, ho'.mono hx0.size, hx0.trans hx'⟩

set_option maxRecDepth 100000 in
set_option maxHeartbeats 40000000 in
theorem s_AddRevocation (l : List Revc) (v : Value) (x : Revc) (w : World) (hv : RdS Revc.rep w v l) (hl : l.length ≤ 1048576) :
    Calls Try.prog 33 #[v, .agg #[.int .i64 x.asn, .int .i64 x.iface, .int .i64 x.till]] w fun e w' => ∃ v', e = .returned v' ∧ RdS Revc.rep w' v' (addRev l x) ∧ Ext w w' := by
  obtain ⟨o, cap, rfl, hsm⟩ := hv.shape
  obtain ⟨E⟩ := elemRevc
  go_enter Try.func33, Try.ntmps33
  go_wp2_with (at_builtin; refine appS E Revc.flen Revc.one rfl _ _ rfl l rfl (OwnF.emptyAt (base := w.heap.size + 1) (by rw [nblk_alloc]) (Nat.le_refl _)) rfl (hv.ext (((Ext.refl _).alloc _).alloc _)) (by simp; omega) (by simp [maxLen]; omega) (by simp) ?_)
  intro v1 w1 o1 hg'
  have h1 : Ext (w.alloc (.cells #[.int .i64 x.asn, .int .i64 x.iface, .int .i64 x.till] 46)) w1 := ((Ext.refl _).alloc _).app hg' (OwnF.emptyAt (f := Revc.f) (n := 3) (base := w.heap.size + 1) (e := 46) (w := w.alloc (.cells #[.int .i64 x.asn, .int .i64 x.iface, .int .i64 x.till] 46)) (by rw [nblk_alloc]) (Nat.le_refl _)) (by rw [nblk_alloc]; exact Nat.le_refl _)
  rw [← nblk_alloc w (.cells #[.int .i64 x.asn, .int .i64 x.iface, .int .i64 x.till] 46)] at o1
  try rw [List.nil_append] at o1
  clear hg'
  have hB := blk_new w (.cells #[.int .i64 x.asn, .int .i64 x.iface, .int .i64 x.till] 46)
  have hx0 := (Ext.refl w).alloc (.cells #[.int .i64 x.asn, .int .i64 x.iface, .int .i64 x.till] 46)
  generalize w.alloc (.cells #[.int .i64 x.asn, .int .i64 x.iface, .int .i64 x.till] 46) = W0 at hB hx0 h1 o1
  have hcb := blk3 (h1.block hB)
  have hx1 := hx0.trans h1
  go_wp2_with fail
  refine (s_ValidRevocation x _).mono ?_
  rintro e w2 ⟨rfl, h2⟩
  have hB2 := (h1.trans h2).block hB
  have HB := Lib.hid hB; clear hB hB2 hcb
  have hx2 := h1.trans h2
  have o2 := o1.ext h2
  clear o1
  cases hvx : validRev x
  · have he : addRev l x = l := by simp [addRev, hvx]
    have HE := Lib.hid he; clear he
    go_wp2_with fail
    go_ret
    rw [HE.out]
    exact ⟨_, rfl, OwnF.rd (hf := Revc.flen) o2, hx0.trans hx2⟩
  · obtain ⟨oo, co, rfl, hso⟩ := (OwnF.rd (hf := Revc.flen) o2).shape
    go_wp2_with fail
    go_loopw [6] (fun i wr => ∃ (k : Nat), k ≤ l.length ∧ i = .int .i64 k ∧ (∀ j (hj : j < k) (hj2 : j < l.length), sameDoor x l[j] = false) ∧ OwnF Revc.f 3 W0.heap.size 46 wr (.slice oo l.length co) l ∧ Ext W0 wr) (fun i _ => l.length - (intOf i).toNat)
    case atStart => exact ⟨0, Nat.zero_le _, rfl, fun j hj => absurd hj (by omega), o2, hx2⟩
    case round =>
      clear o2
      obtain ⟨k, hk, rfl, hno, hown, hx⟩ := hrel
      have HNo := Lib.hid hno; clear hno
      have hcb := blk3 (hx.block HB.out)
      by_cases hlt : k < l.length
      · obtain ⟨g, cg, hsh, hbg, hgs⟩ := hown.some_shape (by omega)
        cases hsh
        have hcs := Revc.own_at hown k hlt
        have hlk0 : (0 : Int) ≤ (k : Int) := Int.natCast_nonneg _
        have hlk1 : (k : Int) < (l.length : Int) := by omega
        have hsd : sameDoor x l[k] = ((l[k].asn == x.asn) && (l[k].iface == x.iface)) := rfl
        have HSD := Lib.hid hsd; clear hsd
        cases ha : (l[k].asn == x.asn)
        · have hnk : sameDoor x l[k] = false := by rw [HSD.out, ha]; rfl
          have hno2 : ∀ j (hj : j < k + 1) (hj2 : j < l.length), sameDoor x l[j] = false := by
            intro j hj hj2
            by_cases hjk : j = k
            · subst hjk; exact hnk
            · exact HNo.out j (by omega) hj2
          have HN2 := Lib.hid hno2; clear hno2 hnk
          go_wp2_with fail
          refine wp_region_ext (by kernel_rfl) (by kernel_rfl) ?_
          have q0 := ExtW.cell (hcb.1)
          have q1 := ExtW.cell (hcb.2.1)
          have q2 := ExtW.cell (hcb.2.2)
          have q3 := ExtW.cell (hcs.1)
          have q4 := ExtW.cell (hcs.2.1)
          have q5 := ExtW.cell (hcs.2.2)
          repeat (first | go_big_quiet_step ((fail)) | quiet_step ((fail)))
          refine wpQuiet_nil ?_
          intro w9 hw9
          have h9 : Ext wr w9 := by obtain ⟨y, rfl⟩ := hw9; exact y.h
          clear hw9 q0 q1 q2 q3 q4 q5
          go_wp2_with fail
          go_roundw
          case rel => exact ⟨k + 1, by omega, by go_num, HN2.out, hown.ext h9, hx.trans h9⟩
          case measure => simp [intOf]; omega
        · cases hb : (l[k].iface == x.iface)
          · have hnk : sameDoor x l[k] = false := by rw [HSD.out, ha, hb]; rfl
            have hno2 : ∀ j (hj : j < k + 1) (hj2 : j < l.length), sameDoor x l[j] = false := by
              intro j hj hj2
              by_cases hjk : j = k
              · subst hjk; exact hnk
              · exact HNo.out j (by omega) hj2
            have HN2 := Lib.hid hno2; clear hno2 hnk
            go_wp2_with fail
            refine wp_region_ext (by kernel_rfl) (by kernel_rfl) ?_
            have q0 := ExtW.cell (hcb.1)
            have q1 := ExtW.cell (hcb.2.1)
            have q2 := ExtW.cell (hcb.2.2)
            have q3 := ExtW.cell (hcs.1)
            have q4 := ExtW.cell (hcs.2.1)
            have q5 := ExtW.cell (hcs.2.2)
            repeat (first | go_big_quiet_step ((fail)) | quiet_step ((fail)))
            refine wpQuiet_nil ?_
            intro w9 hw9
            have h9 : Ext wr w9 := by obtain ⟨y, rfl⟩ := hw9; exact y.h
            clear hw9 q0 q1 q2 q3 q4 q5
            go_wp2_with fail
            go_roundw
            case rel => exact ⟨k + 1, by omega, by go_num, HN2.out, hown.ext h9, hx.trans h9⟩
            case measure => simp [intOf]; omega
          · have hpr := prolong_at hlt (fun j hj => HNo.out j hj (by omega)) (by rw [HSD.out, ha, hb]; rfl)
            have he : addRev l x = l.set k ⟨l[k].asn, l[k].iface, max l[k].till x.till⟩ := by simp [addRev, hvx, hpr]
            have HE := Lib.hid he; clear he hpr
            go_wp2_with fail
            refine wp_region_ext (by kernel_rfl) (by kernel_rfl) ?_
            have q0 := ExtW.cell (hcb.1)
            have q1 := ExtW.cell (hcb.2.1)
            have q2 := ExtW.cell (hcb.2.2)
            have q3 := ExtW.cell (hcs.1)
            have q4 := ExtW.cell (hcs.2.1)
            have q5 := ExtW.cell (hcs.2.2)
            repeat (first | go_big_quiet_step ((fail)) | quiet_step ((fail)))
            refine wpQuiet_nil ?_
            intro w9 hw9
            have h9 : Ext wr w9 := by obtain ⟨y, rfl⟩ := hw9; exact y.h
            clear hw9 q0 q1 q2 q3 q4 q5
            have o9 := hown.ext h9
            have hcs9 := Revc.own_at o9 k hlt
            have hcb9 := blk3 ((hx.trans h9).block HB.out)
            have f9 := o9.free (k * 3 + 2)
            have hcb10 := blk3 (Ext.block ((Ext.refl w9).alloc (.cells #[.int .i64 l[k].asn, .int .i64 l[k].iface, .int .i64 l[k].till] 46)) ((hx.trans h9).block HB.out))
            have hx10 := (hx.trans h9).alloc (.cells #[.int .i64 l[k].asn, .int .i64 l[k].iface, .int .i64 (max l[k].till x.till)] 46)
            have o10 := o9.ext ((Ext.refl w9).alloc (.cells #[.int .i64 l[k].asn, .int .i64 l[k].iface, .int .i64 (max l[k].till x.till)] 46))
            have hcs10 := Revc.own_at o10 k hlt
            have f100 := o10.free (k * 3)
            have f101 := o10.free (k * 3 + 1)
            have f102 := o10.free (k * 3 + 2)
            obtain ⟨op, hgp⟩ := Revc.own_set o10 k hlt ⟨l[k].asn, l[k].iface, max l[k].till x.till⟩
            go_wp2_with fail
            refine (s_Max _ _ _).mono ?_
            rintro e w8 ⟨rfl, rfl⟩
            go_wp2_with fail
            go_ret
            rw [HE.out]
            exact ⟨_, rfl, OwnF.rd (hf := Revc.flen) op, hx0.trans (hx10.grown hgp (fun _ e => by cases e; exact hbg))⟩
      · have hno2 : prolong x l = none := prolong_none (fun j hj => HNo.out j (by omega) hj)
        have hxr := (show Ext W0 (wr.alloc (.cells #[.int .i64 x.asn, .int .i64 x.iface, .int .i64 x.till] 46)) from hx.alloc _)
        go_wp2_with (at_builtin; refine app1 E Revc.flen Revc.one rfl _ _ rfl x rfl (OwnF.ext hown ((Ext.refl _).alloc _)) rfl (by first | exact blk_list x.f (blk_new wr _) | exact fun j u hu => hu) (by omega) (by unfold maxLen; omega) hxr.size ?_)
        intro v' w' ho' hg'
        have hx' : Ext W0 w' := hxr.app hg' hown (Nat.le_refl _)
        clear hg'
        obtain ⟨g, cg, hsh, hbg, hgs⟩ := ho'.some_shape (by simp)
        have hlx : (l ++ [x]).length = l.length + 1 := by simp
        rw [hlx] at hsh
        subst hsh
        have HLX := Lib.hid hlx; clear hlx
        by_cases h16 : 16 ≤ l.length
        · have he : addRev l x = (l ++ [x]).drop 1 := by simp [addRev, hvx, hno2, h16]
          have HE := Lib.hid he; clear he
          have hpt := RdS.part (OwnF.rd (hf := Revc.flen) ho') 1 (l.length + 1) (by omega) (by rw [HLX.out]; exact Nat.le_refl _)
          rw [List.take_of_length_le (by rw [HLX.out]; exact Nat.le_refl _)] at hpt
          have h16i : (16 : Int) < (l.length : Int) + 1 := by omega
          have hcg := ho'.capLe.1
          have hcg1 : cg ≠ 1 := by omega
          have hpt2 : RdS Revc.rep w' (.slice (some ⟨g, 3, none⟩) l.length (cg - 1)) ((l ++ [x]).drop 1) := by simpa [Revc.rep, Rep.flat] using hpt
          clear hpt
          go_wp2_with fail
          go_ret
          rw [HE.out]
          exact ⟨_, rfl, hpt2, hx0.trans hx'⟩
        · have he : addRev l x = l ++ [x] := by simp [addRev, hvx, hno2]; omega
          have HE := Lib.hid he; clear he
          have h16i : (l.length : Int) + 1 ≤ 16 := by omega
          go_wp2_with fail
          go_ret
          rw [HE.out]
          exact ⟨_, rfl, OwnF.rd (hf := Revc.flen) ho', hx0.trans hx'⟩

end Go.Proofs.Ytjcojpnfoblpgaa
