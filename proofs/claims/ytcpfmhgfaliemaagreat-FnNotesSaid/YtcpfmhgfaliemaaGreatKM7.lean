/- What these laws need: FnNotes: Contracts of the adding of revocations, program and reference. A region that draws its order, walked along one schedule: what only reads is taken as soon as it may come up; a call, an allocation, an append comes up when it alone may. Contracts of the test of a list of reservations, program and reference. The data of the struct AS (ASd), how a slice of it reads, and the contracts of the laws' helper functions over it. The data of the struct Link (Lnk), how a slice of it reads, and the contracts of the laws' helper functions over it. The data of the struct Topology, how it reads, and the contracts of the laws' helper functions over it. Worlds in which only a cursor's block was written: what reads the same in them, and regions that draw their order among calls that move the cursor. -/
import Derived.OrdersHeld
import Derived.Test.YtcpfmhgfaliemaaGreatKM6
namespace Go.Proofs.YtcpfmhgfaliemaaGreat
section
open Go.ChangeShapes Go.WideShapes Go.ChangeAt Go.RowKit Go.Deep
def sameDoor (x y : Revc) : Bool := (y.asn == x.asn) && (y.iface == x.iface)
def prolong (x : Revc) : List Revc → Option (List Revc)
 | [] => none
 | y :: l => if sameDoor x y then some (⟨y.asn, y.iface, max y.till x.till⟩ :: l) else (prolong x l).map (y :: ·)
def addRev (l : List Revc) (x : Revc) : List Revc :=
 if validRev x then
  match prolong x l with
  | some m => m
  | none => if 16 ≤ l.length then (l ++ [x]).drop 1 else l ++ [x]
 else l
theorem prolong_at {x : Revc} {l : List Revc} {k : Nat} (hk : k < l.length) (h0 : ∀ i (hi : i < k), sameDoor x (l[i]'(by omega)) = false) (h : sameDoor x l[k] = true) :
  prolong x l = some (l.set k ⟨l[k].asn, l[k].iface, max l[k].till x.till⟩) := by
 induction l generalizing k with
 | nil => simp at hk
 | cons y l ih =>
  cases k with
  | zero => simp only [List.getElem_cons_zero] at h; simp [prolong, h]
  | succ k =>
   have hy : sameDoor x y = false := h0 0 (by omega); have := ih (k := k) (by simpa using hk) (fun i hi => by have := h0 (i + 1) (by omega); simpa using this) (by simpa using h); simp only [prolong, hy, this]
   simp
theorem prolong_none {x : Revc} {l : List Revc} (h0 : ∀ i (hi : i < l.length), sameDoor x l[i] = false) : prolong x l = none := by
 induction l with
 | nil => rfl
 | cons y l ih =>
  have hy : sameDoor x y = false := h0 0 (by simp); have := ih (fun i hi => by have := h0 (i + 1) (by simpa using hi); simpa using this)
  simp [prolong, hy, this]
theorem addRev_len (l : List Revc) (x : Revc) (h : l.length ≤ 1048576) : (addRev l x).length ≤ 4294967296 := by
 have hp : ∀ m, prolong x l = some m → m.length = l.length := by
  intro m hm; clear h
  induction l generalizing m with
  | nil => simp [prolong] at hm
  | cons y l ih =>
   simp only [prolong] at hm
   split at hm
   ·
    cases hm; simp
   ·
    simp only [Option.map_eq_some_iff] at hm; obtain ⟨m', hm', rfl⟩ := hm
    simp [ih m' hm']
 unfold addRev
 split
 ·
  split
  ·
   rename_i m hm
   rw [hp m hm]; omega
  ·
   split <;> simp <;> omega
 ·
  omega
set_option maxRecDepth 100000 in
set_option maxHeartbeats 40000000 in
theorem i_AddRevocation (l : List Revc) (v : Value) (x : Revc) (w : World) (hv : RdS Revc.rep w v l) (hl : l.length ≤ 1048576) :
  Calls Tryz.prog 20 #[v, .agg #[.int .i64 x.asn, .int .i64 x.iface, .int .i64 x.till]] w fun e w' => ∃ v', e = .returned v' ∧ OwnF Revc.f 3 w.heap.size 30 w' v' (addRev l x) ∧ Ext w w' := by
 obtain ⟨o, cap, rfl, hsm⟩ := hv.shape; obtain ⟨E⟩ := elemRevc
 go_enter Tryz.func20, Tryz.ntmps20
 go_wp2_with fail
 have hB := blk_new w (.cells #[.int .i64 x.asn, .int .i64 x.iface, .int .i64 x.till] 30); have hx0 := (Ext.refl w).alloc (.cells #[.int .i64 x.asn, .int .i64 x.iface, .int .i64 x.till] 30); generalize w.alloc (.cells #[.int .i64 x.asn, .int .i64 x.iface, .int .i64 x.till] 30) = W0 at hB hx0 ⊢
 refine (i_copyRevocations l _ _ (hv.ext hx0) (by omega)).mono ?_; rintro e w1 ⟨v1, rfl, o1, h1⟩; have hcb := blk3 (h1.block hB); have hx1 := hx0.trans h1
 go_wp2_with fail
 refine (i_ValidRevocation x _).mono ?_; rintro e w2 ⟨rfl, h2⟩; have hB2 := (h1.trans h2).block hB; have HB := Lib.hid hB; clear hB hB2 hcb; have hx2 := h1.trans h2; have o2 := o1.ext h2; clear o1
 cases hvx : validRev x
 ·
  have he : addRev l x = l := by simp [addRev, hvx]
  have HE := Lib.hid he; clear he
  go_wp2_with fail
  go_ret
  rw [HE.out]; exact ⟨_, rfl, o2.mono hx0.size, hx0.trans hx2⟩
 ·
  obtain ⟨oo, co, rfl, hso⟩ := (OwnF.rd (hf := Revc.flen) o2).shape
  go_wp2_with fail
  go_loopw [15] (fun i wr => ∃ (k : Nat), k ≤ l.length ∧ i = .int .i64 k ∧ (∀ j (hj : j < k) (hj2 : j < l.length), sameDoor x l[j] = false) ∧ OwnF Revc.f 3 W0.heap.size 30 wr (.slice oo l.length co) l ∧ Ext W0 wr) (fun i _ => l.length - (intOf i).toNat)
  case atStart => exact ⟨0, Nat.zero_le _, rfl, fun j hj => absurd hj (by omega), o2, hx2⟩
  case round =>
   clear o2; obtain ⟨k, hk, rfl, hno, hown, hx⟩ := hrel; have HNo := Lib.hid hno; clear hno; have hcb := blk3 (hx.block HB.out)
   by_cases hlt : k < l.length
   ·
    obtain ⟨g, cg, hsh, hbg, hgs⟩ := hown.some_shape (by omega)
    cases hsh
    have hcs := Revc.own_at hown k hlt; have hlk0 : (0 : Int) ≤ (k : Int) := Int.natCast_nonneg _; have hlk1 : (k : Int) < (l.length : Int) := by omega
    have hsd : sameDoor x l[k] = ((l[k].asn == x.asn) && (l[k].iface == x.iface)) := rfl; have HSD := Lib.hid hsd; clear hsd
    cases ha : (l[k].asn == x.asn)
    ·
     have hnk : sameDoor x l[k] = false := by rw [HSD.out, ha]; rfl
     have hno2 : ∀ j (hj : j < k + 1) (hj2 : j < l.length), sameDoor x l[j] = false := by
      intro j hj hj2
      by_cases hjk : j = k
      ·
       subst hjk; exact hnk
      ·
       exact HNo.out j (by omega) hj2
     have HN2 := Lib.hid hno2; clear hno2 hnk
     go_wp2_with fail
     refine wp_region_ext (by kernel_rfl) (by kernel_rfl) ?_; have q0 := ExtW.cell (hcb.1); have q1 := ExtW.cell (hcb.2.1); have q2 := ExtW.cell (hcb.2.2); have q3 := ExtW.cell (hcs.1); have q4 := ExtW.cell (hcs.2.1); have q5 := ExtW.cell (hcs.2.2)
     repeat (first | go_big_quiet_step ((fail)) | quiet_step ((fail)))
     refine wpQuiet_nil ?_; intro w9 hw9; have h9 : Ext wr w9 := by obtain ⟨y, rfl⟩ := hw9; exact y.h
     clear hw9 q0 q1 q2 q3 q4 q5
     go_wp2_with fail
     go_roundw
     case rel => exact ⟨k + 1, by omega, by go_num, HN2.out, hown.ext h9, hx.trans h9⟩
     case measure => simp [intOf]; omega
    ·
     cases hb : (l[k].iface == x.iface)
     ·
      have hnk : sameDoor x l[k] = false := by rw [HSD.out, ha, hb]; rfl
      have hno2 : ∀ j (hj : j < k + 1) (hj2 : j < l.length), sameDoor x l[j] = false := by
       intro j hj hj2
       by_cases hjk : j = k
       ·
        subst hjk; exact hnk
       ·
        exact HNo.out j (by omega) hj2
      have HN2 := Lib.hid hno2; clear hno2 hnk
      go_wp2_with fail
      refine wp_region_ext (by kernel_rfl) (by kernel_rfl) ?_; have q0 := ExtW.cell (hcb.1); have q1 := ExtW.cell (hcb.2.1); have q2 := ExtW.cell (hcb.2.2); have q3 := ExtW.cell (hcs.1); have q4 := ExtW.cell (hcs.2.1); have q5 := ExtW.cell (hcs.2.2)
      repeat (first | go_big_quiet_step ((fail)) | quiet_step ((fail)))
      refine wpQuiet_nil ?_; intro w9 hw9; have h9 : Ext wr w9 := by obtain ⟨y, rfl⟩ := hw9; exact y.h
      clear hw9 q0 q1 q2 q3 q4 q5
      go_wp2_with fail
      go_roundw
      case rel => exact ⟨k + 1, by omega, by go_num, HN2.out, hown.ext h9, hx.trans h9⟩
      case measure => simp [intOf]; omega
     ·
      have hpr := prolong_at hlt (fun j hj => HNo.out j hj (by omega)) (by rw [HSD.out, ha, hb]; rfl); have he : addRev l x = l.set k ⟨l[k].asn, l[k].iface, max l[k].till x.till⟩ := by simp [addRev, hvx, hpr]
      have HE := Lib.hid he; clear he hpr
      go_wp2_with fail
      refine wp_region_ext (by kernel_rfl) (by kernel_rfl) ?_; have q0 := ExtW.cell (hcb.1); have q1 := ExtW.cell (hcb.2.1); have q2 := ExtW.cell (hcb.2.2); have q3 := ExtW.cell (hcs.1); have q4 := ExtW.cell (hcs.2.1); have q5 := ExtW.cell (hcs.2.2)
      repeat (first | go_big_quiet_step ((fail)) | quiet_step ((fail)))
      refine wpQuiet_nil ?_; intro w9 hw9; have h9 : Ext wr w9 := by obtain ⟨y, rfl⟩ := hw9; exact y.h
      clear hw9 q0 q1 q2 q3 q4 q5; have o9 := hown.ext h9; have hcs9 := Revc.own_at o9 k hlt; have hcb9 := blk3 ((hx.trans h9).block HB.out); have f9 := o9.free (k * 3 + 2)
      go_wp2_with fail
      refine wp_region_still_tail 12 (by kernel_rfl) (by kernel_rfl) ?_; simp only [List.take_succ_cons, List.take_zero, List.drop_succ_cons, List.drop_zero]
      repeat still_step
      still_call ((i_Max _ _ _).mono fun _ _ hh => ⟨hh.1, hh.2.symm⟩)
      repeat still_step
      refine wpStill_nil ?_; obtain ⟨op, hgp⟩ := OwnF.put1 Revc.flen (o9.ext (Ext.refl w9).drew) k hlt 2 (by decide) (.int .i64 (max l[k].till x.till)) ⟨l[k].asn, l[k].iface, max l[k].till x.till⟩ rfl
      go_wp2_with fail
      go_ret
      rw [HE.out]; exact ⟨_, rfl, op.mono hx0.size, hx0.trans (((hx.trans h9).drew).grown hgp (fun _ e => by cases e; exact hbg))⟩
   ·
    have hno2 : prolong x l = none := prolong_none (fun j hj => HNo.out j (by omega) hj)
    have hxr := (show Ext W0 (wr.alloc (.cells #[.int .i64 x.asn, .int .i64 x.iface, .int .i64 x.till] 30)) from hx.alloc _)
    go_wp2_with (at_builtin; refine app1 E Revc.flen Revc.one rfl _ _ rfl x rfl (OwnF.ext hown ((Ext.refl _).alloc _)) rfl (by first | exact blk_list x.f (blk_new wr _) | exact fun j u hu => hu) (by omega) (by unfold maxLen; omega) hxr.size ?_)
    intro v' w' ho' hg'; have hx' : Ext W0 w' := hxr.app hg' hown (Nat.le_refl _); clear hg'; obtain ⟨g, cg, hsh, hbg, hgs⟩ := ho'.some_shape (by simp); have hlx : (l ++ [x]).length = l.length + 1 := by simp
    rw [hlx] at hsh; subst hsh; have HLX := Lib.hid hlx; clear hlx
    by_cases h16 : 16 ≤ l.length
    ·
     have he : addRev l x = (l ++ [x]).drop 1 := by simp [addRev, hvx, hno2, h16]
     have HE := Lib.hid he; clear he; have hpt := RdS.part (OwnF.rd (hf := Revc.flen) ho') 1 (l.length + 1) (by omega) (by rw [HLX.out]; exact Nat.le_refl _); rw [List.take_of_length_le (by rw [HLX.out]; exact Nat.le_refl _)] at hpt; have h16i : (16 : Int) < (l.length : Int) + 1 := by omega
     have hcg := ho'.capLe.1; have hcg1 : cg ≠ 1 := by omega
     have hpt2 : RdS Revc.rep w' (.slice (some ⟨g, 3, none⟩) l.length (cg - 1)) ((l ++ [x]).drop 1) := by simpa [Revc.rep, Rep.flat] using hpt
     clear hpt
     go_wp2_with fail
     refine (i_copyRevocations ((l ++ [x]).drop 1) _ _ hpt2 (by simp; omega)).mono ?_; rintro e w8 ⟨v8, rfl, o8, h8⟩
     go_wp2_with fail
     go_ret
     rw [HE.out]; exact ⟨_, rfl, o8.mono (hx0.t hx').size, hx0.trans (hx'.trans h8)⟩
    ·
     have he : addRev l x = l ++ [x] := by simp [addRev, hvx, hno2]; omega
     have HE := Lib.hid he; clear he; have h16i : (l.length : Int) + 1 ≤ 16 := by omega
     go_wp2_with fail
     go_ret
     rw [HE.out]; exact ⟨_, rfl, ho'.mono hx0.size, hx0.trans hx'⟩
set_option maxRecDepth 100000 in
set_option maxHeartbeats 40000000 in
theorem s_AddRevocation (l : List Revc) (v : Value) (x : Revc) (w : World) (hv : RdS Revc.rep w v l) (hl : l.length ≤ 1048576) :
  Calls Tryz.prog 21 #[v, .agg #[.int .i64 x.asn, .int .i64 x.iface, .int .i64 x.till]] w fun e w' => ∃ v', e = .returned v' ∧ RdS Revc.rep w' v' (addRev l x) ∧ Ext w w' := by
 obtain ⟨o, cap, rfl, hsm⟩ := hv.shape; obtain ⟨E⟩ := elemRevc
 go_enter Tryz.func21, Tryz.ntmps21
 go_wp2_with (at_builtin; refine appS E Revc.flen Revc.one rfl _ _ rfl l rfl (OwnF.emptyAt (base := w.heap.size + 1) (by rw [nblk_alloc]) (Nat.le_refl _)) rfl (hv.ext (((Ext.refl _).alloc _).alloc _)) (by simp; omega) (by simp [maxLen]; omega) (by simp) ?_)
 intro v1 w1 o1 hg'; have h1 : Ext (w.alloc (.cells #[.int .i64 x.asn, .int .i64 x.iface, .int .i64 x.till] 30)) w1 := ((Ext.refl _).alloc _).app hg' (OwnF.emptyAt (f := Revc.f) (n := 3) (base := w.heap.size + 1) (e := 30) (w := w.alloc (.cells #[.int .i64 x.asn, .int .i64 x.iface, .int .i64 x.till] 30)) (by rw [nblk_alloc]) (Nat.le_refl _)) (by rw [nblk_alloc]; exact Nat.le_refl _); rw [← nblk_alloc w (.cells #[.int .i64 x.asn, .int .i64 x.iface, .int .i64 x.till] 30)] at o1
 try rw [List.nil_append] at o1
 clear hg'; have hB := blk_new w (.cells #[.int .i64 x.asn, .int .i64 x.iface, .int .i64 x.till] 30); have hx0 := (Ext.refl w).alloc (.cells #[.int .i64 x.asn, .int .i64 x.iface, .int .i64 x.till] 30); generalize w.alloc (.cells #[.int .i64 x.asn, .int .i64 x.iface, .int .i64 x.till] 30) = W0 at hB hx0 h1 o1; have hcb := blk3 (h1.block hB); have hx1 := hx0.trans h1
 go_wp2_with fail
 refine (s_ValidRevocation x _).mono ?_; rintro e w2 ⟨rfl, h2⟩; have hB2 := (h1.trans h2).block hB; have HB := Lib.hid hB; clear hB hB2 hcb; have hx2 := h1.trans h2; have o2 := o1.ext h2; clear o1
 cases hvx : validRev x
 ·
  have he : addRev l x = l := by simp [addRev, hvx]
  have HE := Lib.hid he; clear he
  go_wp2_with fail
  go_ret
  rw [HE.out]; exact ⟨_, rfl, OwnF.rd (hf := Revc.flen) o2, hx0.trans hx2⟩
 ·
  obtain ⟨oo, co, rfl, hso⟩ := (OwnF.rd (hf := Revc.flen) o2).shape
  go_wp2_with fail
  go_loopw [6] (fun i wr => ∃ (k : Nat), k ≤ l.length ∧ i = .int .i64 k ∧ (∀ j (hj : j < k) (hj2 : j < l.length), sameDoor x l[j] = false) ∧ OwnF Revc.f 3 W0.heap.size 30 wr (.slice oo l.length co) l ∧ Ext W0 wr) (fun i _ => l.length - (intOf i).toNat)
  case atStart => exact ⟨0, Nat.zero_le _, rfl, fun j hj => absurd hj (by omega), o2, hx2⟩
  case round =>
   clear o2; obtain ⟨k, hk, rfl, hno, hown, hx⟩ := hrel; have HNo := Lib.hid hno; clear hno; have hcb := blk3 (hx.block HB.out)
   by_cases hlt : k < l.length
   ·
    obtain ⟨g, cg, hsh, hbg, hgs⟩ := hown.some_shape (by omega)
    cases hsh
    have hcs := Revc.own_at hown k hlt; have hlk0 : (0 : Int) ≤ (k : Int) := Int.natCast_nonneg _; have hlk1 : (k : Int) < (l.length : Int) := by omega
    have hsd : sameDoor x l[k] = ((l[k].asn == x.asn) && (l[k].iface == x.iface)) := rfl; have HSD := Lib.hid hsd; clear hsd
    cases ha : (l[k].asn == x.asn)
    ·
     have hnk : sameDoor x l[k] = false := by rw [HSD.out, ha]; rfl
     have hno2 : ∀ j (hj : j < k + 1) (hj2 : j < l.length), sameDoor x l[j] = false := by
      intro j hj hj2
      by_cases hjk : j = k
      ·
       subst hjk; exact hnk
      ·
       exact HNo.out j (by omega) hj2
     have HN2 := Lib.hid hno2; clear hno2 hnk
     go_wp2_with fail
     refine wp_region_ext (by kernel_rfl) (by kernel_rfl) ?_; have q0 := ExtW.cell (hcb.1); have q1 := ExtW.cell (hcb.2.1); have q2 := ExtW.cell (hcb.2.2); have q3 := ExtW.cell (hcs.1); have q4 := ExtW.cell (hcs.2.1); have q5 := ExtW.cell (hcs.2.2)
     repeat (first | go_big_quiet_step ((fail)) | quiet_step ((fail)))
     refine wpQuiet_nil ?_; intro w9 hw9; have h9 : Ext wr w9 := by obtain ⟨y, rfl⟩ := hw9; exact y.h
     clear hw9 q0 q1 q2 q3 q4 q5
     go_wp2_with fail
     go_roundw
     case rel => exact ⟨k + 1, by omega, by go_num, HN2.out, hown.ext h9, hx.trans h9⟩
     case measure => simp [intOf]; omega
    ·
     cases hb : (l[k].iface == x.iface)
     ·
      have hnk : sameDoor x l[k] = false := by rw [HSD.out, ha, hb]; rfl
      have hno2 : ∀ j (hj : j < k + 1) (hj2 : j < l.length), sameDoor x l[j] = false := by
       intro j hj hj2
       by_cases hjk : j = k
       ·
        subst hjk; exact hnk
       ·
        exact HNo.out j (by omega) hj2
      have HN2 := Lib.hid hno2; clear hno2 hnk
      go_wp2_with fail
      refine wp_region_ext (by kernel_rfl) (by kernel_rfl) ?_; have q0 := ExtW.cell (hcb.1); have q1 := ExtW.cell (hcb.2.1); have q2 := ExtW.cell (hcb.2.2); have q3 := ExtW.cell (hcs.1); have q4 := ExtW.cell (hcs.2.1); have q5 := ExtW.cell (hcs.2.2)
      repeat (first | go_big_quiet_step ((fail)) | quiet_step ((fail)))
      refine wpQuiet_nil ?_; intro w9 hw9; have h9 : Ext wr w9 := by obtain ⟨y, rfl⟩ := hw9; exact y.h
      clear hw9 q0 q1 q2 q3 q4 q5
      go_wp2_with fail
      go_roundw
      case rel => exact ⟨k + 1, by omega, by go_num, HN2.out, hown.ext h9, hx.trans h9⟩
      case measure => simp [intOf]; omega
     ·
      have hpr := prolong_at hlt (fun j hj => HNo.out j hj (by omega)) (by rw [HSD.out, ha, hb]; rfl); have he : addRev l x = l.set k ⟨l[k].asn, l[k].iface, max l[k].till x.till⟩ := by simp [addRev, hvx, hpr]
      have HE := Lib.hid he; clear he hpr
      go_wp2_with fail
      refine wp_region_ext (by kernel_rfl) (by kernel_rfl) ?_; have q0 := ExtW.cell (hcb.1); have q1 := ExtW.cell (hcb.2.1); have q2 := ExtW.cell (hcb.2.2); have q3 := ExtW.cell (hcs.1); have q4 := ExtW.cell (hcs.2.1); have q5 := ExtW.cell (hcs.2.2)
      repeat (first | go_big_quiet_step ((fail)) | quiet_step ((fail)))
      refine wpQuiet_nil ?_; intro w9 hw9; have h9 : Ext wr w9 := by obtain ⟨y, rfl⟩ := hw9; exact y.h
      clear hw9 q0 q1 q2 q3 q4 q5; have o9 := hown.ext h9; have hcs9 := Revc.own_at o9 k hlt; have hcb9 := blk3 ((hx.trans h9).block HB.out); have f9 := o9.free (k * 3 + 2); have hcb10 := blk3 (Ext.block ((Ext.refl w9).alloc (.cells #[.int .i64 l[k].asn, .int .i64 l[k].iface, .int .i64 l[k].till] 30)) ((hx.trans h9).block HB.out)); have hx10 := (hx.trans h9).alloc (.cells #[.int .i64 l[k].asn, .int .i64 l[k].iface, .int .i64 (max l[k].till x.till)] 30); have o10 := o9.ext ((Ext.refl w9).alloc (.cells #[.int .i64 l[k].asn, .int .i64 l[k].iface, .int .i64 (max l[k].till x.till)] 30)); have hcs10 := Revc.own_at o10 k hlt; have f100 := o10.free (k * 3); have f101 := o10.free (k * 3 + 1); have f102 := o10.free (k * 3 + 2); obtain ⟨op, hgp⟩ := Revc.own_set o10 k hlt ⟨l[k].asn, l[k].iface, max l[k].till x.till⟩
      go_wp2_with fail
      refine (s_Max _ _ _).mono ?_; rintro e w8 ⟨rfl, rfl⟩
      go_wp2_with fail
      go_ret
      rw [HE.out]; exact ⟨_, rfl, OwnF.rd (hf := Revc.flen) op, hx0.trans (hx10.grown hgp (fun _ e => by cases e; exact hbg))⟩
   ·
    have hno2 : prolong x l = none := prolong_none (fun j hj => HNo.out j (by omega) hj)
    have hxr := (show Ext W0 (wr.alloc (.cells #[.int .i64 x.asn, .int .i64 x.iface, .int .i64 x.till] 30)) from hx.alloc _)
    go_wp2_with (at_builtin; refine app1 E Revc.flen Revc.one rfl _ _ rfl x rfl (OwnF.ext hown ((Ext.refl _).alloc _)) rfl (by first | exact blk_list x.f (blk_new wr _) | exact fun j u hu => hu) (by omega) (by unfold maxLen; omega) hxr.size ?_)
    intro v' w' ho' hg'; have hx' : Ext W0 w' := hxr.app hg' hown (Nat.le_refl _); clear hg'; obtain ⟨g, cg, hsh, hbg, hgs⟩ := ho'.some_shape (by simp); have hlx : (l ++ [x]).length = l.length + 1 := by simp
    rw [hlx] at hsh; subst hsh; have HLX := Lib.hid hlx; clear hlx
    by_cases h16 : 16 ≤ l.length
    ·
     have he : addRev l x = (l ++ [x]).drop 1 := by simp [addRev, hvx, hno2, h16]
     have HE := Lib.hid he; clear he; have hpt := RdS.part (OwnF.rd (hf := Revc.flen) ho') 1 (l.length + 1) (by omega) (by rw [HLX.out]; exact Nat.le_refl _); rw [List.take_of_length_le (by rw [HLX.out]; exact Nat.le_refl _)] at hpt; have h16i : (16 : Int) < (l.length : Int) + 1 := by omega
     have hcg := ho'.capLe.1; have hcg1 : cg ≠ 1 := by omega
     have hpt2 : RdS Revc.rep w' (.slice (some ⟨g, 3, none⟩) l.length (cg - 1)) ((l ++ [x]).drop 1) := by simpa [Revc.rep, Rep.flat] using hpt
     clear hpt
     go_wp2_with fail
     go_ret
     rw [HE.out]; exact ⟨_, rfl, hpt2, hx0.trans hx'⟩
    ·
     have he : addRev l x = l ++ [x] := by simp [addRev, hvx, hno2]; omega
     have HE := Lib.hid he; clear he; have h16i : (l.length : Int) + 1 ≤ 16 := by omega
     go_wp2_with fail
     go_ret
     rw [HE.out]; exact ⟨_, rfl, OwnF.rd (hf := Revc.flen) ho', hx0.trans hx'⟩
end
section
open Go.ChangeShapes Go.WideShapes Go.ChangeAt Go.RowKit Go.Deep
section
variable {P : Program} {ops : Array Oper} {Q : Exit → Act → World → Prop} {C : World → Prop}
def plainOp : Op → Bool
  | .move _ | .assign _ | .pick .. | .load .. | .fieldAddr .. | .field .. | .indexAddr .. | .index .. | .binOp .. | .unOp .. | .convert .. | .slice .. | .extract .. | .build .. => true
  | .call { callee := .builtin .len, .. } => true
  | _ => false
def ValueOrHalt (r : Result Next) : Prop := (∃ u w', r = .ok (.value u) w') ∨ ∃ h w', r = .halt h w'
theorem vh_bind (s : Sem Value) (w : World) : ValueOrHalt ((do pure (Next.value (← s)) : Sem Next).run P w) := by
 simp only [Sem.run_bind]
 cases s.run P w with
 | ok a w' => exact .inl ⟨a, w', rfl⟩
 | halt h w' => exact .inr ⟨h, w', rfl⟩
theorem vh_map {α : Type} (s : Sem α) (f : α → Value) (w : World) : ValueOrHalt ((do let x ← s; pure (Next.value (f x)) : Sem Next).run P w) := by
 simp only [Sem.run_bind]
 cases s.run P w with
 | ok a w' => exact .inl ⟨f a, w', rfl⟩
 | halt h w' => exact .inr ⟨h, w', rfl⟩
theorem plain_run (ρ : Operand → Value) (o : Oper) (h : plainOp o.op = true) (w : World) : ValueOrHalt ((execOp ρ o).run P w) := by
 unfold execOp
 cases ho : o.op <;> simp only [ho, plainOp, Bool.false_eq_true] at h ⊢
 case pick c a b => exact vh_map (asBool (ρ c)) (fun x => if x then ρ a else ρ b) w
 case call c =>
  obtain ⟨callee, args, argTypes⟩ := c
  cases callee with
  | builtin b =>
   cases b <;> simp only [Bool.false_eq_true] at h
   exact vh_bind _ w
  | value f => simp at h
  | invoke r m => simp at h
 all_goals first
  | exact vh_bind _ w
  | exact .inl ⟨_, _, rfl⟩
theorem yieldsIf_of_quiet {o : Oper} {a : Act} {v : Value} (hp : plainOp o.op = true) (hw : Region.wanted o (yielded ops a.tmps) = true) (h : ∀ w, C w → o.quietAt P a C w v) : YieldsIf P ops C o v a := by
 refine .inl ⟨hw, fun w hC => ?_⟩; have h1 := h w hC; unfold Oper.quietAt at h1
 rcases plain_run (P := P) a.eval o hp w with ⟨u, w', hr⟩ | ⟨x, w', hr⟩
 ·
  rw [hr] at h1 ⊢
  obtain ⟨rfl, rfl⟩ := h1; rfl
 ·
  rw [hr] at h1; exact h1.elim
def schedB (ops : Array Oper) : List (Nat × Bool) → Array Bool → Bool
  | [], listed => (Region.ready .any ops listed).isEmpty
  | (i, true) :: rest, listed => ((ops[i]?).map fun o => plainOp o.op).getD false && (Region.ready .any ops listed).contains i && Region.free .any ops listed i && schedB ops rest (listed.setIfInBounds i true)
  | (i, false) :: rest, listed => (Region.ready .any ops listed == [i]) && schedB ops rest (listed.setIfInBounds i true)
def wpSched (P : Program) (ops : Array Oper) (Q : Exit → Act → World → Prop) (C : World → Prop) : List (Oper × Bool) → Act → World → Prop
  | [], a, w => Q .normal a w
  | (o, true) :: rest, a, w => if Region.wanted o (yielded ops a.tmps) then o.quiet P a C (fun a' => wpSched P ops Q C rest a' w) else wpSched P ops Q C rest (a.put o.dst undef) w
  | (o, false) :: rest, a, w => wpList P ops (Exit.then (fun a' w' => C w' ∧ wpSched P ops Q C rest a' w') Q) [o] a w
def schedOps (ops : Array Oper) (l : List (Nat × Bool)) : List (Oper × Bool) := l.filterMap fun x => (ops[x.1]?).map fun o => (o, x.2)
theorem wp_exit {o : Oper} {a : Act} {w : World} {K K' : Act → World → Prop} (h : o.wp P a w K (Exit.then K' Q)) : o.wp P a w K Q := by
 unfold Oper.wp at *; generalize (execOp a.eval o).run P w = r at *
 cases r with
 | ok n w' =>
  cases n <;> simp only [Oper.upon] at h ⊢
  case enter f args => exact Calls.mono h fun e w'' he => by cases e <;> exact he
  all_goals exact h
 | halt x w' =>
  cases x <;> simp only [Oper.upon] at h ⊢
  all_goals exact h
theorem wpList_one {o : Oper} {a : Act} {w : World} {K : Act → World → Prop} {i : Nat} (ho : ops[i]? = some o) (h : wpList P ops (Exit.then K Q) [o] a w) : wpOp P ops Q i K a w := by
 unfold wpOp; simp only [ho]; simp only [wpList] at h
 by_cases hw : Region.wanted o (yielded ops a.tmps) = true
 ·
  rw [if_pos hw] at h ⊢
  rcases h with h | ⟨h1, h2⟩
  ·
   exact .inl (wp_exit h)
  ·
   exact .inr ⟨h1, h2⟩
 ·
  rw [if_neg hw] at h ⊢
  exact h
theorem wpAnyH_sched (hs : Region.noSelect ops = true) (hQ : ∀ c (a : Act) d v w, Q (.panic c) (a.put d v) w → Q (.panic c) a w) :
  ∀ (l : List (Nat × Bool)) (fuel : Nat) (listed : Array Bool) (a : Act) (w : World), l.length ≤ fuel → schedB ops l listed = true → C w → wpSched P ops Q C (schedOps ops l) a w → wpAnyH P .any ops Q C fuel listed a w
 | [], fuel, listed, a, w, _, hB, _, h => wpAnyH_done (by simpa [schedB] using hB) h fuel
 | (i, t) :: rest, 0, _, _, _, hf, _, _, _ => absurd hf (by simp)
 | (i, true) :: rest, fuel + 1, listed, a, w, hf, hB, hC, h => by
  simp only [schedB, Bool.and_eq_true] at hB; obtain ⟨⟨⟨hp, hr⟩, hfr⟩, hB'⟩ := hB
  cases ho : ops[i]? with
  | none => simp [ho] at hp
  | some o =>
   have hp' : plainOp o.op = true := by simpa [ho] using hp
   have hso : schedOps ops ((i, true) :: rest) = (o, true) :: schedOps ops rest := by simp [schedOps, ho]
   rw [hso] at h; simp only [wpSched] at h
   by_cases hw : Region.wanted o (yielded ops a.tmps) = true
   ·
    rw [if_pos hw] at h; obtain ⟨v, hv, hn⟩ := h; exact wpAnyH_take ho hs hfr hr (fun c a w => hQ c a _ _ w) (yieldsIf_of_quiet hp' hw hv) hC (wpAnyH_sched hs hQ rest fuel _ _ _ (by simpa using hf) hB' hC hn)
   ·
    rw [if_neg hw] at h; exact wpAnyH_take (v := undef) ho hs hfr hr (fun c a w => hQ c a _ _ w) (.inr ⟨by simpa using hw, rfl⟩) hC (wpAnyH_sched hs hQ rest fuel _ _ _ (by simpa using hf) hB' hC h)
 | (i, false) :: rest, fuel + 1, listed, a, w, hf, hB, hC, h => by
  simp only [schedB, Bool.and_eq_true] at hB; obtain ⟨hr, hB'⟩ := hB; have hr' : Region.ready .any ops listed = [i] := by simpa using hr
  refine wpAnyH_all hr' (by simp) ?_; intro j hj; obtain rfl : j = i := by simpa using hj
  cases ho : ops[j]? with
  | none =>
   have hm : j ∈ Region.ready .any ops listed := by rw [hr']; simp
   obtain ⟨_, oj, hoj, _⟩ := mem_ready.1 hm; rw [ho] at hoj; cases hoj
  | some o =>
   have hso : schedOps ops ((j, false) :: rest) = (o, false) :: schedOps ops rest := by simp [schedOps, ho]
   rw [hso] at h; simp only [wpSched] at h; exact wpOp_mono (fun a' w' hh => ⟨hh.1, wpAnyH_sched hs hQ rest fuel _ _ _ (by simpa using hf) hB' hh.1 hh.2⟩) (wpList_one ho h)
theorem wpSched_quiet {rest : List (Oper × Bool)} {w : World} : ∀ (l1 : List Oper) (a : Act), wpQuiet P ops C (fun a' => wpSched P ops Q C rest a' w) l1 a → wpSched P ops Q C (l1.map (fun o => (o, true)) ++ rest) a w
 | [], _, h => h
 | o :: l1, a, h => by
  simp only [List.map_cons, List.cons_append, wpSched, wpQuiet] at h ⊢
  by_cases hw : Region.wanted o (yielded ops a.tmps) = true
  ·
   rw [if_pos hw] at h ⊢
   obtain ⟨v, hv, hn⟩ := h; exact ⟨v, hv, wpSched_quiet l1 _ hn⟩
  ·
   rw [if_neg hw] at h ⊢
   exact wpSched_quiet l1 _ h
theorem wpSched_run {o : Oper} {rest : List (Oper × Bool)} {a : Act} {w : World} (h : wpList P ops (Exit.then (fun a' w' => C w' ∧ wpSched P ops Q C rest a' w') Q) [o] a w) : wpSched P ops Q C ((o, false) :: rest) a w := h
theorem wpSched_end {a : Act} {w : World} (h : Q .normal a w) : wpSched P ops Q C [] a w := h
theorem wp_region_sched {id : Nat} {a : Act} {w : World} (l : List (Nat × Bool)) (hm : P.follows .mixedOrders = true) (hs : Region.noSelect ops = true) (hl : decide (l.length ≤ ops.size) = true) (hB : schedB ops l (Array.replicate ops.size false) = true)
  (hQ : ∀ c (a : Act) d v w, Q (.panic c) (a.put d v) w → Q (.panic c) a w) (hC : C w.drew) (h : wpSched P ops Q C (schedOps ops l) a w.drew) : (Code.region id ops true).wp P Q a w :=
 wp_region_held (S := C) hm (wpAnyH_sched hs hQ l _ _ _ _ (of_decide_eq_true hl) hB hC h)
def pickOps (ops : Array Oper) (l : List Nat) : List Oper := l.filterMap fun i => ops[i]?
def blocks : List (List Nat × Nat) → List Nat → List (Nat × Bool)
  | [], tail => tail.map fun i => (i, true)
  | (l1, s) :: bs, tail => (l1.map fun i => (i, true)) ++ (s, false) :: blocks bs tail
def wpBlocks (P : Program) (ops : Array Oper) (Q : Exit → Act → World → Prop) (C : World → Prop) : List (List Nat × Nat) → List Nat → Act → World → Prop
  | [], tail, a, w => wpQuiet P ops C (fun a' => Q .normal a' w) (pickOps ops tail) a
  | (l1, s) :: bs, tail, a, w => wpQuiet P ops C (fun a' => wpList P ops (Exit.then (fun a2 w2 => C w2 ∧ wpBlocks P ops Q C bs tail a2 w2) Q) (pickOps ops [s]) a' w) (pickOps ops l1) a
theorem schedOps_append (l l' : List (Nat × Bool)) : schedOps ops (l ++ l') = schedOps ops l ++ schedOps ops l' := by simp [schedOps]
theorem schedOps_plain (l : List Nat) : schedOps ops (l.map fun i => (i, true)) = (pickOps ops l).map fun o => (o, true) := by
 induction l with
 | nil => rfl
 | cons i l ih =>
  simp only [schedOps, pickOps] at ih ⊢
  cases ho : ops[i]? <;> simp [ho, ih]
theorem wpQuiet_mono {Q1 Q2 : Act → Prop} (hq : ∀ a, Q1 a → Q2 a) : ∀ (l : List Oper) (a : Act), wpQuiet P ops C Q1 l a → wpQuiet P ops C Q2 l a
 | [], _, h => hq _ h
 | o :: l, a, h => by
  simp only [wpQuiet] at h ⊢
  by_cases hw : Region.wanted o (yielded ops a.tmps) = true
  ·
   rw [if_pos hw] at h ⊢
   obtain ⟨v, hv, hn⟩ := h; exact ⟨v, hv, wpQuiet_mono hq l _ hn⟩
  ·
   rw [if_neg hw] at h ⊢
   exact wpQuiet_mono hq l _ h
theorem wp_mono2 {o : Oper} {a : Act} {w : World} {K K' : Act → World → Prop} {Q Q' : Exit → Act → World → Prop} (hk : ∀ a w, K a w → K' a w) (hq : ∀ e a w, Q e a w → Q' e a w) (h : o.wp P a w K Q) : o.wp P a w K' Q' := by
 unfold Oper.wp at *; generalize (execOp a.eval o).run P w = r at *
 cases r with
 | ok n w' =>
  cases n <;> simp only [Oper.upon] at h ⊢
  case enter f args =>
   refine Calls.mono h fun e w'' he => ?_
   cases e with
   | returned v => exact hk _ _ he
   | panicked c => exact hq _ _ _ he
   | outgrown => obtain ⟨a2, w2, h2⟩ := he; exact ⟨a2, w2, hq _ _ _ h2⟩
  case row r args => exact Rows.mono h fun u w'' he => hk _ _ he
  all_goals exact hk _ _ h
 | halt x w' =>
  cases x <;> simp only [Oper.upon] at h ⊢
  all_goals exact hq _ _ _ h
theorem wpList_mono {Q Q' : Exit → Act → World → Prop} (hq : ∀ e a w, Q e a w → Q' e a w) : ∀ {l : List Oper} {a : Act} {w : World}, wpList P ops Q l a w → wpList P ops Q' l a w
 | [], _, _, h => hq _ _ _ h
 | o :: l, a, w, h => by
  simp only [wpList] at h ⊢
  by_cases hw : Region.wanted o (yielded ops a.tmps) = true
  ·
   rw [if_pos hw] at h ⊢
   rcases h with h | ⟨h1, a2, w2, h2⟩
   ·
    exact .inl (wp_mono2 (fun a w h' => wpList_mono hq h') hq h)
   ·
    exact .inr ⟨h1, a2, w2, hq _ _ _ h2⟩
  ·
   rw [if_neg hw] at h ⊢
   exact wpList_mono hq h
theorem wpSched_blocks {Q : Exit → Act → World → Prop} : ∀ (bs : List (List Nat × Nat)) (tail : List Nat), (∀ b ∈ bs, b.2 < ops.size) → ∀ (a : Act) (w : World), wpBlocks P ops Q C bs tail a w → wpSched P ops Q C (schedOps ops (blocks bs tail)) a w
 | [], tail, _, a, w, h => by
  simp only [blocks, schedOps_plain]; have := wpSched_quiet (Q := Q) (rest := []) (w := w) (pickOps ops tail) a h
  simpa using this
 | (l1, s) :: bs, tail, hb, a, w, h => by
  have hs : s < ops.size := hb (l1, s) (by simp); have ho : ops[s]? = some ops[s] := by simp [hs]
  have hso : schedOps ops ((s, false) :: blocks bs tail) = (ops[s], false) :: schedOps ops (blocks bs tail) := by simp [schedOps, ho]
  have hps : pickOps ops [s] = [ops[s]] := by simp [pickOps, ho]
  simp only [blocks, schedOps_append, schedOps_plain, hso]; refine wpSched_quiet (pickOps ops l1) a (wpQuiet_mono (fun a' h' => ?_) _ _ h); rw [hps] at h'; refine wpSched_run ?_
  have hm : ∀ e a2 w2, Exit.then (fun a2 w2 => C w2 ∧ wpBlocks P ops Q C bs tail a2 w2) Q e a2 w2 → Exit.then (fun a2 w2 => C w2 ∧ wpSched P ops Q C (schedOps ops (blocks bs tail)) a2 w2) Q e a2 w2 := by
   intro e a2 w2 hh
   cases e with
   | normal => exact ⟨hh.1, wpSched_blocks bs tail (fun b hbm => hb b (by simp [hbm])) a2 w2 hh.2⟩
   | _ => exact hh
  exact wpList_mono hm h'
theorem wp_region_blocks {id : Nat} {a : Act} {w : World} (bs : List (List Nat × Nat)) (tail : List Nat) (hm : P.follows .mixedOrders = true) (hs : Region.noSelect ops = true)
  (hB : (decide ((blocks bs tail).length ≤ ops.size) && bs.all (fun b => decide (b.2 < ops.size)) && schedB ops (blocks bs tail) (Array.replicate ops.size false)) = true)
  (h : wpBlocks P ops (NoPanic Q) (fun w1 => ∃ x : ExtW w, w1 = x.w') bs tail a w.drew) : (Code.region id ops true).wp P Q a w := by
 simp only [Bool.and_eq_true, List.all_eq_true] at hB; obtain ⟨⟨h1, h2⟩, h3⟩ := hB; refine wp_region_noPanic ?_; exact wp_region_sched (C := fun w1 => ∃ x : ExtW w, w1 = x.w') (blocks bs tail) hm hs h1 h3 (fun _ _ _ _ _ h => h) ⟨⟨_, (Ext.refl w).drew⟩, rfl⟩ (wpSched_blocks bs tail (fun b hb => of_decide_eq_true (h2 b hb)) a w.drew h)
end
end
section
open Go.ChangeShapes Go.WideShapes Go.ChangeAt Go.RowKit Go.Deep
def resvFits (l : List Resv) (c now : Int) (x : Resv) : Bool := validResv x && decide (resvdRate l x.asn x.iface now ≤ c)
def resvsOk (l : List Resv) (c now : Int) (k : Nat) : Bool := (List.range k).all fun i => match l[i]? with
 | none => true
 | some x => resvFits l c now x && (l.take i).all (otherResv x)
def validResvs (l : List Resv) (c now : Int) : Bool := decide (l.length ≤ 40) && resvsOk l c now l.length
theorem resvsOk_succ {l : List Resv} {c now : Int} {k : Nat} (hk : k < l.length) : resvsOk l c now (k + 1) = (resvsOk l c now k && (resvFits l c now l[k] && (l.take k).all (otherResv l[k]))) := by
 simp [resvsOk, List.range_succ, List.getElem?_eq_getElem hk]
theorem resvsOk_mono {l : List Resv} {c now : Int} {k m : Nat} (h : k ≤ m) (hn : resvsOk l c now k = false) : resvsOk l c now m = false := by
 simp only [resvsOk, List.all_eq_false, List.mem_range] at hn ⊢
 obtain ⟨i, hi, hh⟩ := hn; exact ⟨i, by omega, hh⟩
theorem validResvs_no {l : List Resv} {c now : Int} {k : Nat} (hk : k < l.length) (h : (resvFits l c now l[k] && (l.take k).all (otherResv l[k])) = false) : validResvs l c now = false := by
 have : resvsOk l c now (k + 1) = false := by rw [resvsOk_succ hk, h, Bool.and_false]
 simp [validResvs, resvsOk_mono (m := l.length) (by omega) this]
end
section
open Go.ChangeShapes Go.WideShapes Go.ChangeAt Go.RowKit Go.Deep
structure ASd where
  isd : Int
  core : Bool
  key : Int
  deriving DecidableEq
def ASd.f (x : ASd) : List Value := [.int .i64 x.isd, .bool x.core, .int .i64 x.key]
theorem ASd.flen (x : ASd) : x.f.length = 3 := rfl
def ASd.rep : Rep ASd := Rep.flat 3 ASd.f ASd.flen
theorem ASd.one (x : ASd) : ∀ u ∈ x.f, u.oneCell' = true := by
 intro u hu; simp only [ASd.f, List.mem_cons, List.not_mem_nil, or_false] at hu
 rcases hu with rfl | rfl | rfl <;> rfl
theorem ASd.at {w : World} {o : Option Addr} {m cap : Nat} {l : List ASd} (h : RdS ASd.rep w (.slice o m cap) l) (k : Nat) (hk : k < l.length) :
  ∃ b off, o = some ⟨b, off, none⟩ ∧ w.cell? ⟨b, off + k * 3, none⟩ = some (.int .i64 l[k].isd) ∧ w.cell? ⟨b, off + k * 3 + 1, none⟩ = some (.bool l[k].core) ∧ w.cell? ⟨b, off + k * 3 + 2, none⟩ = some (.int .i64 l[k].key) := by
 obtain ⟨b, off, ho, hc⟩ := RdS.at_flat h k hk; exact ⟨b, off, ho, by simpa using hc 0 _ rfl, by simpa using hc 1 _ rfl, by simpa using hc 2 _ rfl⟩
theorem ASd.at_ext {w w' : World} {b off k : Nat} {l : List ASd} {hk : k < l.length} (x : Ext w w') (h : w.cell? ⟨b, off + k * 3, none⟩ = some (.int .i64 l[k].isd) ∧ w.cell? ⟨b, off + k * 3 + 1, none⟩ = some (.bool l[k].core) ∧ w.cell? ⟨b, off + k * 3 + 2, none⟩ = some (.int .i64 l[k].key)) :
  w'.cell? ⟨b, off + k * 3, none⟩ = some (.int .i64 l[k].isd) ∧ w'.cell? ⟨b, off + k * 3 + 1, none⟩ = some (.bool l[k].core) ∧ w'.cell? ⟨b, off + k * 3 + 2, none⟩ = some (.int .i64 l[k].key) := by
 obtain ⟨h0, h1, h2⟩ := h; exact ⟨x.cell h0, x.cell h1, x.cell h2⟩
theorem ASd.own_at {base : Nat} {e : TypeId} {w : World} {g m cap : Nat} {l : List ASd} (h : OwnF ASd.f 3 base e w (.slice (some ⟨g, 0, none⟩) m cap) l) (k : Nat) (hk : k < l.length) :
  w.cell? ⟨g, k * 3, none⟩ = some (.int .i64 l[k].isd) ∧ w.cell? ⟨g, k * 3 + 1, none⟩ = some (.bool l[k].core) ∧ w.cell? ⟨g, k * 3 + 2, none⟩ = some (.int .i64 l[k].key) := by
 have hc := OwnF.cells_flat ASd.flen h k hk; exact ⟨by simpa using hc 0 _ rfl, by simpa using hc 1 _ rfl, by simpa using hc 2 _ rfl⟩
theorem Tryz.infoASd : (Tryz.prog.info? 198).map (fun i => (i.zero, i.size, i.bytes)) = some (some (.agg #[.int .i64 0, .bool false, .int .i64 0]), 3, 24) := by kernel_rfl
theorem ASd.sets {l : List ASd} {k : Nat} (hk : k < l.length) (x : ASd) : ((((l.flatMap ASd.f).set (k * 3) (.int .i64 x.isd)).set (k * 3 + 1) (.bool x.core)).set (k * 3 + 2) (.int .i64 x.key)) = (l.set k x).flatMap ASd.f := by
 induction l generalizing k with
 | nil => simp at hk
 | cons a l ih =>
  cases k with
  | zero => rfl
  | succ k =>
   have := ih (k := k) (by simpa using hk); simp only [List.flatMap_cons, List.set_cons_succ, ← this, ASd.f]; rw [show (k + 1) * 3 = k * 3 + 1 + 1 + 1 from by omega]; rfl
theorem ASd.own_set {base : Nat} {e : TypeId} {w : World} {g m cap : Nat} {l : List ASd} (h : OwnF ASd.f 3 base e w (.slice (some ⟨g, 0, none⟩) m cap) l) (k : Nat) (hk : k < l.length) (x : ASd) :
  OwnF ASd.f 3 base e (((w.setCell ⟨g, k * 3, none⟩ (.int .i64 x.isd)).setCell ⟨g, k * 3 + 1, none⟩ (.bool x.core)).setCell ⟨g, k * 3 + 2, none⟩ (.int .i64 x.key)) (.slice (some ⟨g, 0, none⟩) m cap) (l.set k x) ∧
   w.grownBy (((w.setCell ⟨g, k * 3, none⟩ (.int .i64 x.isd)).setCell ⟨g, k * 3 + 1, none⟩ (.bool x.core)).setCell ⟨g, k * 3 + 2, none⟩ (.int .i64 x.key)) (some g) := by
 obtain rfl := h.len; obtain ⟨h0, g0⟩ := World.ownsRow.stored h (k * 3) (.int .i64 x.isd); obtain ⟨h1, g1⟩ := World.ownsRow.stored h0 (k * 3 + 1) (.bool x.core); obtain ⟨h2, g2⟩ := World.ownsRow.stored h1 (k * 3 + 2) (.int .i64 x.key); rw [ASd.sets hk] at h2; refine ⟨?_, ((g0.trans g1).trans g2)⟩; unfold OwnF; rw [List.length_set]; exact h2
theorem ASd.ext' {x y : ASd} (h0 : x.isd = y.isd) (h1 : x.core = y.core) (h2 : x.key = y.key) : x = y := by
 cases x; cases y; simp_all
theorem ASd.eq_iff (x y : ASd) : (decide (x = y) : Bool) = (!(x.isd != y.isd) && !(x.core != y.core) && !(x.key != y.key)) := by
 cases x; cases y; simp only [nbne, ASd.mk.injEq, Bool.decide_and, Bool.and_assoc]
def ASd.ok (x : ASd) : Prop := I64 x.isd ∧ I64 x.key
end
section
open Go.ChangeShapes Go.WideShapes Go.ChangeAt Go.RowKit Go.Deep
structure Lnk where
  a : Int
  ai : Int
  b : Int
  bi : Int
  kind : Int
  deriving DecidableEq
def Lnk.f (x : Lnk) : List Value := [.int .i64 x.a, .int .i64 x.ai, .int .i64 x.b, .int .i64 x.bi, .int .i64 x.kind]
theorem Lnk.flen (x : Lnk) : x.f.length = 5 := rfl
def Lnk.rep : Rep Lnk := Rep.flat 5 Lnk.f Lnk.flen
theorem Lnk.one (x : Lnk) : ∀ u ∈ x.f, u.oneCell' = true := by
 intro u hu; simp only [Lnk.f, List.mem_cons, List.not_mem_nil, or_false] at hu
 rcases hu with rfl | rfl | rfl | rfl | rfl <;> rfl
theorem Lnk.at {w : World} {o : Option Addr} {m cap : Nat} {l : List Lnk} (h : RdS Lnk.rep w (.slice o m cap) l) (k : Nat) (hk : k < l.length) :
  ∃ b off, o = some ⟨b, off, none⟩ ∧ w.cell? ⟨b, off + k * 5, none⟩ = some (.int .i64 l[k].a) ∧ w.cell? ⟨b, off + k * 5 + 1, none⟩ = some (.int .i64 l[k].ai) ∧ w.cell? ⟨b, off + k * 5 + 2, none⟩ = some (.int .i64 l[k].b) ∧ w.cell? ⟨b, off + k * 5 + 3, none⟩ = some (.int .i64 l[k].bi) ∧ w.cell? ⟨b, off + k * 5 + 4, none⟩ = some (.int .i64 l[k].kind) := by
 obtain ⟨b, off, ho, hc⟩ := RdS.at_flat h k hk; exact ⟨b, off, ho, by simpa using hc 0 _ rfl, by simpa using hc 1 _ rfl, by simpa using hc 2 _ rfl, by simpa using hc 3 _ rfl, by simpa using hc 4 _ rfl⟩
theorem Lnk.at_ext {w w' : World} {b off k : Nat} {l : List Lnk} {hk : k < l.length} (x : Ext w w') (h : w.cell? ⟨b, off + k * 5, none⟩ = some (.int .i64 l[k].a) ∧ w.cell? ⟨b, off + k * 5 + 1, none⟩ = some (.int .i64 l[k].ai) ∧ w.cell? ⟨b, off + k * 5 + 2, none⟩ = some (.int .i64 l[k].b) ∧ w.cell? ⟨b, off + k * 5 + 3, none⟩ = some (.int .i64 l[k].bi) ∧ w.cell? ⟨b, off + k * 5 + 4, none⟩ = some (.int .i64 l[k].kind)) :
  w'.cell? ⟨b, off + k * 5, none⟩ = some (.int .i64 l[k].a) ∧ w'.cell? ⟨b, off + k * 5 + 1, none⟩ = some (.int .i64 l[k].ai) ∧ w'.cell? ⟨b, off + k * 5 + 2, none⟩ = some (.int .i64 l[k].b) ∧ w'.cell? ⟨b, off + k * 5 + 3, none⟩ = some (.int .i64 l[k].bi) ∧ w'.cell? ⟨b, off + k * 5 + 4, none⟩ = some (.int .i64 l[k].kind) := by
 obtain ⟨h0, h1, h2, h3, h4⟩ := h; exact ⟨x.cell h0, x.cell h1, x.cell h2, x.cell h3, x.cell h4⟩
theorem Lnk.own_at {base : Nat} {e : TypeId} {w : World} {g m cap : Nat} {l : List Lnk} (h : OwnF Lnk.f 5 base e w (.slice (some ⟨g, 0, none⟩) m cap) l) (k : Nat) (hk : k < l.length) :
  w.cell? ⟨g, k * 5, none⟩ = some (.int .i64 l[k].a) ∧ w.cell? ⟨g, k * 5 + 1, none⟩ = some (.int .i64 l[k].ai) ∧ w.cell? ⟨g, k * 5 + 2, none⟩ = some (.int .i64 l[k].b) ∧ w.cell? ⟨g, k * 5 + 3, none⟩ = some (.int .i64 l[k].bi) ∧ w.cell? ⟨g, k * 5 + 4, none⟩ = some (.int .i64 l[k].kind) := by
 have hc := OwnF.cells_flat Lnk.flen h k hk; exact ⟨by simpa using hc 0 _ rfl, by simpa using hc 1 _ rfl, by simpa using hc 2 _ rfl, by simpa using hc 3 _ rfl, by simpa using hc 4 _ rfl⟩
theorem Tryz.infoLnk : (Tryz.prog.info? 156).map (fun i => (i.zero, i.size, i.bytes)) = some (some (.agg #[.int .i64 0, .int .i64 0, .int .i64 0, .int .i64 0, .int .i64 0]), 5, 40) := by kernel_rfl
theorem Lnk.sets {l : List Lnk} {k : Nat} (hk : k < l.length) (x : Lnk) : ((((((l.flatMap Lnk.f).set (k * 5) (.int .i64 x.a)).set (k * 5 + 1) (.int .i64 x.ai)).set (k * 5 + 2) (.int .i64 x.b)).set (k * 5 + 3) (.int .i64 x.bi)).set (k * 5 + 4) (.int .i64 x.kind)) = (l.set k x).flatMap Lnk.f := by
 induction l generalizing k with
 | nil => simp at hk
 | cons a l ih =>
  cases k with
  | zero => rfl
  | succ k =>
   have := ih (k := k) (by simpa using hk); simp only [List.flatMap_cons, List.set_cons_succ, ← this, Lnk.f]; rw [show (k + 1) * 5 = k * 5 + 1 + 1 + 1 + 1 + 1 from by omega]; rfl
theorem Lnk.own_set {base : Nat} {e : TypeId} {w : World} {g m cap : Nat} {l : List Lnk} (h : OwnF Lnk.f 5 base e w (.slice (some ⟨g, 0, none⟩) m cap) l) (k : Nat) (hk : k < l.length) (x : Lnk) :
  OwnF Lnk.f 5 base e (((((w.setCell ⟨g, k * 5, none⟩ (.int .i64 x.a)).setCell ⟨g, k * 5 + 1, none⟩ (.int .i64 x.ai)).setCell ⟨g, k * 5 + 2, none⟩ (.int .i64 x.b)).setCell ⟨g, k * 5 + 3, none⟩ (.int .i64 x.bi)).setCell ⟨g, k * 5 + 4, none⟩ (.int .i64 x.kind)) (.slice (some ⟨g, 0, none⟩) m cap) (l.set k x) ∧
   w.grownBy (((((w.setCell ⟨g, k * 5, none⟩ (.int .i64 x.a)).setCell ⟨g, k * 5 + 1, none⟩ (.int .i64 x.ai)).setCell ⟨g, k * 5 + 2, none⟩ (.int .i64 x.b)).setCell ⟨g, k * 5 + 3, none⟩ (.int .i64 x.bi)).setCell ⟨g, k * 5 + 4, none⟩ (.int .i64 x.kind)) (some g) := by
 obtain rfl := h.len; obtain ⟨h0, g0⟩ := World.ownsRow.stored h (k * 5) (.int .i64 x.a); obtain ⟨h1, g1⟩ := World.ownsRow.stored h0 (k * 5 + 1) (.int .i64 x.ai); obtain ⟨h2, g2⟩ := World.ownsRow.stored h1 (k * 5 + 2) (.int .i64 x.b); obtain ⟨h3, g3⟩ := World.ownsRow.stored h2 (k * 5 + 3) (.int .i64 x.bi); obtain ⟨h4, g4⟩ := World.ownsRow.stored h3 (k * 5 + 4) (.int .i64 x.kind); rw [Lnk.sets hk] at h4; refine ⟨?_, ((((g0.trans g1).trans g2).trans g3).trans g4)⟩; unfold OwnF; rw [List.length_set]; exact h4
theorem Lnk.ext' {x y : Lnk} (h0 : x.a = y.a) (h1 : x.ai = y.ai) (h2 : x.b = y.b) (h3 : x.bi = y.bi) (h4 : x.kind = y.kind) : x = y := by
 cases x; cases y; simp_all
theorem Lnk.eq_iff (x y : Lnk) : (decide (x = y) : Bool) = (!(x.a != y.a) && !(x.ai != y.ai) && !(x.b != y.b) && !(x.bi != y.bi) && !(x.kind != y.kind)) := by
 cases x; cases y; simp only [nbne, Lnk.mk.injEq, Bool.decide_and, Bool.and_assoc]
def Lnk.mk' (k : Int) : Lnk := ⟨k, k + 1, k + 1 + 1, k + 1 + 1 + 1, k + 1 + 1 + 1 + 1⟩
def Lnk.ok (x : Lnk) : Prop := I64 x.a ∧ I64 x.ai ∧ I64 x.b ∧ I64 x.bi ∧ I64 x.kind
end
section
open Go.ChangeShapes Go.WideShapes Go.ChangeAt Go.RowKit Go.Deep
structure Topo where
  ases : List ASd
  links : List Lnk
  deriving DecidableEq
def Topo.size (x : Topo) : Nat := x.ases.length + x.links.length
def Topo.rep : Rep Topo where
  cells := 2
  rd w cs x := ∃ v1 v2, cs = [v1, v2] ∧ RdS ASd.rep w v1 x.ases ∧ RdS Lnk.rep w v2 x.links
  len := by rintro w cs a ⟨v1, v2, rfl, _⟩; rfl
  ext := by rintro w w' cs a e ⟨v1, v2, rfl, h1, h2⟩; exact ⟨v1, v2, rfl, h1.ext e, h2.ext e⟩
def Topo.ok (x : Topo) : Prop := (∀ y ∈ x.ases, ASd.ok y) ∧ ∀ y ∈ x.links, Lnk.ok y
theorem szL_addT {left : Int} {n m : Nat} (_ : ¬ left - n < 0) : szL (left - n) m = szL left (n + m) := by
 unfold szL
 by_cases h2 : left - n - m < 0
 ·
  rw [if_pos h2, if_pos (by omega)]
 ·
  rw [if_neg h2, if_neg (by omega)]; omega
end
section
open Go.ChangeShapes Go.WideShapes Go.ChangeAt Go.RowKit Go.Deep
def at1 (g : Nat) : Nat → Prop := fun b => b = g
theorem Chg.up {g : Nat} {S : Nat → Prop} {a b c : World} (h : Chg (at1 g) a b) (k : Chg S b c) (hs : ∀ i, S i → i = g ∨ a.heap.size ≤ i) : Chg (at1 g) a c :=
 ⟨k.os.trans h.os, k.tape.trans h.tape, k.output.trans h.output, Nat.le_trans h.size k.size, fun i hi hn =>
  (k.block i (Nat.lt_of_lt_of_le hi h.size) (fun hk => by rcases hs i hk with e | e; exact hn e; omega)).trans (h.block i hi hn)⟩
theorem Chg.ext {g : Nat} {a b c : World} (h : Chg (at1 g) a b) (k : Ext b c) : Chg (at1 g) a c := h.trans (Chg.ofExt k)
theorem Chg.blkS {S : Nat → Prop} {a b : World} (h : Chg S a b) {k : Nat} {o : Obj} (hb : a.heap[k]? = some o) (hn : ¬ S k) : b.heap[k]? = some o :=
 (h.block k (blk_lt hb) hn).trans hb
theorem Chg.cell {S : Nat → Prop} {a b : World} (h : Chg S a b) {p : Addr} {v : Value} (hc : a.cell? p = some v) (hn : ¬ S p.block) : b.cell? p = some v :=
 (World.cell?_of_block (w := a) (h.block p.block (World.block_lt_of_cell? a p hc) hn)).trans hc
theorem Ext.ofCur {a b c : World} {g : Nat} (h : Ext a b) (k : Chg (at1 g) b c) (hg : a.heap.size ≤ g) : Ext a c := h.chg k (fun i hi => by have h1 : i = g := hi; omega)
def St {α : Type} (g : Nat) (r : Rep α) (w : World) (v : Value) (l : List α) : Prop := ∀ w', Chg (at1 g) w w' → RdS r w' v l
theorem St.rd {α : Type} {g : Nat} {r : Rep α} {w : World} {v : Value} {l : List α} (h : St g r w v l) : RdS r w v l := h w (Chg.refl _ _)
theorem St.step {α : Type} {g : Nat} {r : Rep α} {w w' : World} {v : Value} {l : List α} (h : St g r w v l) (c : Chg (at1 g) w w') : St g r w' v l := fun w2 c2 => h w2 (c.trans c2)
theorem St.ext {α : Type} {g : Nat} {r : Rep α} {w w' : World} {v : Value} {l : List α} (h : St g r w v l) (c : Ext w w') : St g r w' v l := h.step (Chg.ofExt c)
theorem St.ofOwn {α : Type} {O : Own α} {g : Nat} {S : Nat → Prop} {w : World} {v : Value} {l : List α} (h : O.own S w v l) (hg : ∀ b, S b → b ≠ g) : St g O.rep w v l := fun _ c => O.rd (O.kept h c (fun b hb e => hg b hb e))
theorem St.ofF {α : Type} {n : Nat} {f : α → List Value} {hf : ∀ a, (f a).length = n} {g base : Nat} {e : TypeId} {w : World} {v : Value} {l : List α} (h : OwnF f n base e w v l) (hg : g < base) : St g (Rep.flat n f hf) w v l :=
 fun _ c => OwnF.rd (h.chg c (fun k hk e => by have h1 := (h.block k hk).1; have h2 : k = g := e; omega))
theorem St.nil {α : Type} (g : Nat) (r : Rep α) (w : World) : St g r w (.slice none 0 0) [] := fun _ _ => RdS.nil _ _
structure ChgW (g : Nat) (w : World) where
  w' : World
  h : Chg (at1 g) w w'
instance (g : Nat) (w : World) : Nonempty (ChgW g w) := ⟨⟨w, Chg.refl _ w⟩⟩
theorem ChgW.cell {g : Nat} {w : World} {p : Addr} {v : Value} (h : w.cell? p = some v) (hn : p.block ≠ g) : ∀ x : ChgW g w, x.w'.cell? p = some v := fun x => x.h.cell h hn
theorem ChgW.out {g : Nat} {w w1 : World} (h : ∃ x : ChgW g w, w1 = x.w') : Chg (at1 g) w w1 := by obtain ⟨y, rfl⟩ := h; exact y.h
section
variable {P : Program} {ops : Array Oper} {Q : Exit → Act → World → Prop}
theorem wp_region_draws {id : Nat} {a : Act} {w : World} (g : Nat) (bs : List (List Nat × Nat)) (tail : List Nat) (hm : P.follows .mixedOrders = true) (hs : Region.noSelect ops = true)
  (hB : (decide ((blocks bs tail).length ≤ ops.size) && bs.all (fun b => decide (b.2 < ops.size)) && schedB ops (blocks bs tail) (Array.replicate ops.size false)) = true)
  (h : wpBlocks P ops (NoPanic Q) (fun w1 => ∃ x : ChgW g w, w1 = x.w') bs tail a w.drew) : (Code.region id ops true).wp P Q a w := by
 simp only [Bool.and_eq_true, List.all_eq_true] at hB; obtain ⟨⟨h1, h2⟩, h3⟩ := hB; refine wp_region_noPanic ?_; exact wp_region_sched (C := fun w1 => ∃ x : ChgW g w, w1 = x.w') (blocks bs tail) hm hs h1 h3 (fun _ _ _ _ _ h => h) ⟨⟨_, Chg.ofExt (Ext.refl w).drew⟩, rfl⟩ (wpSched_blocks bs tail (fun b hb => of_decide_eq_true (h2 b hb)) a w.drew h)
end
structure ChgSW (S : Nat → Prop) (w : World) where
  w' : World
  h : Chg S w w'
instance (S : Nat → Prop) (w : World) : Nonempty (ChgSW S w) := ⟨⟨w, Chg.refl _ w⟩⟩
theorem ChgSW.cell {S : Nat → Prop} {w : World} {p : Addr} {v : Value} (h : w.cell? p = some v) (hn : ¬ S p.block) : ∀ x : ChgSW S w, x.w'.cell? p = some v := fun x => x.h.cell h hn
section
variable {P : Program} {ops : Array Oper} {Q : Exit → Act → World → Prop}
theorem wp_region_set {id : Nat} {a : Act} {w : World} (S : Nat → Prop) (bs : List (List Nat × Nat)) (tail : List Nat) (hm : P.follows .mixedOrders = true) (hs : Region.noSelect ops = true)
  (hB : (decide ((blocks bs tail).length ≤ ops.size) && bs.all (fun b => decide (b.2 < ops.size)) && schedB ops (blocks bs tail) (Array.replicate ops.size false)) = true)
  (h : wpBlocks P ops (NoPanic Q) (fun w1 => ∃ x : ChgSW S w, w1 = x.w') bs tail a w.drew) : (Code.region id ops true).wp P Q a w := by
 simp only [Bool.and_eq_true, List.all_eq_true] at hB; obtain ⟨⟨h1, h2⟩, h3⟩ := hB; refine wp_region_noPanic ?_; exact wp_region_sched (C := fun w1 => ∃ x : ChgSW S w, w1 = x.w') (blocks bs tail) hm hs h1 h3 (fun _ _ _ _ _ h => h) ⟨⟨_, Chg.ofExt (Ext.refl w).drew⟩, rfl⟩ (wpSched_blocks bs tail (fun b hb => of_decide_eq_true (h2 b hb)) a w.drew h)
end
theorem and255 (x : Int) : 0 ≤ IntKind.wrap .i64 ((BitVec.ofInt 64 x &&& BitVec.ofInt 64 255).toNat : Int) ∧ IntKind.wrap .i64 ((BitVec.ofInt 64 x &&& BitVec.ofInt 64 255).toNat : Int) ≤ 255 := by
 have h1 : (BitVec.ofInt 64 x &&& BitVec.ofInt 64 255).toNat ≤ 255 := by
  rw [BitVec.toNat_and]; exact Nat.le_trans Nat.and_le_right (by decide)
 generalize (BitVec.ofInt 64 x &&& BitVec.ofInt 64 255).toNat = n at *
 have : IntKind.wrap .i64 (n : Int) = n := by
  unfold IntKind.wrap
  simp [IntKind.bits, IntKind.signed]
  omega
 omega
def Cur (g : Nat) (v : Value) (code : List Int) (w : World) : Prop :=
  (∃ i h : Int, w.heap[g]? = some (.cells #[v, .int .i64 i, .int .i64 h] 182) ∧ 0 ≤ i ∧ i ≤ code.length) ∧ St g Rep.byte w v code ∧ ∀ x ∈ code, U8 x
theorem Cur.ext {g : Nat} {v : Value} {code : List Int} {w w' : World} (h : Cur g v code w) (c : Ext w w') : Cur g v code w' := by
 obtain ⟨⟨i, hh, hb, r⟩, hs, hu⟩ := h; exact ⟨⟨i, hh, c.block hb, r⟩, hs.ext c, hu⟩
theorem Cur.lt {g : Nat} {v : Value} {code : List Int} {w : World} (h : Cur g v code w) : g < w.heap.size := by
 obtain ⟨⟨i, hh, hb, r⟩, hs, hu⟩ := h; exact blk_lt hb
theorem Cur.kept {g : Nat} {v : Value} {code : List Int} {w0 w w' : World} {S : Nat → Prop} (h0 : Cur g v code w0) (h : Cur g v code w) (c : Chg S w w') (hn : ¬ S g) (cx : Chg (at1 g) w0 w') : Cur g v code w' := by
 obtain ⟨⟨i, hh, hb, r⟩, hs, hu⟩ := h; exact ⟨⟨i, hh, c.blkS hb hn, r⟩, h0.2.1.step cx, hu⟩
end
end Go.Proofs.YtcpfmhgfaliemaaGreat
