/- The reference's list with a revocation more: its memory is new. No condition but the bound that the theorem names. -/
import Derived.Test.YtcpfmhgfaliemaaGreatKM8
namespace Go.Proofs.YtcpfmhgfaliemaaGreat
open Go.ChangeShapes Go.WideShapes Go.ChangeAt Go.RowKit Go.Deep

theorem keepR {lo base : Nat} {e : TypeId} {w : World} {v : Value} {l : List Revc} (ho : OwnF Revc.f 3 base e w v l) (hb : lo ≤ base) : (Own.keep Revc.rep).own (rng lo w.heap.size) w v l := Own.toKeep (Own.ofFr (hf := Revc.flen) (ho.mono hb) (Nat.le_refl _))
theorem keepS {lo base g cg : Nat} {e : TypeId} {w : World} {x : Revc} {l : List Revc} (ho : OwnF Revc.f 3 base e w (.slice (some ⟨g, 0, none⟩) (l.length + 1) cg) (l ++ [x])) (hb : lo ≤ base) : (Own.keep Revc.rep).own (rng lo w.heap.size) w (.slice (some ⟨g, 3, none⟩) l.length (cg - 1)) ((l ++ [x]).drop 1) := fun w2 c => by
 have h := ho.chg c (fun k hk hn => hn ⟨Nat.le_trans hb (ho.block k hk).1, (ho.block k hk).2⟩)
 have hpt := RdS.part (OwnF.rd (hf := Revc.flen) h) 1 (l.length + 1) (by omega) (by simp)
 rw [List.take_of_length_le (by simp)] at hpt
 simpa [Revc.rep, Rep.flat] using hpt
set_option maxRecDepth 100000 in
set_option maxHeartbeats 40000000 in
theorem s_AddRevocationK (l : List Revc) (v : Value) (x : Revc) (w : World) (hv : RdS Revc.rep w v l) (hl : l.length ≤ 1048576) :
  Calls Tryz.prog 21 #[v, .agg #[.int .i64 x.asn, .int .i64 x.iface, .int .i64 x.till]] w fun e w' => ∃ v', e = .returned v' ∧ (Own.keep Revc.rep).own (rng w.heap.size w'.heap.size) w' v' (addRev l x) ∧ Ext w w' := by
 obtain ⟨o, cap, rfl, hsm⟩ := hv.shape
 obtain ⟨E⟩ := elemRevc
 go_enter Tryz.func21, Tryz.ntmps21
 go_wp2_with (at_builtin; refine appS E Revc.flen Revc.one rfl _ _ rfl l rfl (OwnF.emptyAt (base := w.heap.size + 1) (by rw [nblk_alloc]) (Nat.le_refl _)) rfl (hv.ext (((Ext.refl _).alloc _).alloc _)) (by simp; omega) (by simp [maxLen]; omega) (by simp) ?_)
 intro v1 w1 o1 hg'
 have h1 : Ext (w.alloc (.cells #[.int .i64 x.asn, .int .i64 x.iface, .int .i64 x.till] 30)) w1 := ((Ext.refl _).alloc _).app hg' (OwnF.emptyAt (f := Revc.f) (n := 3) (base := w.heap.size + 1) (e := 30) (w := w.alloc (.cells #[.int .i64 x.asn, .int .i64 x.iface, .int .i64 x.till] 30)) (by rw [nblk_alloc]) (Nat.le_refl _)) (by rw [nblk_alloc]; exact Nat.le_refl _)
 rw [← nblk_alloc w (.cells #[.int .i64 x.asn, .int .i64 x.iface, .int .i64 x.till] 30)] at o1
 try rw [List.nil_append] at o1
 clear hg'
 have hB := blk_new w (.cells #[.int .i64 x.asn, .int .i64 x.iface, .int .i64 x.till] 30)
 have hx0 := (Ext.refl w).alloc (.cells #[.int .i64 x.asn, .int .i64 x.iface, .int .i64 x.till] 30)
 generalize w.alloc (.cells #[.int .i64 x.asn, .int .i64 x.iface, .int .i64 x.till] 30) = W0 at hB hx0 h1 o1
 have hcb := blk3 (h1.block hB)
 have hx1 := hx0.trans h1
 go_wp2_with fail
 refine (s_ValidRevocation x _).mono ?_
 rintro e w2 ⟨rfl, h2⟩
 have hB2 := (h1.trans h2).block hB
 have HB := Lib.hid hB; clear hB hB2 hcb
 have hx2 := h1.trans h2
 have o2 := o1.ext h2
 clear o1
 cases hvx : validRev x
 ·
  have he : addRev l x = l := by simp [addRev, hvx]
  have HE := Lib.hid he; clear he
  go_wp2_with fail
  go_ret
  rw [HE.out]
  exact ⟨_, rfl, keepR o2 hx0.size, hx0.trans hx2⟩
 ·
  obtain ⟨oo, co, rfl, hso⟩ := (OwnF.rd (hf := Revc.flen) o2).shape
  go_wp2_with fail
  go_loopw [6] (fun i wr => ∃ (k : Nat), k ≤ l.length ∧ i = .int .i64 k ∧ (∀ j (hj : j < k) (hj2 : j < l.length), sameDoor x l[j] = false) ∧ OwnF Revc.f 3 W0.heap.size 30 wr (.slice oo l.length co) l ∧ Ext W0 wr) (fun i _ => l.length - (intOf i).toNat)
  case atStart => exact ⟨0, Nat.zero_le _, rfl, fun j hj => absurd hj (by omega), o2, hx2⟩
  case round =>
   clear o2
   obtain ⟨k, hk, rfl, hno, hown, hx⟩ := hrel
   have HNo := Lib.hid hno; clear hno
   have hcb := blk3 (hx.block HB.out)
   by_cases hlt : k < l.length
   ·
    obtain ⟨g, cg, hsh, hbg, hgs⟩ := hown.some_shape (by omega)
    cases hsh
    have hcs := Revc.own_at hown k hlt
    have hlk0 : (0 : Int) ≤ (k : Int) := Int.natCast_nonneg _
    have hlk1 : (k : Int) < (l.length : Int) := by omega
    have hsd : sameDoor x l[k] = ((l[k].asn == x.asn) && (l[k].iface == x.iface)) := rfl
    have HSD := Lib.hid hsd; clear hsd
    cases ha : (l[k].asn == x.asn)
    ·
     have hnk : sameDoor x l[k] = false := by rw [HSD.out, ha]; rfl
     have hno2 : ∀ j (hj : j < k + 1) (hj2 : j < l.length), sameDoor x l[j] = false := by
      intro j hj hj2
      by_cases hjk : j = k
      ·
       subst hjk; exact hnk
      ·
       exact HNo.out j (by omega) hj2
     have HN2 := Lib.hid hno2; clear hno2 hnk
     go_wp2_with fail
     refine wp_region_ext (by kernel_rfl) (by kernel_rfl) ?_
     have q0 := ExtW.cell (hcb.1)
     have q1 := ExtW.cell (hcb.2.1)
     have q2 := ExtW.cell (hcb.2.2)
     have q3 := ExtW.cell (hcs.1)
     have q4 := ExtW.cell (hcs.2.1)
     have q5 := ExtW.cell (hcs.2.2)
     repeat (first | go_big_quiet_step ((fail)) | quiet_step ((fail)))
     refine wpQuiet_nil ?_
     intro w9 hw9
     have h9 : Ext wr w9 := by obtain ⟨y, rfl⟩ := hw9; exact y.h
     clear hw9 q0 q1 q2 q3 q4 q5
     go_wp2_with fail
     go_roundw
     case rel => exact ⟨k + 1, by omega, by go_num, HN2.out, hown.ext h9, hx.trans h9⟩
     case measure => simp [intOf]; omega
    ·
     cases hb : (l[k].iface == x.iface)
     ·
      have hnk : sameDoor x l[k] = false := by rw [HSD.out, ha, hb]; rfl
      have hno2 : ∀ j (hj : j < k + 1) (hj2 : j < l.length), sameDoor x l[j] = false := by
       intro j hj hj2
       by_cases hjk : j = k
       ·
        subst hjk; exact hnk
       ·
        exact HNo.out j (by omega) hj2
      have HN2 := Lib.hid hno2; clear hno2 hnk
      go_wp2_with fail
      refine wp_region_ext (by kernel_rfl) (by kernel_rfl) ?_
      have q0 := ExtW.cell (hcb.1)
      have q1 := ExtW.cell (hcb.2.1)
      have q2 := ExtW.cell (hcb.2.2)
      have q3 := ExtW.cell (hcs.1)
      have q4 := ExtW.cell (hcs.2.1)
      have q5 := ExtW.cell (hcs.2.2)
      repeat (first | go_big_quiet_step ((fail)) | quiet_step ((fail)))
      refine wpQuiet_nil ?_
      intro w9 hw9
      have h9 : Ext wr w9 := by obtain ⟨y, rfl⟩ := hw9; exact y.h
      clear hw9 q0 q1 q2 q3 q4 q5
      go_wp2_with fail
      go_roundw
      case rel => exact ⟨k + 1, by omega, by go_num, HN2.out, hown.ext h9, hx.trans h9⟩
      case measure => simp [intOf]; omega
     ·
      have hpr := prolong_at hlt (fun j hj => HNo.out j hj (by omega)) (by rw [HSD.out, ha, hb]; rfl)
      have he : addRev l x = l.set k ⟨l[k].asn, l[k].iface, max l[k].till x.till⟩ := by simp [addRev, hvx, hpr]
      have HE := Lib.hid he; clear he hpr
      go_wp2_with fail
      refine wp_region_ext (by kernel_rfl) (by kernel_rfl) ?_
      have q0 := ExtW.cell (hcb.1)
      have q1 := ExtW.cell (hcb.2.1)
      have q2 := ExtW.cell (hcb.2.2)
      have q3 := ExtW.cell (hcs.1)
      have q4 := ExtW.cell (hcs.2.1)
      have q5 := ExtW.cell (hcs.2.2)
      repeat (first | go_big_quiet_step ((fail)) | quiet_step ((fail)))
      refine wpQuiet_nil ?_
      intro w9 hw9
      have h9 : Ext wr w9 := by obtain ⟨y, rfl⟩ := hw9; exact y.h
      clear hw9 q0 q1 q2 q3 q4 q5
      have o9 := hown.ext h9
      have hcs9 := Revc.own_at o9 k hlt
      have hcb9 := blk3 ((hx.trans h9).block HB.out)
      have f9 := o9.free (k * 3 + 2)
      have hcb10 := blk3 (Ext.block ((Ext.refl w9).alloc (.cells #[.int .i64 l[k].asn, .int .i64 l[k].iface, .int .i64 l[k].till] 30)) ((hx.trans h9).block HB.out))
      have hx10 := (hx.trans h9).alloc (.cells #[.int .i64 l[k].asn, .int .i64 l[k].iface, .int .i64 (max l[k].till x.till)] 30)
      have o10 := o9.ext ((Ext.refl w9).alloc (.cells #[.int .i64 l[k].asn, .int .i64 l[k].iface, .int .i64 (max l[k].till x.till)] 30))
      have hcs10 := Revc.own_at o10 k hlt
      have f100 := o10.free (k * 3)
      have f101 := o10.free (k * 3 + 1)
      have f102 := o10.free (k * 3 + 2)
      obtain ⟨op, hgp⟩ := Revc.own_set o10 k hlt ⟨l[k].asn, l[k].iface, max l[k].till x.till⟩
      go_wp2_with fail
      refine (s_Max _ _ _).mono ?_
      rintro e w8 ⟨rfl, rfl⟩
      go_wp2_with fail
      go_ret
      rw [HE.out]
      exact ⟨_, rfl, keepR op hx0.size, hx0.trans (hx10.grown hgp (fun _ e => by cases e; exact hbg))⟩
   ·
    have hno2 : prolong x l = none := prolong_none (fun j hj => HNo.out j (by omega) hj)
    have hxr := (show Ext W0 (wr.alloc (.cells #[.int .i64 x.asn, .int .i64 x.iface, .int .i64 x.till] 30)) from hx.alloc _)
    go_wp2_with (at_builtin; refine app1 E Revc.flen Revc.one rfl _ _ rfl x rfl (OwnF.ext hown ((Ext.refl _).alloc _)) rfl (by first | exact blk_list x.f (blk_new wr _) | exact fun j u hu => hu) (by omega) (by unfold maxLen; omega) hxr.size ?_)
    intro v' w' ho' hg'
    have hx' : Ext W0 w' := hxr.app hg' hown (Nat.le_refl _)
    clear hg'
    obtain ⟨g, cg, hsh, hbg, hgs⟩ := ho'.some_shape (by simp)
    have hlx : (l ++ [x]).length = l.length + 1 := by simp
    rw [hlx] at hsh
    subst hsh
    have HLX := Lib.hid hlx; clear hlx
    by_cases h16 : 16 ≤ l.length
    ·
     have he : addRev l x = (l ++ [x]).drop 1 := by simp [addRev, hvx, hno2, h16]
     have HE := Lib.hid he; clear he
     have hpt := RdS.part (OwnF.rd (hf := Revc.flen) ho') 1 (l.length + 1) (by omega) (by rw [HLX.out]; exact Nat.le_refl _)
     rw [List.take_of_length_le (by rw [HLX.out]; exact Nat.le_refl _)] at hpt
     have h16i : (16 : Int) < (l.length : Int) + 1 := by omega
     have hcg := ho'.capLe.1
     have hcg1 : cg ≠ 1 := by omega
     have hpt2 : RdS Revc.rep w' (.slice (some ⟨g, 3, none⟩) l.length (cg - 1)) ((l ++ [x]).drop 1) := by simpa [Revc.rep, Rep.flat] using hpt
     clear hpt
     go_wp2_with fail
     go_ret
     rw [HE.out]
     exact ⟨_, rfl, keepS ho' hx0.size, hx0.trans hx'⟩
    ·
     have he : addRev l x = l ++ [x] := by simp [addRev, hvx, hno2]; omega
     have HE := Lib.hid he; clear he
     have h16i : (l.length : Int) + 1 ≤ 16 := by omega
     go_wp2_with fail
     go_ret
     rw [HE.out]
     exact ⟨_, rfl, keepR ho' hx0.size, hx0.trans hx'⟩

end Go.Proofs.YtcpfmhgfaliemaaGreat
