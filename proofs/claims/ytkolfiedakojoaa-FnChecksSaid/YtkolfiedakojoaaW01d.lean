/- The cursor that the draws of the laws read: its contracts say no more than the bounds of what is drawn. No condition but the bounds that each theorem names. -/
import Derived.Test.YtkolfiedakojoaaW01
import Derived.Test.YtkolfiedakojoaaDraw
import Derived.Test.YtkolfiedakojoaaSeq
import Derived.Test.YtkolfiedakojoaaTyInt
import Derived.Test.YtkolfiedakojoaaTyByte
import Derived.Deep.LoopGhost
import Derived.Deep.DeepCutAuto
namespace Go.Proofs.Ytkolfiedakojoaa
open Go.ChangeShapes Go.WideShapes Go.ChangeAt Go.RowKit Go.Deep

theorem ExtW.outD {w w1 : World} (h : ∃ x : ExtW w, w1 = x.w') : Ext w w1 := by obtain ⟨y, rfl⟩ := h; exact y.h
theorem Chg.setC {S : Nat → Prop} {a b : World} (h : Chg S a b) {p : Addr} (hp : S p.block) (u : Value) : Chg S a (b.setCell p u) :=
  h.trans ⟨rfl, rfl, rfl, by simp, fun k _ hn => Below.heap_setCell _ _ _ _ (fun e => hn (by rw [e]; exact hp))⟩
theorem OwnF.at1 {α : Type} {n : Nat} {f : α → List Value} {base g : Nat} {e : TypeId} {w w' : World} {v : Value} {l : List α} (h : OwnF f n base e w v l) (c : Chg (at1 g) w w') (hg : g < base) : OwnF f n base e w' v l :=
  h.chg c (fun k hk e => by have h1 := (h.block k hk).1; have h2 : k = g := e; omega)
theorem Chg.app {α : Type} {f : α → List Value} {n base g : Nat} {e : TypeId} {v : Value} {l : List α} {a b b' c : World} (h : Chg (at1 g) a b) (hg : b.grownBy c v.ownBlock) (ho : OwnF f n base e b' v l) (hb : a.heap.size ≤ base) : Chg (at1 g) a c :=
  h.up (Chg.ofGrown (S := fun k => v.ownBlock = some k) hg (fun _ h => h)) (fun k hk => .inr (Nat.le_trans hb (ho.block k hk).1))
theorem Cur.app {α : Type} {f : α → List Value} {n base g : Nat} {e : TypeId} {v cv : Value} {cd : List Int} {l : List α} {a b b' c : World} (h0 : Cur g cv cd a) (h : Cur g cv cd b) (hg : b.grownBy c v.ownBlock) (ho : OwnF f n base e b' v l) (hb : a.heap.size ≤ base) (cx : Chg (at1 g) a b) : Cur g cv cd c :=
  h0.kept h (Chg.ofGrown (S := fun k => v.ownBlock = some k) hg (fun _ h => h)) (fun hk => by have h1 := (ho.block g hk).1; have h2 := h0.lt; omega) (Chg.app cx hg ho hb)
set_option maxHeartbeats 400000 in
theorem l_big (code : List Int) (v : Value) (w : World) (hr : RdS Rep.byte w v code) :
    Calls Try.prog 9 #[v] w fun e w' => e = .returned (.bool (decide (1048576 < code.length))) ∧ w = w' := by
  obtain ⟨o, cap, rfl, hsm⟩ := hr.shape
  go_enter Try.func9, Try.ntmps9
  by_cases hb : 1048576 < code.length
  · have h1 : decide (1048576 < (code.length : Int)) = true := by simp; omega
    have h2 : decide (1048576 < code.length) = true := by simpa using hb
    have H2 := Lib.hid h2; clear h2 hb
    go_wp2
    go_ret
    exact ⟨ret_bool H2.out.symm, rfl⟩
  · have h1 : decide (1048576 < (code.length : Int)) = false := by simp; omega
    have h2 : decide (1048576 < code.length) = false := by simpa using hb
    have H2 := Lib.hid h2; clear h2 hb
    go_wp2
    go_ret
    exact ⟨ret_bool H2.out.symm, rfl⟩
set_option maxHeartbeats 400000 in
theorem l_at (code : List Int) (v : Value) (i : Int) (w : World) (hr : RdS Rep.byte w v code) (hu : ∀ x ∈ code, U8 x) (h0 : 0 ≤ i) (h1 : i ≤ 1048576) (hl : code.length ≤ 1048576) :
    Calls Try.prog 40 #[v, .int .i64 i] w fun e w' => ∃ r : Int, e = .returned (.int .i64 r) ∧ 0 ≤ r ∧ r ≤ 255 ∧ w = w' := by
  obtain ⟨o, cap, rfl, hsm⟩ := hr.shape
  obtain ⟨k, rfl⟩ := Int.eq_ofNat_of_zero_le h0
  go_enter Try.func40, Try.ntmps40
  by_cases hlt : k < code.length
  · obtain ⟨b, off, rfl, hcell⟩ := bytes_at hr k hlt
    obtain ⟨hu0, hu1⟩ := hu code[k] (List.getElem_mem _)
    go_wp2
    go_ret
    exact ⟨_, rfl, by omega, by omega, rfl⟩
  · go_wp2
    go_ret
    exact ⟨_, rfl, by omega, by omega, rfl⟩
set_option maxRecDepth 100000 in
set_option maxHeartbeats 2000000 in
theorem s_l1New (code : List Int) (v : Value) (w : World) (hr : RdS Rep.byte w v code) (hu : ∀ x ∈ code, U8 x) (hl : code.length ≤ 1048576) :
    Calls Try.prog 108 #[v] w fun e w' => ∃ g : Nat, e = .returned (.pointer (some ⟨g, 0, none⟩)) ∧ w.heap.size ≤ g ∧ Cur g v code w' ∧ Ext w w' := by
  obtain ⟨o, cap, rfl, hsm⟩ := hr.shape
  go_enter Try.func108, Try.ntmps108
  go_wp2
  go_loopg [3, 4] code.length (fun gk h i wr => ∃ (k : Nat) (hh : Int), gk + k = code.length ∧ i = .int .i64 k ∧ h = .int .i64 hh ∧ w = wr)
  case atStart => exact ⟨0, _, rfl, rfl, rfl, rfl⟩
  case round =>
    obtain ⟨k, hh, hgk, rfl, rfl, rfl⟩ := hrel
    by_cases hlt : k < code.length
    · obtain ⟨b, off, rfl, hcell⟩ := bytes_at hr k hlt
      have hg0 : gk - 1 + (k + 1) = code.length ∧ gk - 1 < gk := by omega
      have HG := Lib.hid hg0; clear hg0 hgk
      by_cases h4 : k < 4000
      · go_wp2_with fail
        go_roundg (gk - 1)
        case measure => exact HG.out.2
        case rel => exact ⟨k + 1, _, HG.out.1, by go_num, rfl, rfl⟩
      · go_wp2_with fail
        go_ret
        refine ⟨w.heap.size, rfl, Nat.le_refl _, ⟨⟨0, hh, blk_new _ _, by omega, by omega⟩, fun w2 c2 => ?_, hu⟩, (Ext.refl _).alloc _⟩
        exact hr.ext (((Ext.refl w).alloc _).ofCur c2 (Nat.le_refl _))
    · go_wp2_with fail
      go_ret
      refine ⟨w.heap.size, rfl, Nat.le_refl _, ⟨⟨0, hh, blk_new _ _, by omega, by omega⟩, fun w2 c2 => ?_, hu⟩, (Ext.refl _).alloc _⟩
      exact hr.ext (((Ext.refl w).alloc _).ofCur c2 (Nat.le_refl _))
set_option maxRecDepth 100000 in
set_option maxHeartbeats 2000000 in
theorem s_l1Byte (g : Nat) (v : Value) (code : List Int) (w : World) (hc : Cur g v code w) :
    Calls Try.prog 163 #[.pointer (some ⟨g, 0, none⟩)] w fun e w' => ∃ r : Int, e = .returned (.int .i64 r) ∧ 0 ≤ r ∧ r ≤ 255 ∧ Cur g v code w' ∧ Chg (at1 g) w w' := by
  have hcur := hc
  obtain ⟨⟨i, h, hb, hi0, hi1⟩, hs, hu⟩ := hc
  obtain ⟨o, cap, rfl, hsm⟩ := hs.rd.shape
  have HB := Lib.hid hb; clear hb
  have c1 := blk3 HB.out
  have f2 := fr_of HB.out 2
  go_enter Try.func163, Try.ntmps163
  go_upto_region 1 with (fail)
  go_cut [] (fun wx => ∃ H : Int, wx.heap[g]? = some (.cells #[.slice o code.length cap, .int .i64 i, .int .i64 H] 168) ∧ Chg (at1 g) w wx)
  case first =>
    go_wp2_with fail
    go_meet
    exact ⟨_, by simpa using blk_set HB.out 2 _, Chg.setC (S := at1 g) (Chg.refl _ _) (by exact rfl) _⟩
  case rest =>
  clear c1 f2
  obtain ⟨H, hb1, hx1⟩ := hcut
  obtain ⟨w1, hw1⟩ : ∃ wA : World, wA = wc := ⟨_, rfl⟩
  subst hw1
  have HB1 := Lib.hid hb1; clear hb1
  have c1 := blk3 HB1.out
  go_upto_region 2 with (fail)
  go_cut [3] (fun v3 wx => ∃ r : Int, v3 = .int .i64 r ∧ 0 ≤ r ∧ r ≤ 255 ∧ Ext w1 wx)
  case first =>
    refine wp_region_ext (by kernel_rfl) (by kernel_rfl) ?_
    have q2 := ExtW.cell c1.2.2
    repeat (first | go_big_quiet_step (fail) | quiet_step (fail))
    refine wpQuiet_nil ?_
    intro w3 hw3
    have hz3 := ExtW.outD hw3
    clear hw3 q2
    go_wp2_with fail
    go_meet
    exact ⟨_, rfl, (and255 _).1, (and255 _).2, hz3⟩
  case rest =>
  obtain ⟨r, rfl, hr0, hr1, hx2⟩ := hcut
  obtain ⟨w2, hw2⟩ : ∃ wA : World, wA = wc := ⟨_, rfl⟩
  subst hw2
  clear c1
  have HB2 := Lib.hid (hx2.block HB1.out)
  have c2 := blk3 HB2.out
  by_cases hlt : i < code.length
  · obtain ⟨k, rfl⟩ : ∃ k : Nat, i = k := ⟨i.toNat, by omega⟩
    have hkl : k < code.length := by omega
    have hrd2 := (hs.step (hx1.ext hx2)).rd
    obtain ⟨b, off, rfl, hcell⟩ := bytes_at hrd2 k hkl
    obtain ⟨hu0, hu1⟩ := hu code[k] (List.getElem_mem _)
    have f1 := fr_of HB2.out 1
    go_wp2_with fail
    refine wp_region_ext (by kernel_rfl) (by kernel_rfl) ?_
    have q0 := ExtW.cell (c2.1)
    have q1 := ExtW.cell (c2.2.1)
    repeat (first | go_big_quiet_step (fail) | quiet_step (fail))
    refine wpQuiet_nil ?_
    intro w4 hw4
    have hz4 := ExtW.outD hw4
    clear hw4 q0 q1
    have c4 := blk3 (hz4.block HB2.out)
    have hcell4 := hz4.cell hcell
    clear c2 hcell
    go_upto_region 4 with (fail)
    go_cut [3] (fun v3 wx => ∃ r : Int, v3 = .int .i64 r ∧ 0 ≤ r ∧ r ≤ 255 ∧ Ext w4 wx)
    case first =>
      refine wp_region_ext (by kernel_rfl) (by kernel_rfl) ?_
      have q0 := ExtW.cell (c4.1)
      have q1 := ExtW.cell (c4.2.1)
      have q2 := ExtW.cell (hcell4)
      repeat (first | go_big_quiet_step (fail) | quiet_step (fail))
      refine wpQuiet_nil ?_
      intro w5 hw5
      have hz5 := ExtW.outD hw5
      clear hw5 q0 q1 q2
      go_wp2_with fail
      go_meet
      exact ⟨_, rfl, (and255 _).1, (and255 _).2, hz5⟩
    case rest =>
    obtain ⟨r2, rfl, hr2, hr3, hx5⟩ := hcut
    obtain ⟨w5, hw5⟩ : ∃ wA : World, wA = wc := ⟨_, rfl⟩
    subst hw5
    clear c4 hcell4 hr0 hr1
    have HB5 := Lib.hid ((hz4.trans hx5).block HB2.out)
    have c5 := blk3 HB5.out
    have f5 := fr_of HB5.out 1
    have hxx : Chg (at1 g) w w5 := hx1.ext (hx2.trans (hz4.trans hx5))
    go_wp2_with fail
    go_ret
    refine ⟨r2, rfl, hr2, hr3, ⟨⟨(k : Int) + 1, H, by simpa using blk_set HB5.out 1 _, by omega, by omega⟩, hs.step (Chg.setC (S := at1 g) hxx (by exact rfl) _), hu⟩, Chg.setC (S := at1 g) hxx (by exact rfl) _⟩
  · go_wp2_with fail
    refine wp_region_ext (by kernel_rfl) (by kernel_rfl) ?_
    have q0 := ExtW.cell (c2.1)
    have q1 := ExtW.cell (c2.2.1)
    repeat (first | go_big_quiet_step (fail) | quiet_step (fail))
    refine wpQuiet_nil ?_
    intro w4 hw4
    have hz4 := ExtW.outD hw4
    clear hw4 q0 q1
    have hxx : Chg (at1 g) w w4 := hx1.ext (hx2.trans hz4)
    have HB5 := Lib.hid (hz4.block HB2.out)
    clear c2
    go_wp2_with fail
    go_ret
    exact ⟨r, rfl, hr0, hr1, ⟨⟨i, H, HB5.out, hi0, hi1⟩, hs.step hxx, hu⟩, hxx⟩
set_option maxRecDepth 100000 in
set_option maxHeartbeats 2000000 in
theorem s_l1Below (g : Nat) (n : Int) (v : Value) (code : List Int) (w : World) (hc : Cur g v code w) :
    Calls Try.prog 88 #[.pointer (some ⟨g, 0, none⟩), .int .i64 n] w fun e w' => ∃ r : Int, e = .returned (.int .i64 r) ∧ 0 ≤ r ∧ (r < n ∨ r = 0) ∧ Cur g v code w' ∧ Chg (at1 g) w w' := by
  by_cases h0 : n ≤ 0
  · go_enter Try.func88, Try.ntmps88
    go_wp2_with fail
    go_ret
    exact ⟨0, rfl, Int.le_refl _, .inr rfl, hc, Chg.refl _ _⟩
  · go_enter Try.func88, Try.ntmps88
    by_cases h1 : n ≤ 256
    · go_wp2_with fail
      refine (s_l1Byte g v code _ hc).mono ?_
      rintro e w1 ⟨x, rfl, hx0, hx1, hc1, hz1⟩
      go_wp2_with fail
      go_ret
      have hp : 0 < n := by omega
      have hm1 := Int.emod_nonneg x (show n ≠ 0 by omega)
      have hm2 := Int.emod_lt_of_pos x hp
      exact ⟨_, rfl, by first | exact hm1 | omega, .inl (by first | exact hm2 | omega), hc1, hz1⟩
    · go_wp2_with fail
      refine (s_l1Byte g v code _ hc).mono ?_
      rintro e w1 ⟨x, rfl, hx0, hx1, hc1, hz1⟩
      go_wp2_with fail
      refine (s_l1Byte g v code _ hc1).mono ?_
      rintro e w2 ⟨y, rfl, hy0, hy1, hc2, hz2⟩
      go_wp2_with fail
      refine (s_l1Byte g v code _ hc2).mono ?_
      rintro e w3 ⟨z, rfl, hu0, hu1, hc3, hz3⟩
      have hp : 0 < n := by omega
      have hm1 := Int.emod_nonneg (x * 65536 + y * 256 + z) (show n ≠ 0 by omega)
      have hm2 := Int.emod_lt_of_pos (x * 65536 + y * 256 + z) hp
      have HM := Lib.hid (And.intro hm1 hm2); clear hm1 hm2
      go_wp2_with fail
      go_ret
      exact ⟨_, rfl, HM.out.1, .inl HM.out.2, hc3, (hz1.trans hz2).trans hz3⟩
set_option maxHeartbeats 1000000 in
theorem s_l1Once (g : Nat) (n : Int) (v : Value) (code : List Int) (w : World) (hc : Cur g v code w) :
    Calls Try.prog 93 #[.pointer (some ⟨g, 0, none⟩), .int .i64 n] w fun e w' => ∃ b : Bool, e = .returned (.bool b) ∧ Cur g v code w' ∧ Chg (at1 g) w w' := by
  go_enter Try.func93, Try.ntmps93
  go_wp2_with fail
  refine (s_l1Below g n v code _ hc).mono ?_
  rintro e w1 ⟨x, rfl, hx0, hx1, hc1, hz1⟩
  clear hx1
  go_wp2_with fail
  go_ret
  exact ⟨_, rfl, hc1, hz1⟩
set_option maxHeartbeats 1000000 in
theorem s_l1Int (g : Nat) (l : List Int) (v : Value) (code : List Int) (w : World) (hc : Cur g v code w) (hl : 0 < l.length) (hm : l.length ≤ 1048576) :
    Calls Try.prog 89 #[.pointer (some ⟨g, 0, none⟩), .slice (some ⟨w.heap.size, 0, none⟩) l.length l.length] (w.alloc (.cells (l.flatMap intF).toArray 3)) fun e w' => ∃ r : Int, e = .returned (.int .i64 r) ∧ r ∈ l ∧ Cur g v code w' ∧ Chg (at1 g) w w' := by
  have ho := OwnF.lit intFlen w.heap.size 3 w l (Nat.le_refl _) (by unfold maxLen; omega)
  have hst : St g Rep.int _ _ l := St.ofF (hf := intFlen) ho hc.lt
  have hca := hc.ext ((Ext.refl w).alloc (.cells (l.flatMap intF).toArray 3))
  have hxa : Chg (at1 g) w (w.alloc (.cells (l.flatMap intF).toArray 3)) := Chg.ofExt ((Ext.refl w).alloc _)
  generalize w.alloc (.cells (l.flatMap intF).toArray 3) = wa at *
  clear ho
  generalize w.heap.size = ga at *
  go_enter Try.func89, Try.ntmps89
  go_wp2_with fail
  refine (s_l1Below g l.length v code _ hca).mono ?_
  rintro e w1 ⟨x, rfl, hx0, hx1, hc1, hz1⟩
  obtain ⟨k, rfl⟩ := Int.eq_ofNat_of_zero_le hx0
  have hk : k < l.length := by omega
  clear hx1
  obtain ⟨b, off, hbe, hcell⟩ := ints_at (hst.step hz1).rd k hk
  cases hbe
  rw [Nat.zero_add] at hcell
  go_wp2_with fail
  go_ret
  exact ⟨_, rfl, List.getElem_mem hk, hc1, hxa.trans hz1⟩
end Go.Proofs.Ytkolfiedakojoaa
