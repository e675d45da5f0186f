/- The draws of the code: revocations. No condition but the bounds that each theorem names. -/
import Derived.Test.YtcpfmhgfaliemaaGreatKMxW35k
import Derived.Test.YtcpfmhgfaliemaaGreatKM25
namespace Go.Proofs.YtcpfmhgfaliemaaGreat
open Go.ChangeShapes Go.WideShapes Go.ChangeAt Go.RowKit Go.Deep

set_option maxRecDepth 100000 in
set_option maxHeartbeats 4000000 in
theorem s_l8Time (g : Nat)  (cv : Value) (cd : List Int) (w : World) (hc : Cur g cv cd w) :
  Calls Tryz.prog 167 #[.pointer (some ⟨g, 0, none⟩)] w fun e w' => ∃ r : Int, e = .returned (.int .i64 r) ∧ Cur g cv cd w' ∧ Chg (at1 g) w w' := by
 have hgw := hc.lt
 have s : DSt g cv cd w w := ⟨hc.ext (Ext.refl w), Chg.ofExt (Ext.refl w), hc⟩
 go_enter Tryz.func167, Tryz.ntmps167
 go_wp2_with fail
 refine (s_l1Once g (10) _ _ _ s.c).mono ?_
 rintro e w1 ⟨b, rfl, hcq, hzq⟩
 replace s := s.draw hcq hzq
 clear hzq hcq
 cases b
 case false =>
  go_wp2_with fail
  refine (s_l1Below g (200) _ _ _ s.c).mono ?_
  rintro e w2 ⟨r, rfl, hr0, hr1, hcq, hzq⟩
  replace s := s.draw hcq hzq
  clear hzq hcq
  go_wp2_with fail
  go_ret
  exact ⟨_, rfl, s.c, s.x⟩
 case true =>
  go_wp2_with fail
  refine (s_l1Int g [-1, 1000000, 1000001] _ _ _ s.c (by decide) (by decide)).mono ?_
  rintro e w2 ⟨r, rfl, hr0, hcq, hzq⟩
  replace s := s.draw hcq hzq
  clear hzq hcq
  go_wp2_with fail
  go_ret
  exact ⟨_, rfl, s.c, s.x⟩

set_option maxRecDepth 100000 in
set_option maxHeartbeats 4000000 in
theorem s_l31Note (g : Nat)  (cv : Value) (cd : List Int) (w : World) (hc : Cur g cv cd w) :
  Calls Tryz.prog 89 #[.pointer (some ⟨g, 0, none⟩)] w fun e w' => ∃ x : Revc, e = .returned (.agg #[.int .i64 x.asn, .int .i64 x.iface, .int .i64 x.till]) ∧ Cur g cv cd w' ∧ Chg (at1 g) w w' := by
 have hx0 : Ext w (w.alloc (.cells #[.int .i64 0, .int .i64 0, .int .i64 0] 30)) := (Ext.refl _).alloc _
 have HB := blk_new w (.cells #[.int .i64 0, .int .i64 0, .int .i64 0] 30)
 have hgw := hc.lt
 have s : DSt g cv cd w (w.alloc (.cells #[.int .i64 0, .int .i64 0, .int .i64 0] 30)) := ⟨hc.ext hx0, Chg.ofExt hx0, hc⟩
 have B2 := HB
 clear HB hx0
 go_enter Tryz.func89, Tryz.ntmps89
 go_wp2_with fail
 refine (s_l1Below g (6) _ _ _ s.c).mono ?_
 rintro e w1 ⟨na, rfl, hna0, hna1, hcq, hzq⟩
 replace B2 := hzq.blkS B2 (by unfold at1; omega)
 replace s := s.draw hcq hzq
 clear hzq hcq
 have cb_B2 := blk3 B2
 go_wp2_with fail
 clear cb_B2
 refine (s_l1Below g (4) _ _ _ s.c).mono ?_
 rintro e w2 ⟨nb, rfl, hnb0, hnb1, hcq, hzq⟩
 replace B2 := hzq.blkS B2 (by unfold at1; omega)
 replace s := s.draw hcq hzq
 clear hzq hcq
 have cb_B2 := blk3 B2
 go_wp2_with fail
 clear cb_B2
 refine (s_l1Below g (30) _ _ _ s.c).mono ?_
 rintro e w3 ⟨nc, rfl, hnc0, hnc1, hcq, hzq⟩
 replace B2 := hzq.blkS B2 (by unfold at1; omega)
 replace s := s.draw hcq hzq
 clear hzq hcq
 obtain ⟨wpa, hwa, hba, hca⟩ := three_set B2 (.int .i64 na) (.int .i64 (1 + nb)) (.int .i64 (40 + nc))
 have HWa := Lib.hid hwa
 clear hwa
 have ff0 := fr_of B2 0
 have ff1 := fr_of B2 1
 have ff2 := fr_of B2 2
 have cb_B2 := blk3 B2
 go_wp2_with fail
 clear cb_B2
 rw [← HWa.out]
 clear HWa ff0 ff1 ff2
 replace B2 := hba
 clear hba
 replace s := s.put hca (fun i hi => by have h1 : i = w.heap.size := hi; omega)
 try clear hca
 have cr_B2 := blk3 B2
 have hszE := s.x.size
 go_wp2_with fail
 refine bodyPost_ret (v := .agg #[.int .i64 na, .int .i64 (1 + nb), .int .i64 (40 + nc)]) (by simp [results, Tryz.results89, go_sem, cr_B2]) rfl ?_
 exact ⟨⟨na, 1 + nb, 40 + nc⟩, rfl, s.c, s.x⟩

set_option maxRecDepth 100000 in
set_option maxHeartbeats 8000000 in
theorem s_l31Any (g : Nat)  (cv : Value) (cd : List Int) (w : World) (hc : Cur g cv cd w) :
  Calls Tryz.prog 83 #[.pointer (some ⟨g, 0, none⟩)] w fun e w' => ∃ x : Revc, e = .returned (.agg #[.int .i64 x.asn, .int .i64 x.iface, .int .i64 x.till]) ∧ Cur g cv cd w' ∧ Chg (at1 g) w w' := by
 have hx0 : Ext w (w.alloc (.cells #[.int .i64 0, .int .i64 0, .int .i64 0] 30)) := (Ext.refl _).alloc _
 have HB := blk_new w (.cells #[.int .i64 0, .int .i64 0, .int .i64 0] 30)
 have hgw := hc.lt
 have s : DSt g cv cd w (w.alloc (.cells #[.int .i64 0, .int .i64 0, .int .i64 0] 30)) := ⟨hc.ext hx0, Chg.ofExt hx0, hc⟩
 have B2 := HB
 clear HB hx0
 go_enter Tryz.func83, Tryz.ntmps83
 go_wp2_with fail
 refine (s_l31Note g _ _ _ s.c).mono ?_
 rintro e w1 ⟨x, rfl, hcq, hzq⟩
 replace B2 := hzq.blkS B2 (by unfold at1; omega)
 replace s := s.draw hcq hzq
 clear hzq hcq
 have cb_B2 := blk3 B2
 go_upto_region 2 with (fail)
 clear cb_B2
 have hxa : Ext w1 (w1.alloc (.cells #[.int .i64 x.asn, .int .i64 x.iface, .int .i64 x.till] 30)) := (Ext.refl _).alloc _
 have BB := blk_new w1 (.cells #[.int .i64 x.asn, .int .i64 x.iface, .int .i64 x.till] 30)
 obtain ⟨b3, eb3⟩ : ∃ b, b = w1.heap.size := ⟨_, rfl⟩
 have ltw_b3 : w.heap.size ≤ b3 := by rw [eb3]; exact s.x.size
 have lt_B2_b3 : w.heap.size < b3 := by rw [eb3]; exact blk_lt B2
 replace B2 := Ext.block hxa B2
 replace s := s.ext hxa
 have B3 := BB
 rw [← eb3] at B3
 rw [← eb3]
 clear hxa BB
 generalize (w1.alloc (.cells #[.int .i64 x.asn, .int .i64 x.iface, .int .i64 x.till] 30)) = wa at B2 B3 s ⊢
 clear eb3
 have cb_B2 := blk3 B2
 have cb_B3 := blk3 B3
 go_wp2_with fail
 clear cb_B2 cb_B3
 refine (s_l1Below g (12) _ _ _ s.c).mono ?_
 rintro e w2 ⟨n, rfl, hn0, hn1, hcq, hzq⟩
 replace B2 := hzq.blkS B2 (by unfold at1; omega)
 replace B3 := hzq.blkS B3 (by unfold at1; omega)
 replace s := s.draw hcq hzq
 clear hzq hcq
 by_cases h0 : n = 0
 ·
  have h01 : (n == 0) = true := by rw [beq_iff_eq]; exact h0
  clear h0
  have cb_B2 := blk3 B2
  have cb_B3 := blk3 B3
  go_wp2_with fail
  clear cb_B2 cb_B3
  refine (s_l1Int g [-1, 8] _ _ _ s.c (by decide) (by decide)).mono ?_
  rintro e w3 ⟨r, rfl, hr0, hcq, hzq⟩
  replace B2 := hzq.blkS B2 (by unfold at1; omega)
  replace B3 := hzq.blkS B3 (by unfold at1; omega)
  replace s := s.draw hcq hzq
  clear hzq hcq
  obtain ⟨wpy, hwy, hby, hcy⟩ := one_set B3 0 (.int .i64 r)
  simp only [List.setIfInBounds_toArray, List.set_cons_zero] at hby
  have HWy := Lib.hid hwy
  clear hwy
  have ff0 := fr_of B3 0
  have ff1 := fr_of B3 1
  have ff2 := fr_of B3 2
  have cb_B2 := blk3 B2
  have cb_B3 := blk3 B3
  go_upto_region 9 with (fail)
  clear cb_B2 cb_B3
  rw [← HWy.out]
  clear HWy ff0 ff1 ff2
  replace B2 := hcy.blkS B2 (by unfold at1; omega)
  replace B3 := hby
  clear hby
  replace s := s.put hcy (fun i hi => by have h1 : i = b3 := hi; omega)
  try clear hcy
  obtain ⟨wpz, hwz, hbz, hcz⟩ := three_set B2 (.int .i64 r) (.int .i64 x.iface) (.int .i64 x.till)
  have HWz := Lib.hid hwz
  clear hwz
  have ff0 := fr_of B2 0
  have ff1 := fr_of B2 1
  have ff2 := fr_of B2 2
  have cb_B2 := blk3 B2
  have cb_B3 := blk3 B3
  go_wp2_with fail
  clear cb_B2 cb_B3
  rw [← HWz.out]
  clear HWz ff0 ff1 ff2
  replace B3 := hcz.blkS B3 (by unfold at1; omega)
  replace B2 := hbz
  clear hbz
  replace s := s.put hcz (fun i hi => by have h1 : i = w.heap.size := hi; omega)
  try clear hcz
  have cr_B2 := blk3 B2
  have cr_B3 := blk3 B3
  have hszE := s.x.size
  go_wp2_with fail
  refine bodyPost_ret (v := .agg #[.int .i64 r, .int .i64 x.iface, .int .i64 x.till]) (by simp [results, Tryz.results83, go_sem, cr_B2]) rfl ?_
  exact ⟨⟨r, x.iface, x.till⟩, rfl, s.c, s.x⟩
 ·
  have h01 : (n == 0) = false := by rw [beq_eq_false_iff_ne]; exact h0
  clear h0
  by_cases h0 : n = 1
  ·
   have h11 : (n == 1) = true := by rw [beq_iff_eq]; exact h0
   clear h0
   have cb_B2 := blk3 B2
   have cb_B3 := blk3 B3
   go_wp2_with fail
   clear cb_B2 cb_B3
   refine (s_l1Int g [0, 7] _ _ _ s.c (by decide) (by decide)).mono ?_
   rintro e w3 ⟨r, rfl, hr0, hcq, hzq⟩
   replace B2 := hzq.blkS B2 (by unfold at1; omega)
   replace B3 := hzq.blkS B3 (by unfold at1; omega)
   replace s := s.draw hcq hzq
   clear hzq hcq
   obtain ⟨wpy, hwy, hby, hcy⟩ := one_set B3 1 (.int .i64 r)
   simp only [List.setIfInBounds_toArray, List.set_cons_succ, List.set_cons_zero] at hby
   have HWy := Lib.hid hwy
   clear hwy
   have ff0 := fr_of B3 0
   have ff1 := fr_of B3 1
   have ff2 := fr_of B3 2
   have cb_B2 := blk3 B2
   have cb_B3 := blk3 B3
   go_upto_region 9 with (fail)
   clear cb_B2 cb_B3
   rw [← HWy.out]
   clear HWy ff0 ff1 ff2
   replace B2 := hcy.blkS B2 (by unfold at1; omega)
   replace B3 := hby
   clear hby
   replace s := s.put hcy (fun i hi => by have h1 : i = b3 := hi; omega)
   try clear hcy
   obtain ⟨wpz, hwz, hbz, hcz⟩ := three_set B2 (.int .i64 x.asn) (.int .i64 r) (.int .i64 x.till)
   have HWz := Lib.hid hwz
   clear hwz
   have ff0 := fr_of B2 0
   have ff1 := fr_of B2 1
   have ff2 := fr_of B2 2
   have cb_B2 := blk3 B2
   have cb_B3 := blk3 B3
   go_wp2_with fail
   clear cb_B2 cb_B3
   rw [← HWz.out]
   clear HWz ff0 ff1 ff2
   replace B3 := hcz.blkS B3 (by unfold at1; omega)
   replace B2 := hbz
   clear hbz
   replace s := s.put hcz (fun i hi => by have h1 : i = w.heap.size := hi; omega)
   try clear hcz
   have cr_B2 := blk3 B2
   have cr_B3 := blk3 B3
   have hszE := s.x.size
   go_wp2_with fail
   refine bodyPost_ret (v := .agg #[.int .i64 x.asn, .int .i64 r, .int .i64 x.till]) (by simp [results, Tryz.results83, go_sem, cr_B2]) rfl ?_
   exact ⟨⟨x.asn, r, x.till⟩, rfl, s.c, s.x⟩
  ·
   have h11 : (n == 1) = false := by rw [beq_eq_false_iff_ne]; exact h0
   clear h0
   by_cases h0 : n = 2
   ·
    have h21 : (n == 2) = true := by rw [beq_iff_eq]; exact h0
    clear h0
    have cb_B2 := blk3 B2
    have cb_B3 := blk3 B3
    go_wp2_with fail
    clear cb_B2 cb_B3
    refine (s_l8Time g _ _ _ s.c).mono ?_
    rintro e w3 ⟨r, rfl, hcq, hzq⟩
    replace B2 := hzq.blkS B2 (by unfold at1; omega)
    replace B3 := hzq.blkS B3 (by unfold at1; omega)
    replace s := s.draw hcq hzq
    clear hzq hcq
    obtain ⟨wpy, hwy, hby, hcy⟩ := one_set B3 2 (.int .i64 r)
    simp only [List.setIfInBounds_toArray, List.set_cons_succ, List.set_cons_zero] at hby
    have HWy := Lib.hid hwy
    clear hwy
    have ff0 := fr_of B3 0
    have ff1 := fr_of B3 1
    have ff2 := fr_of B3 2
    have cb_B2 := blk3 B2
    have cb_B3 := blk3 B3
    go_upto_region 9 with (fail)
    clear cb_B2 cb_B3
    rw [← HWy.out]
    clear HWy ff0 ff1 ff2
    replace B2 := hcy.blkS B2 (by unfold at1; omega)
    replace B3 := hby
    clear hby
    replace s := s.put hcy (fun i hi => by have h1 : i = b3 := hi; omega)
    try clear hcy
    obtain ⟨wpz, hwz, hbz, hcz⟩ := three_set B2 (.int .i64 x.asn) (.int .i64 x.iface) (.int .i64 r)
    have HWz := Lib.hid hwz
    clear hwz
    have ff0 := fr_of B2 0
    have ff1 := fr_of B2 1
    have ff2 := fr_of B2 2
    have cb_B2 := blk3 B2
    have cb_B3 := blk3 B3
    go_wp2_with fail
    clear cb_B2 cb_B3
    rw [← HWz.out]
    clear HWz ff0 ff1 ff2
    replace B3 := hcz.blkS B3 (by unfold at1; omega)
    replace B2 := hbz
    clear hbz
    replace s := s.put hcz (fun i hi => by have h1 : i = w.heap.size := hi; omega)
    try clear hcz
    have cr_B2 := blk3 B2
    have cr_B3 := blk3 B3
    have hszE := s.x.size
    go_wp2_with fail
    refine bodyPost_ret (v := .agg #[.int .i64 x.asn, .int .i64 x.iface, .int .i64 r]) (by simp [results, Tryz.results83, go_sem, cr_B2]) rfl ?_
    exact ⟨⟨x.asn, x.iface, r⟩, rfl, s.c, s.x⟩
   ·
    have h21 : (n == 2) = false := by rw [beq_eq_false_iff_ne]; exact h0
    clear h0
    obtain ⟨wpz, hwz, hbz, hcz⟩ := three_set B2 (.int .i64 x.asn) (.int .i64 x.iface) (.int .i64 x.till)
    have HWz := Lib.hid hwz
    clear hwz
    have ff0 := fr_of B2 0
    have ff1 := fr_of B2 1
    have ff2 := fr_of B2 2
    have cb_B2 := blk3 B2
    have cb_B3 := blk3 B3
    go_wp2_with fail
    clear cb_B2 cb_B3
    rw [← HWz.out]
    clear HWz ff0 ff1 ff2
    replace B3 := hcz.blkS B3 (by unfold at1; omega)
    replace B2 := hbz
    clear hbz
    replace s := s.put hcz (fun i hi => by have h1 : i = w.heap.size := hi; omega)
    try clear hcz
    have cr_B2 := blk3 B2
    have cr_B3 := blk3 B3
    have hszE := s.x.size
    go_wp2_with fail
    refine bodyPost_ret (v := .agg #[.int .i64 x.asn, .int .i64 x.iface, .int .i64 x.till]) (by simp [results, Tryz.results83, go_sem, cr_B2]) rfl ?_
    exact ⟨x, rfl, s.c, s.x⟩

theorem addRev_le (l : List Revc) (x : Revc) (h : l.length ≤ 16) : (addRev l x).length ≤ 16 := by
 have hp : ∀ (l : List Revc) (m : List Revc), prolong x l = some m → m.length = l.length := by
  intro l
  induction l with
  | nil => intro m hm; simp [prolong] at hm
  | cons y l ih =>
   intro m hm
   simp only [prolong] at hm
   split at hm
   ·
    cases hm; simp
   ·
    simp only [Option.map_eq_some_iff] at hm
    obtain ⟨m', hm', rfl⟩ := hm
    simp [ih m' hm']
 unfold addRev
 split
 ·
  split
  ·
   rename_i m hm
   rw [hp l m hm]; exact h
  ·
   split <;> simp <;> omega
 ·
  exact h
theorem revs_none (w : World) : (Own.keep Revc.rep).own (rng w.heap.size (w.alloc (.cells #[] 30)).heap.size) (w.alloc (.cells #[] 30)) (.slice (some ⟨w.heap.size, 0, none⟩) 0 0) [] := Own.toKeep (Own.ofFr (hf := Revc.flen) (OwnF.empty Revc.f 3 w.heap.size 30 w (Nat.le_refl _)) (Nat.le_refl _))

set_option maxRecDepth 100000 in
set_option maxHeartbeats 16000000 in
theorem s_l31List (g : Nat)  (cv : Value) (cd : List Int) (w : World) (hc : Cur g cv cd w) :
  Calls Tryz.prog 80 #[.pointer (some ⟨g, 0, none⟩)] w fun e w' => ∃ (v : Value) (l : List Revc), e = .returned v ∧ l.length ≤ 16 ∧ (Own.keep Revc.rep).own (rng w.heap.size w'.heap.size) w' v l ∧ Cur g cv cd w' ∧ Chg (at1 g) w w' := by
 have hgw := hc.lt
 have s : DSt g cv cd w w := ⟨hc.ext (Ext.refl w), Chg.ofExt (Ext.refl w), hc⟩
 go_enter Tryz.func80, Tryz.ntmps80
 have RQ := revs_none w
 have g_RQ : g < w.heap.size := hgw
 have hxq : Ext w (w.alloc (.cells #[] 30)) := (Ext.refl _).alloc _
 replace s := s.ext hxq
 have u_RQ := Nat.le_refl (w.alloc (.cells #[] 30)).heap.size
 clear hxq
 go_wp2_with fail
 refine (s_l1Below g (6) _ _ _ s.c).mono ?_
 rintro e w1 ⟨na, rfl, hna0, hna1, hcq, hzq⟩
 replace RQ := Own.at1g RQ hzq (.inl g_RQ)
 replace u_RQ := Nat.le_trans u_RQ hzq.size
 replace s := s.draw hcq hzq
 clear hzq hcq
 obtain ⟨m, rfl⟩ := Int.eq_ofNat_of_zero_le hna0
 have hm6 : m ≤ 6 := by omega
 clear hna0 hna1
 go_wp2_with fail
 go_loopg [3, 4] m (fun gk s3 s4 wx => ∃ (l : List Revc) (v : Value) (lo : Nat) (hi : Nat), (s3 = v) ∧ (s4 = .int .i64 (gk : Int)) ∧ (gk ≤ 6) ∧ (l.length ≤ 16) ∧ (g < lo) ∧ (w.heap.size ≤ lo) ∧ ((Own.keep Revc.rep).own (rng lo hi) wx v l ∧ hi ≤ wx.heap.size) ∧ Cur g cv cd wx ∧ Chg (at1 g) w wx)
 case atStart => exact ⟨[], _, _, _, rfl, rfl, hm6, (by simp), hgw, Nat.le_refl _, ⟨RQ, u_RQ⟩, s.c, s.x⟩
 case round =>
  have hc0z := s.c0
  clear s RQ u_RQ
  obtain ⟨l, v, lo, hi, hs3, hs4, hgk6, hl16, hlo, hlw, ⟨RQ, u_RQ⟩, hcC, hcX⟩ := hrel
  obtain ⟨wz, hwz⟩ : ∃ wz : World, wz = wr := ⟨_, rfl⟩
  subst hwz
  have s : DSt g cv cd w wz := ⟨hcC, hcX, hc0z⟩
  clear hcC hcX hc0z
  obtain ⟨gq, hgq⟩ : ∃ gq : Nat, gq = gk := ⟨_, rfl⟩
  subst hgq
  subst hs3 hs4
  try clear g_RQ
  have g_RQ : g < lo := hlo
  by_cases hg0 : 0 < gq
  ·
   have hg1 : (0 : Int) < (gq : Int) := by omega
   go_wp2_with fail
   refine (s_l31Note g _ _ _ s.c).mono ?_
   rintro e w2 ⟨x, rfl, hcq, hzq⟩
   replace RQ := Own.at1g RQ hzq (.inl g_RQ)
   replace u_RQ := Nat.le_trans u_RQ hzq.size
   replace s := s.draw hcq hzq
   clear hzq hcq
   have hww := s.x.size
   go_wp2_with fail
   have hbs : w.heap.size ≤ w2.heap.size := s.x.size
   refine (s_AddRevocationK l _ x _ (Own.rd _ RQ) (by omega)).mono ?_
   rintro e w3 ⟨vn, rfl, RN, hzq⟩
   replace RQ := Own.ext RQ hzq
   replace u_RQ := Nat.le_trans u_RQ hzq.size
   replace s := s.ext hzq
   have hn16 := addRev_le l (x) hl16
   have g_RN : g < w2.heap.size := by omega
   have u_RN : w3.heap.size ≤ w3.heap.size := by omega
   clear hzq hbs 
   go_wp2_with fail
   go_roundg (gq - 1)
   case measure => omega
   case rel => exact ⟨addRev l x, vn, _, _, rfl, congrArg (Value.int .i64) (by first | omega | (unfold wrap64; omega)), by omega, hn16, g_RN, (by omega), ⟨RN, u_RN⟩, s.c, s.x⟩
  ·
   have hg1 : ¬ (0 : Int) < (gq : Int) := by omega
   go_wp2_with fail
   refine (s_l1Once g (12) _ _ _ s.c).mono ?_
   rintro e w2 ⟨b, rfl, hcq, hzq⟩
   replace RQ := Own.at1g RQ hzq (.inl g_RQ)
   replace u_RQ := Nat.le_trans u_RQ hzq.size
   replace s := s.draw hcq hzq
   clear hzq hcq
   cases b
   case false =>
    go_wp2_with fail
    go_ret
    first | exact ⟨_, l, rfl, hl16, Own.upTo (Own.lo RQ hlw) (Nat.le_refl _), s.c, s.x⟩ | exact ⟨_, rfl, l, hl16, Own.upTo (Own.lo RQ hlw) (Nat.le_refl _), s.c, s.x⟩
   case true =>
    go_wp2_with fail
    clear hg0 hg1
    go_loopg [3, 5] 6 (fun gk s3 s5 wx => ∃ (l : List Revc) (v : Value) (lo : Nat) (hi : Nat) (i : Nat), (s3 = v) ∧ (s5 = .int .i64 (i : Int)) ∧ (gk + i = 6) ∧ (l.length ≤ 16) ∧ (g < lo) ∧ (w.heap.size ≤ lo) ∧ ((Own.keep Revc.rep).own (rng lo hi) wx v l ∧ hi ≤ wx.heap.size) ∧ Cur g cv cd wx ∧ Chg (at1 g) w wx)
    case atStart => exact ⟨l, _, _, _, 0, rfl, rfl, rfl, hl16, g_RQ, hlw, ⟨RQ, u_RQ⟩, s.c, s.x⟩
    case round =>
     have hc0z := s.c0
     clear s RQ u_RQ
     obtain ⟨l, v, lo, hi, i, hs3, hs5, hgi, hl16, hlo, hlw, ⟨RQ, u_RQ⟩, hcC, hcX⟩ := hrel
     obtain ⟨wz, hwz⟩ : ∃ wz : World, wz = wr := ⟨_, rfl⟩
     subst hwz
     have s : DSt g cv cd w wz := ⟨hcC, hcX, hc0z⟩
     clear hcC hcX hc0z
     subst hs3 hs5
     obtain ⟨go, hgo⟩ : ∃ go : Nat, go = gk := ⟨_, rfl⟩
     rw [← hgo] at hgi
     have g_RQ : g < lo := hlo
     by_cases hi6 : i < 6
     ·
      have hi7 : (i : Int) < 6 := by omega
      go_wp2_with fail
      go_loopg [3, 6] 3 (fun gk s3 s6 wx => ∃ (l : List Revc) (v : Value) (lo : Nat) (hi : Nat) (j : Nat), (s3 = v) ∧ (s6 = .int .i64 (1 + j : Int)) ∧ (gk + j = 3) ∧ (l.length ≤ 16) ∧ (g < lo) ∧ (w.heap.size ≤ lo) ∧ ((Own.keep Revc.rep).own (rng lo hi) wx v l ∧ hi ≤ wx.heap.size) ∧ Cur g cv cd wx ∧ Chg (at1 g) w wx)
      case atStart => exact ⟨l, _, _, _, 0, rfl, rfl, rfl, hl16, g_RQ, hlw, ⟨RQ, u_RQ⟩, s.c, s.x⟩
      case round =>
       have hc0z := s.c0
       clear s RQ u_RQ
       obtain ⟨l, v, lo, hi, j, hs3, hs6, hgj, hl16, hlo, hlw, ⟨RQ, u_RQ⟩, hcC, hcX⟩ := hrel
       obtain ⟨wz, hwz⟩ : ∃ wz : World, wz = wr := ⟨_, rfl⟩
       subst hwz
       have s : DSt g cv cd w wz := ⟨hcC, hcX, hc0z⟩
       clear hcC hcX hc0z
       subst hs3 hs6
       have g_RQ : g < lo := hlo
       by_cases hj3 : j < 3
       ·
        have hj4 : 1 + (j : Int) < 4 := by omega
        go_wp2_with fail
        obtain ⟨x, hx9⟩ : ∃ x : Revc, x = ⟨(i : Int), 1 + (j : Int), 50⟩ := ⟨_, rfl⟩
        have hww := s.x.size
        have hbs : w.heap.size ≤ wz.heap.size := s.x.size
        refine (s_AddRevocationK l _ (⟨(i : Int), 1 + (j : Int), 50⟩ : Revc) _ (Own.rd _ RQ) (by omega)).mono ?_
        rintro e w3 ⟨vn, rfl, RN, hzq⟩
        replace RQ := Own.ext RQ hzq
        replace u_RQ := Nat.le_trans u_RQ hzq.size
        replace s := s.ext hzq
        rw [← hx9] at RN
        have hn16 := addRev_le l x hl16
        clear hx9
        have g_RN : g < wz.heap.size := by omega
        have u_RN : w3.heap.size ≤ w3.heap.size := by omega
        clear hzq hbs 
        go_wp2_with fail
        go_roundg (gk - 1)
        case measure => omega
        case rel => exact ⟨addRev l x, vn, _, _, j + 1, rfl, congrArg (Value.int .i64) (by first | omega | (unfold wrap64; omega)), by omega, hn16, g_RN, (by omega), ⟨RN, u_RN⟩, s.c, s.x⟩
       ·
        have hj4 : ¬ 1 + (j : Int) < 4 := by omega
        go_wp2_with fail
        go_roundg (go - 1)
        case measure => omega
        case rel => exact ⟨l, _, _, _, i + 1, rfl, congrArg (Value.int .i64) (by first | omega | (unfold wrap64; omega)), by omega, hl16, g_RQ, hlw, ⟨RQ, u_RQ⟩, s.c, s.x⟩
     ·
      have hi7 : ¬ (i : Int) < 6 := by omega
      go_wp2_with fail
      go_ret
      first | exact ⟨_, l, rfl, hl16, Own.upTo (Own.lo RQ hlw) (Nat.le_refl _), s.c, s.x⟩ | exact ⟨_, rfl, l, hl16, Own.upTo (Own.lo RQ hlw) (Nat.le_refl _), s.c, s.x⟩

set_option maxRecDepth 100000 in
set_option maxHeartbeats 4000000 in
theorem s_DrawEncodeRevocation (code : List Int) (cv : Value) (w : World) (hr : RdS Rep.byte w cv code) (hu : ∀ x ∈ code, U8 x) (hl : code.length ≤ 1048576) :
  Calls Tryz.prog 13 #[cv] w fun e w' => ∃ x : Revc, e = .returned (.agg #[.int .i64 x.asn, .int .i64 x.iface, .int .i64 x.till]) ∧ Ext w w' := by
 have hx0 : Ext w (w.alloc (.cells #[.int .i64 0, .int .i64 0, .int .i64 0] 30)) := (Ext.refl _).alloc _
 have HB := blk_new w (.cells #[.int .i64 0, .int .i64 0, .int .i64 0] 30)
 go_enter Tryz.func13, Tryz.ntmps13
 go_wp2_with fail
 refine (s_l1New code _ _ (hr.ext hx0) hu hl).mono ?_
 rintro e w1 ⟨g, rfl, hgl, hc1, hn1⟩
 have hgw := hc1.lt
 have s : DSt g cv code w1 w1 := ⟨hc1, Chg.refl _ _, hc1⟩
 have B2 := Ext.block hn1 HB
 have hgr : w.heap.size < g := by simp at hgl; omega
 clear HB
 clear hc1
 have cb_B2 := blk3 B2
 go_wp2_with fail
 clear cb_B2
 refine (s_l31Any g _ _ _ s.c).mono ?_
 rintro e w2 ⟨x, rfl, hcq, hzq⟩
 replace B2 := hzq.blkS B2 (by unfold at1; omega)
 replace s := s.draw hcq hzq
 clear hzq hcq
 obtain ⟨wpd, hwd, hbd, hcd⟩ := three_set B2 (.int .i64 x.asn) (.int .i64 x.iface) (.int .i64 x.till)
 have ff0 := fr_of B2 0
 have ff1 := fr_of B2 1
 have ff2 := fr_of B2 2
 have HWd := Lib.hid hwd
 clear hwd
 have cb_B2 := blk3 B2
 go_wp2_with fail
 clear cb_B2
 rw [← HWd.out]
 clear HWd ff0 ff1 ff2
 have hxe := hx0.trans (hn1.ofCur s.x hgl)
 replace B2 := hbd
 clear hbd
 replace hxe := hxe.chg hcd (fun i hi => by have h1 : i = w.heap.size := hi; omega)
 try clear hcd
 have cr_B2 := blk3 B2
 have hwb := (hx0.trans hn1).size
 go_wp2_with fail
 refine bodyPost_ret (v := .agg #[.int .i64 x.asn, .int .i64 x.iface, .int .i64 x.till]) (by simp [results, Tryz.results13, go_sem, cr_B2]) rfl ?_
 exact ⟨x, rfl, hxe⟩

set_option maxRecDepth 100000 in
set_option maxHeartbeats 8000000 in
theorem s_DrawAddRevocation (code : List Int) (cv : Value) (w : World) (hr : RdS Rep.byte w cv code) (hu : ∀ x ∈ code, U8 x) (hl : code.length ≤ 1048576) :
  Calls Tryz.prog 10 #[cv] w fun e w' => ∃ (v : Value) (l : List Revc) (x : Revc), e = .returned (.tuple #[v, .agg #[.int .i64 x.asn, .int .i64 x.iface, .int .i64 x.till]]) ∧ l.length ≤ 16 ∧ RdS Revc.rep w' v l ∧ Ext w w' := by
 have hx0 : Ext w (w.alloc (.cells #[.int .i64 0, .int .i64 0, .int .i64 0] 30)) := (Ext.refl _).alloc _
 have HB := blk_new w (.cells #[.int .i64 0, .int .i64 0, .int .i64 0] 30)
 go_enter Tryz.func10, Tryz.ntmps10
 go_wp2_with fail
 refine (s_l1New code _ _ (hr.ext hx0) hu hl).mono ?_
 rintro e w1 ⟨g, rfl, hgl, hc1, hn1⟩
 have hgw := hc1.lt
 have s : DSt g cv code w1 w1 := ⟨hc1, Chg.refl _ _, hc1⟩
 have B3 := Ext.block hn1 HB
 have hgr : w.heap.size < g := by simp at hgl; omega
 clear HB
 clear hc1
 have cb_B3 := blk3 B3
 go_wp2_with fail
 clear cb_B3
 have hbs : w1.heap.size ≤ w1.heap.size := s.x.size
 have ltq_B3 : w.heap.size < w1.heap.size := blk_lt B3
 refine (s_l31List g _ _ _ s.c).mono ?_
 rintro e w2 ⟨v, l, rfl, hl16, RQ, hcq, hzq⟩
 replace B3 := hzq.blkS B3 (by unfold at1; omega)
 replace s := s.draw hcq hzq
 have g_RQ : g < w1.heap.size := by omega
 have u_RQ : w2.heap.size ≤ w2.heap.size := by omega
 have lt_B3_RQ : w.heap.size < w1.heap.size := by omega
 clear hzq hcq hbs ltq_B3
 have cb_B3 := blk3 B3
 go_wp2_with fail
 clear cb_B3
 refine (s_l31Any g _ _ _ s.c).mono ?_
 rintro e w3 ⟨x, rfl, hcq, hzq⟩
 replace B3 := hzq.blkS B3 (by unfold at1; omega)
 replace RQ := Own.at1g RQ hzq (.inl g_RQ)
 replace u_RQ := Nat.le_trans u_RQ hzq.size
 replace s := s.draw hcq hzq
 clear hzq hcq
 obtain ⟨wpd, hwd, hbd, hcd⟩ := three_set B3 (.int .i64 x.asn) (.int .i64 x.iface) (.int .i64 x.till)
 have ff0 := fr_of B3 0
 have ff1 := fr_of B3 1
 have ff2 := fr_of B3 2
 have HWd := Lib.hid hwd
 clear hwd
 have cb_B3 := blk3 B3
 go_wp2_with fail
 clear cb_B3
 rw [← HWd.out]
 clear HWd ff0 ff1 ff2
 have hxe := hx0.trans (hn1.ofCur s.x hgl)
 replace RQ := Own.at1g RQ hcd (by omega)
 replace u_RQ := Nat.le_trans u_RQ hcd.size
 replace B3 := hbd
 clear hbd
 replace hxe := hxe.chg hcd (fun i hi => by have h1 : i = w.heap.size := hi; omega)
 try clear hcd
 have cr_B3 := blk3 B3
 have hwb := (hx0.trans hn1).size
 go_wp2_with fail
 refine bodyPost_ret (v := .tuple #[v, .agg #[.int .i64 x.asn, .int .i64 x.iface, .int .i64 x.till]]) (by simp [results, Tryz.results10, go_sem, cr_B3]) rfl ?_
 exact ⟨v, l, x, rfl, hl16, Own.rd _ RQ, hxe⟩

end Go.Proofs.YtcpfmhgfaliemaaGreat
