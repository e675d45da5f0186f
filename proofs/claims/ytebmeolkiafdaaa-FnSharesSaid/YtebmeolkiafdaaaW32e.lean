/- Draws of the laws on reservations: no more is said of them than their bounds. No condition but the bounds that each theorem names. -/
import Derived.Test.YtebmeolkiafdaaaW32d
namespace Go.Proofs.Ytebmeolkiafdaaa
open Go.ChangeShapes Go.WideShapes Go.ChangeAt Go.RowKit Go.Deep

set_option maxRecDepth 100000 in
set_option maxHeartbeats 2000000 in
theorem s_l32At4 (code : List Int) (cv : Value) (w : World) (hr : RdS Rep.byte w cv code) (hu : ∀ x ∈ code, U8 x) (hl : code.length ≤ 1048576) :
    Calls Try.prog 119 #[cv] w fun e w' => ∃ (g : Nat) (v : Value) (l : List Resv) (r d now : Int), e = .returned (.tuple #[.pointer (some ⟨g, 0, none⟩), v, .int .i64 r, .int .i64 d, .int .i64 now]) ∧ l.length ≤ 50 ∧ OwnF Resv.f 5 (g + 1) 26 w' v l ∧ w.heap.size ≤ g ∧ Cur g cv code w' ∧ Ext w w' := by
  go_enter Try.func119, Try.ntmps119
  go_wp2_with fail
  refine (s_l1New code _ _ hr hu hl).mono ?_
  rintro e w1 ⟨g, rfl, hgl, hc1, hn1⟩
  have hgw := hc1.lt
  go_wp2_with fail
  refine (s_l32List g  _ _ _ hc1).mono ?_
  rintro e w2 ⟨v, l, rfl, hl0, ho, hc2, hz2⟩
  go_wp2_with fail
  refine (s_l1Below g (4) _ _ _ hc2).mono ?_
  rintro e w3 ⟨a, rfl, ha0, ha1, hc3, hz3⟩
  have ha2 : a < 4 := by omega
  clear ha1
  go_wp2_with fail
  refine (s_l1Below g (3) _ _ _ hc3).mono ?_
  rintro e w4 ⟨b, rfl, hb0, hb1, hc4, hz4⟩
  have hb2 : b < 3 := by omega
  clear hb1
  go_wp2_with fail
  refine (s_l1Below g (25) _ _ _ hc4).mono ?_
  rintro e w5 ⟨c, rfl, hc0, hc1, hc5, hz5⟩
  have hc2 : c < 25 := by omega
  clear hc1
  go_wp2_with fail
  refine bodyPost_ret (v := .tuple #[.pointer (some ⟨g, 0, none⟩), v, .int .i64 a, .int .i64 (1 + b), .int .i64 (40 + c)]) (by simp [results, Try.results119, go_sem]) rfl ?_
  exact ⟨g, v, l, a, 1 + b, 40 + c, rfl, hl0, (ho.at1 ((hz3.trans hz4).trans hz5) hgw).mono (Nat.succ_le_of_lt hgw), hgl, hc5, hn1.ofCur (((hz2.trans hz3).trans hz4).trans hz5) hgl⟩

set_option maxRecDepth 100000 in
set_option maxHeartbeats 2000000 in
theorem s_DrawReservedRate (code : List Int) (cv : Value) (w : World) (hr : RdS Rep.byte w cv code) (hu : ∀ x ∈ code, U8 x) (hl : code.length ≤ 1048576) :
    Calls Try.prog 14 #[cv] w fun e w' => ∃ (v : Value) (l : List Resv) (r d now : Int), e = .returned (.tuple #[v, .int .i64 r, .int .i64 d, .int .i64 now]) ∧ l.length ≤ 50 ∧ OwnF Resv.f 5 w.heap.size 26 w' v l ∧ Ext w w' := by
  go_enter Try.func14, Try.ntmps14
  go_wp2_with fail
  refine (s_l32At4 code _ _ hr hu hl).mono ?_
  rintro e w1 ⟨g, v, l, r, d, now, rfl, hl0, ho, hgl, hc1, hn1⟩
  go_wp2_with fail
  refine bodyPost_ret (v := .tuple #[v, .int .i64 r, .int .i64 d, .int .i64 now]) (by simp [results, Try.results14, go_sem]) rfl ?_
  exact ⟨v, l, r, d, now, rfl, hl0, ho.mono (by omega), hn1⟩

set_option maxRecDepth 100000 in
set_option maxHeartbeats 2000000 in
theorem s_DrawReservationRate (code : List Int) (cv : Value) (w : World) (hr : RdS Rep.byte w cv code) (hu : ∀ x ∈ code, U8 x) (hl : code.length ≤ 1048576) :
    Calls Try.prog 15 #[cv] w fun e w' => ∃ (v : Value) (l : List Resv) (q r d now : Int), e = .returned (.tuple #[v, .int .i64 q, .int .i64 r, .int .i64 d, .int .i64 now]) ∧ l.length ≤ 50 ∧ OwnF Resv.f 5 w.heap.size 26 w' v l ∧ Ext w w' := by
  go_enter Try.func15, Try.ntmps15
  go_wp2_with fail
  refine (s_l32At4 code _ _ hr hu hl).mono ?_
  rintro e w1 ⟨g, v, l, r, d, now, rfl, hl0, ho, hgl, hc1, hn1⟩
  go_wp2_with fail
  refine (s_l1Below g (5) _ _ _ hc1).mono ?_
  rintro e w2 ⟨a, rfl, ha0, ha1, hc2, hz2⟩
  have ha2 : a < 5 := by omega
  clear ha1
  go_wp2_with fail
  refine bodyPost_ret (v := .tuple #[v, .int .i64 (1 + a), .int .i64 r, .int .i64 d, .int .i64 now]) (by simp [results, Try.results15, go_sem]) rfl ?_
  exact ⟨v, l, 1 + a, r, d, now, rfl, hl0, (ho.at1 hz2 (Nat.lt_succ_self g)).mono (by omega), hn1.ofCur hz2 hgl⟩

set_option maxRecDepth 100000 in
set_option maxHeartbeats 2000000 in
theorem s_DrawFreeRate (code : List Int) (cv : Value) (w : World) (hr : RdS Rep.byte w cv code) (hu : ∀ x ∈ code, U8 x) (hl : code.length ≤ 1048576) :
    Calls Try.prog 19 #[cv] w fun e w' => ∃ (v : Value) (l : List Resv) (q r d now : Int), e = .returned (.tuple #[v, .int .i64 q, .int .i64 r, .int .i64 d, .int .i64 now]) ∧ l.length ≤ 50 ∧ OwnF Resv.f 5 w.heap.size 26 w' v l ∧ Ext w w' := by
  go_enter Try.func19, Try.ntmps19
  go_wp2_with fail
  refine (s_l32At4 code _ _ hr hu hl).mono ?_
  rintro e w1 ⟨g, v, l, r, d, now, rfl, hl0, ho, hgl, hc1, hn1⟩
  go_wp2_with fail
  refine (s_l1Int g [8, 4, 0, -1] _ _ _ hc1 (by decide) (by decide)).mono ?_
  rintro e w2 ⟨a, rfl, hma, hc2, hz2⟩
  have hba : -1 ≤ a ∧ a ≤ 8 := by simp at hma; omega
  obtain ⟨ha0, ha1⟩ := hba
  clear hma
  go_wp2_with fail
  refine bodyPost_ret (v := .tuple #[v, .int .i64 a, .int .i64 r, .int .i64 d, .int .i64 now]) (by simp [results, Try.results19, go_sem]) rfl ?_
  exact ⟨v, l, a, r, d, now, rfl, hl0, (ho.at1 hz2 (Nat.lt_succ_self g)).mono (by omega), hn1.ofCur hz2 hgl⟩

set_option maxRecDepth 100000 in
set_option maxHeartbeats 2000000 in
theorem s_DrawRelease (code : List Int) (cv : Value) (w : World) (hr : RdS Rep.byte w cv code) (hu : ∀ x ∈ code, U8 x) (hl : code.length ≤ 1048576) :
    Calls Try.prog 16 #[cv] w fun e w' => ∃ (v : Value) (l : List Resv) (q : Int), e = .returned (.tuple #[v, .int .i64 q]) ∧ l.length ≤ 50 ∧ OwnF Resv.f 5 w.heap.size 26 w' v l ∧ Ext w w' := by
  go_enter Try.func16, Try.ntmps16
  go_wp2_with fail
  refine (s_l1New code _ _ hr hu hl).mono ?_
  rintro e w1 ⟨g, rfl, hgl, hc1, hn1⟩
  have hgw := hc1.lt
  go_wp2_with fail
  refine (s_l32List g  _ _ _ hc1).mono ?_
  rintro e w2 ⟨v, l, rfl, hl0, ho, hc2, hz2⟩
  go_wp2_with fail
  refine (s_l1Below g (7) _ _ _ hc2).mono ?_
  rintro e w3 ⟨a, rfl, ha0, ha1, hc3, hz3⟩
  have ha2 : a < 7 := by omega
  clear ha1
  go_wp2_with fail
  refine bodyPost_ret (v := .tuple #[v, .int .i64 a]) (by simp [results, Try.results16, go_sem]) rfl ?_
  exact ⟨v, l, a, rfl, hl0, (ho.at1 hz3 hgw).mono hn1.size, hn1.ofCur (hz2.trans hz3) hgl⟩

set_option maxRecDepth 100000 in
set_option maxHeartbeats 2000000 in
theorem s_DrawActiveReservations (code : List Int) (cv : Value) (w : World) (hr : RdS Rep.byte w cv code) (hu : ∀ x ∈ code, U8 x) (hl : code.length ≤ 1048576) :
    Calls Try.prog 17 #[cv] w fun e w' => ∃ (v : Value) (l : List Resv) (q : Int), e = .returned (.tuple #[v, .int .i64 q]) ∧ l.length ≤ 50 ∧ OwnF Resv.f 5 w.heap.size 26 w' v l ∧ Ext w w' := by
  go_enter Try.func17, Try.ntmps17
  go_wp2_with fail
  refine (s_l1New code _ _ hr hu hl).mono ?_
  rintro e w1 ⟨g, rfl, hgl, hc1, hn1⟩
  have hgw := hc1.lt
  go_wp2_with fail
  refine (s_l32List g  _ _ _ hc1).mono ?_
  rintro e w2 ⟨v, l, rfl, hl0, ho, hc2, hz2⟩
  go_wp2_with fail
  refine (s_l1Below g (30) _ _ _ hc2).mono ?_
  rintro e w3 ⟨a, rfl, ha0, ha1, hc3, hz3⟩
  have ha2 : a < 30 := by omega
  clear ha1
  go_wp2_with fail
  refine bodyPost_ret (v := .tuple #[v, .int .i64 (40 + a)]) (by simp [results, Try.results17, go_sem]) rfl ?_
  exact ⟨v, l, 40 + a, rfl, hl0, (ho.at1 hz3 hgw).mono hn1.size, hn1.ofCur (hz2.trans hz3) hgl⟩

set_option maxRecDepth 100000 in
set_option maxHeartbeats 2000000 in
theorem s_DrawValidReservation (code : List Int) (cv : Value) (w : World) (hr : RdS Rep.byte w cv code) (hu : ∀ x ∈ code, U8 x) (hl : code.length ≤ 1048576) :
    Calls Try.prog 20 #[cv] w fun e w' => ∃ x : Resv, e = .returned (.agg #[.int .i64 x.id, .int .i64 x.asn, .int .i64 x.iface, .int .i64 x.rate, .int .i64 x.till]) ∧ Ext w w' := by
  have hx0 : Ext w (w.alloc (.cells #[.int .i64 0, .int .i64 0, .int .i64 0, .int .i64 0, .int .i64 0] 26)) := (Ext.refl _).alloc _
  have HB0 := Lib.hid (blk_new w (.cells #[.int .i64 0, .int .i64 0, .int .i64 0, .int .i64 0, .int .i64 0] 26))
  go_enter Try.func20, Try.ntmps20
  go_wp2_with fail
  refine (s_l1New code _ _ (hr.ext hx0) hu hl).mono ?_
  rintro e w1 ⟨g, rfl, hgl, hc1, hn1⟩
  go_wp2_with fail
  refine (s_l32Any g _ _ _ hc1).mono ?_
  rintro e w2 ⟨x, rfl, hc2, hz2⟩
  have hg1 : w.heap.size < g := by have h1 := hx0.size; simp at h1 hgl; omega
  have hx2 := hn1.ofCur hz2 hgl
  have HRB := Lib.hid (Ext.block hx2 HB0.out)
  obtain ⟨wq, hwq, hbq, hcq⟩ := rs_set HRB.out (.int .i64 x.id) (.int .i64 x.asn) (.int .i64 x.iface) (.int .i64 x.rate) (.int .i64 x.till)
  have HWQ := Lib.hid hwq
  have HBQ := Lib.hid hbq
  have HCE := Lib.hid ((hx0.trans hx2).chg hcq (fun i hi => by have h1 : i = w.heap.size := hi; omega))
  clear hwq hbq hcq
  have cR := blk5 HRB.out
  have fR0 := fr_of HRB.out 0
  have fR1 := fr_of HRB.out 1
  have fR2 := fr_of HRB.out 2
  have fR3 := fr_of HRB.out 3
  have fR4 := fr_of HRB.out 4
  go_wp2_with fail
  rw [← HWQ.out]
  clear cR fR0 fR1 fR2 fR3 fR4
  have cc := blk5 HBQ.out
  refine bodyPost_ret (v := .agg #[.int .i64 x.id, .int .i64 x.asn, .int .i64 x.iface, .int .i64 x.rate, .int .i64 x.till]) (by simp [results, Try.results20, go_sem, cc]) rfl ?_
  exact ⟨x, rfl, HCE.out⟩

set_option maxRecDepth 100000 in
set_option maxHeartbeats 4000000 in
theorem s_DrawValidReservations (code : List Int) (cv : Value) (w : World) (hr : RdS Rep.byte w cv code) (hu : ∀ x ∈ code, U8 x) (hl : code.length ≤ 1048576) :
    Calls Try.prog 18 #[cv] w fun e w' => ∃ (v : Value) (l : List Resv) (c now : Int), e = .returned (.tuple #[v, .int .i64 c, .int .i64 now]) ∧ l.length ≤ 100 ∧ OwnF Resv.f 5 w.heap.size 26 w' v l ∧ Ext w w' := by
  obtain ⟨E⟩ := elemResv
  go_enter Try.func18, Try.ntmps18
  go_wp2_with fail
  refine (s_l1New code _ _ hr hu hl).mono ?_
  rintro e w1 ⟨g, rfl, hgl, hc1, hn1⟩
  have hgw := hc1.lt
  go_wp2_with fail
  refine (s_l32List g  _ _ _ hc1).mono ?_
  rintro e w2 ⟨v, l, rfl, hl0, ho, hc2, hz2⟩
  go_wp2_with fail
  refine (s_l1Once g (5) _ _ _ hc2).mono ?_
  rintro e w3 ⟨b, rfl, hc3, hz3⟩
  cases b
  case false =>
    go_wp2_with fail
    refine (s_l1Int g [8, 8, 4, 20] _ _ _ hc3 (by decide) (by decide)).mono ?_
    rintro e w4 ⟨a, rfl, hma, hc4, hz4⟩
    have hba : 4 ≤ a ∧ a ≤ 20 := by simp at hma; omega
    obtain ⟨ha0, ha1⟩ := hba
    clear hma
    go_wp2_with fail
    refine bodyPost_ret (v := .tuple #[v, .int .i64 a, .int .i64 45]) (by simp [results, Try.results18, go_sem]) rfl ?_
    exact ⟨v, l, a, 45, rfl, by omega, (ho.at1 (hz3.trans hz4) hgw).mono hn1.size, hn1.ofCur ((hz2.trans hz3).trans hz4) hgl⟩
  case true =>
    have ho1 := ho.at1 hz3 hgw
    go_wp2_with (at_builtin; refine appS E Resv.flen Resv.one rfl _ _ rfl l rfl ho1 rfl (OwnF.rd (hf := Resv.flen) ho1) (by omega) (by unfold maxLen; omega) (hz2.trans hz3).size ?_)
    intro v' wa ho' hg'
    have hca := Cur.app hc1 hc3 hg' ho1 (Nat.le_refl _) (hz2.trans hz3)
    have hza := Chg.app (hz2.trans hz3) hg' ho1 (Nat.le_refl _)
    clear hg'
    go_wp2_with fail
    refine (s_l1Int g [8, 8, 4, 20] _ _ _ hca (by decide) (by decide)).mono ?_
    rintro e w5 ⟨a, rfl, hma, hc5, hz5⟩
    have hba : 4 ≤ a ∧ a ≤ 20 := by simp at hma; omega
    obtain ⟨ha0, ha1⟩ := hba
    clear hma
    go_wp2_with fail
    refine bodyPost_ret (v := .tuple #[v', .int .i64 a, .int .i64 45]) (by simp [results, Try.results18, go_sem]) rfl ?_
    exact ⟨v', l ++ l, a, 45, rfl, by simp; omega, (ho'.at1 hz5 hgw).mono hn1.size, hn1.ofCur (hza.trans hz5) hgl⟩

end Go.Proofs.Ytebmeolkiafdaaa
