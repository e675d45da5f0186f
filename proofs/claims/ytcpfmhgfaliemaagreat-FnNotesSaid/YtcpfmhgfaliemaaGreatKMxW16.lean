/- Rows of segments, and contracts over them that say no more than how many there are and how long they are: copies, those of an AS, those between two, whether one is among them. No condition but the bounds that each theorem names. -/
import Derived.Test.YtcpfmhgfaliemaaGreatKM17
namespace Go.Proofs.YtcpfmhgfaliemaaGreat
open Go.ChangeShapes Go.WideShapes Go.ChangeAt Go.RowKit Go.Deep

def Seg.c (x : Seg) (v : Value) : List Value := [.int .i64 x.ts, .int .i64 x.beta, v]
theorem Seg.clen (x : Seg) (v : Value) : (x.c v).length = 3 := rfl
def Seg.rep : Rep Seg where
 cells := 3
 rd w cs x := ∃ v, cs = x.c v ∧ RdS Hop.rep w v x.hops
 len := by rintro w cs a ⟨v, rfl, _⟩; rfl
 ext := by rintro w w' cs a e ⟨v, rfl, h⟩; exact ⟨v, rfl, h.ext e⟩
theorem Seg.at {w : World} {o : Option Addr} {m cap : Nat} {l : List Seg} (h : RdS Seg.rep w (.slice o m cap) l) (k : Nat) (hk : k < l.length) :
  ∃ b off oh ch, o = some ⟨b, off, none⟩ ∧ (w.cell? ⟨b, off + k * 3, none⟩ = some (.int .i64 l[k].ts) ∧ w.cell? ⟨b, off + k * 3 + 1, none⟩ = some (.int .i64 l[k].beta) ∧
   w.cell? ⟨b, off + k * 3 + 2, none⟩ = some (.slice oh l[k].hops.length ch)) ∧ RdS Hop.rep w (.slice oh l[k].hops.length ch) l[k].hops := by
 obtain ⟨o', cap', hv, h1, h2, hn, h3⟩ := h
 obtain ⟨b, off, cs, ho, hc, v, rfl, hr⟩ := h3 k hk
 cases hv
 obtain ⟨oh, ch, rfl, _⟩ := hr.shape
 exact ⟨b, off, oh, ch, ho, ⟨hc 0 _ rfl, hc 1 _ rfl, hc 2 _ rfl⟩, hr⟩
theorem cell3_extS {w w' : World} (x : Ext w w') {p0 p1 p2 : Addr} {a b c : Value} (h : w.cell? p0 = some a ∧ w.cell? p1 = some b ∧ w.cell? p2 = some c) : w'.cell? p0 = some a ∧ w'.cell? p1 = some b ∧ w'.cell? p2 = some c := ⟨Ext.cell x h.1, Ext.cell x h.2.1, Ext.cell x h.2.2⟩
/-- No more than n segments, none of them long. -/
def SegsBd (n : Nat) (l : List Seg) : Prop := l.length ≤ n ∧ ∀ x ∈ l, x.hops.length ≤ 6
theorem SegsBd.at {n : Nat} {l : List Seg} (h : SegsBd n l) (k : Nat) (hk : k < l.length) : l[k].hops.length ≤ 6 := h.2 _ (List.getElem_mem hk)
theorem SegsBd.mono {n m : Nat} {l : List Seg} (h : SegsBd n l) (hm : n ≤ m) : SegsBd m l := ⟨Nat.le_trans h.1 hm, h.2⟩
theorem SegsBd.snoc {n : Nat} {l : List Seg} {x : Seg} (h : SegsBd n l) (hx : x.hops.length ≤ 6) : SegsBd (n + 1) (l ++ [x]) :=
 ⟨by have := h.1; simp; omega, fun y hy => by
  rcases List.mem_append.1 hy with h1 | h1
  ·
   exact h.2 y h1
  ·
   obtain rfl := List.mem_singleton.1 h1; exact hx⟩
def Seg.ownS : Own Seg := Own.nest 3 Seg.c Seg.clen (·.hops) 203 (Own.flat Hop.f 5 Hop.flen 71)
theorem Seg.ord {S : Nat → Prop} {w : World} {v : Value} {l : List Seg} (h : Seg.ownS.own S w v l) : RdS Seg.rep w v l := Seg.ownS.rd h
theorem Tryz.infoSeg : (Tryz.prog.info? 203).map (fun i => (i.zero, i.size, i.bytes)) = some (some (.agg #[.int .i64 0, .int .i64 0, .slice none 0 0]), 3, 40) := by kernel_rfl
theorem elemSeg : Nonempty (Elem Tryz.prog 172 203 3 40) := Elem.mk' Tryz.underlying172 Tryz.infoSeg rfl (by decide)
theorem seg_oneC (x : Seg) (o : Option Addr) (n c : Nat) : ∀ u ∈ Seg.c x (.slice o n c), u.oneCell' = true := by
 intro u hu
 simp only [Seg.c, List.mem_cons, List.not_mem_nil, or_false] at hu
 rcases hu with rfl | rfl | rfl <;> rfl
theorem segs_none (w : World) : Seg.ownS.own (rng w.heap.size (w.alloc (.cells #[] 203)).heap.size) (w.alloc (.cells #[] 203)) (.slice (some ⟨w.heap.size, 0, none⟩) 0 0) [] := by
 have h := nest_lit (n := 3) (c := Seg.c) (hc := Seg.clen) (sub := fun x : Seg => x.hops) (e := 203) (I := Own.flat Hop.f 5 Hop.flen 71) (w := w) [] w.heap.size (Nat.le_refl _) (by simp) (by simp) (fun i j hi => absurd hi (by simp))
 unfold Seg.ownS
 simpa using h

set_option maxRecDepth 100000 in
set_option maxHeartbeats 1000000 in
theorem s_LastAS (s : Seg) (v : Value) (w : World) (r : RdS Hop.rep w v s.hops) :
  Calls Tryz.prog 205 #[.agg #[.int .i64 s.ts, .int .i64 s.beta, v]] w fun e w' => ∃ n : Int, e = .returned (.int .i64 n) ∧ Ext w w' := by
 obtain ⟨o, cap, rfl, hsm⟩ := r.shape
 have hx0 : Ext w (w.alloc (.cells #[.int .i64 s.ts, .int .i64 s.beta, .slice o s.hops.length cap] 203)) := (Ext.refl _).alloc _
 have HB0 := Lib.hid (blk_new w (.cells #[.int .i64 s.ts, .int .i64 s.beta, .slice o s.hops.length cap] 203))
 go_enter Tryz.func205, Tryz.ntmps205
 by_cases h0 : s.hops.length = 0
 ·
  have h01 : ((s.hops.length : Int) == 0) = true := by rw [beq_iff_eq]; omega
  clear h0
  have cf1 := blk3 HB0.out
  go_wp2_with fail
  go_ret
  exact ⟨_, rfl, hx0⟩
 ·
  have h01 : ((s.hops.length : Int) == 0) = false := by rw [beq_eq_false_iff_ne]; omega
  obtain ⟨b, off, rfl, hc⟩ := Hop.at (r.ext hx0) (s.hops.length - 1) (by omega)
  obtain ⟨hd, hhd⟩ : ∃ hd, hd = s.hops[s.hops.length - 1] := ⟨_, rfl⟩
  rw [← hhd] at hc
  have hle : ((s.hops.length - 1 : Nat) : Int) = (s.hops.length : Int) - 1 := by omega
  have hl1 : (0 : Int) ≤ (s.hops.length : Int) - 1 := by omega
  have hl2 : ((s.hops.length : Int) - 1).toNat = s.hops.length - 1 := by omega
  clear hhd
  have cf2 := blk3 HB0.out
  go_wp2_with fail
  go_ret
  exact ⟨_, rfl, hx0⟩

set_option maxRecDepth 100000 in
set_option maxHeartbeats 8000000 in
theorem s_l16All (l : List Seg) (v : Value) (n : Nat) (w : World) (r : RdS Seg.rep w v l) (hl : SegsBd n l) (hn : n ≤ 1000) :
  Calls Tryz.prog 241 #[v] w fun e w' => ∃ (v' : Value) (l' : List Seg), e = .returned v' ∧ SegsBd n l' ∧ Seg.ownS.own (rng w.heap.size w'.heap.size) w' v' l' ∧ Ext w w' := by
 obtain ⟨E⟩ := elemSeg
 obtain ⟨o, cap, rfl, hsm⟩ := r.shape
 go_enter Tryz.func241, Tryz.ntmps241
 have hno := segs_none w
 have hxe : Ext w (w.alloc (.cells #[] 203)) := (Ext.refl _).alloc _
 go_wp2_with fail
 go_loopg [3, 4] l.length (fun gk out i wr => ∃ (k : Nat) (L : List Seg), gk + k = l.length ∧ i = .int .i64 k ∧ SegsBd k L ∧ Seg.ownS.own (rng w.heap.size wr.heap.size) wr out L ∧ Ext w wr)
 case atStart => exact ⟨0, [], by omega, rfl, ⟨Nat.le_refl _, by simp⟩, by simpa only [nblk_alloc] using hno, hxe⟩
 case round =>
  clear hno hxe
  obtain ⟨k, L, hgk, rfl, hL, ho, hx⟩ := hrel
  obtain ⟨oq9, cq9, rfl, _⟩ := (Seg.ord ho).shape
  have HGK := Lib.hid hgk
  clear hgk
  have hkl : k ≤ l.length := by have h1 := HGK.out; omega
  have hLl := hL.1
  have hln := hl.1
  by_cases hlt : k < l.length
  ·
   obtain ⟨b, off, oh, ch, rfl, hc, hr⟩ := Seg.at (r.ext hx) k hlt
   have hb6 := hl.at k hlt
   obtain ⟨x, hx9⟩ : ∃ x, x = l[k] := ⟨_, rfl⟩
   rw [← hx9] at hc hr hb6
   clear hx9
   go_wp2_with fail
   refine (s_l9Copy x _ _ (hr.ext (Ext.refl _)) (by omega)).mono ?_
   rintro e w1 ⟨vc, rfl, oc, hz1⟩
   obtain ⟨oo, co, rfl, _⟩ := (OwnF.rd (hf := Hop.flen) oc).shape
   have hx9 : Ext w1 (w1.alloc (.cells #[.int .i64 x.ts, .int .i64 x.beta, .slice oo x.hops.length co] 203)) := (Ext.refl _).alloc _
   have hb9 := blk3 (blk_new w1 (.cells #[.int .i64 x.ts, .int .i64 x.beta, .slice oo x.hops.length co] 203))
   have cf1 := cell3_extS (hz1.trans hx9) hc
   have HXA := Lib.hid ((hz1.trans hx9).alloc (.cells #[.int .i64 x.ts, .int .i64 x.beta, .slice oo x.hops.length co] 203))
   have hsc : wr.heap.size ≤ wr.heap.size := Ext.size (Ext.refl _)
   have hi9 := Own.mono (Own.flat Hop.f 5 Hop.flen 71) (Own.ofF (hf := Hop.flen) oc) (T := rng wr.heap.size w1.heap.size) (fun q hq => ⟨Nat.le_trans hsc hq.1, hq.2⟩)
   go_wp2_with (at_builtin; refine appN (lo := w.heap.size) (w0 := wr) (c := Seg.c) (hc := Seg.clen) (sub := (·.hops)) (I := Own.flat Hop.f 5 Hop.flen 71) E rfl _ _ rfl x (.slice oo x.hops.length co) (rng wr.heap.size w1.heap.size) (seg_oneC _ _ _ _) rfl ho HXA.out (Own.ext (O := Own.flat Hop.f 5 Hop.flen 71) hi9 (hx9.alloc _)) (fun q hq => ⟨hq.1, by have h1 := hq.2; simp; omega⟩) hx.size rfl (by exact blk_list (Seg.c x (.slice oo x.hops.length co)) (blk_new2 w1 _ _)) (by omega) (by unfold maxLen; omega) ?_)
   intro v' w' ho' hg' hvlo
   have hx' := (hx.trans HXA.out).grown hg' hvlo
   clear hg' hvlo hi9 ho
   try clear cf1
   go_wp2_with fail
   go_roundg (gk - 1)
   case measure => have h1 := HGK.out; omega
   case rel => exact ⟨k + 1, _, by have h1 := HGK.out; omega, congrArg (Value.int .i64) (by first | omega | (unfold wrap64; omega)), hL.snoc hb6, ho', hx'⟩
  ·
   go_wp2_with fail
   go_ret
   exact ⟨_, L, rfl, hL.mono (by omega), Own.mono _ ho (fun q hq => ⟨by have h1 := hq.1; omega, hq.2⟩), hx⟩

set_option maxRecDepth 100000 in
set_option maxHeartbeats 8000000 in
theorem s_DownSegments (l : List Seg) (v v2 : Value) (r9 : Int) (n : Nat) (w : World) (r : RdS Seg.rep w v l) (hl : SegsBd n l) (hn : n ≤ 1000) :
  Calls Tryz.prog 216 #[.agg #[v, v2], .int .i64 r9] w fun e w' => ∃ (v' : Value) (l' : List Seg), e = .returned v' ∧ SegsBd n l' ∧ Seg.ownS.own (rng w.heap.size w'.heap.size) w' v' l' ∧ Ext w w' := by
 obtain ⟨E⟩ := elemSeg
 obtain ⟨o, cap, rfl, hsm⟩ := r.shape
 have hx0 : Ext w (w.alloc (.cells #[.slice o l.length cap, v2] 174)) := (Ext.refl _).alloc _
 have HB0 := Lib.hid (blk_new w (.cells #[.slice o l.length cap, v2] 174))
 obtain ⟨W3, hW3⟩ : ∃ W3 : World, W3 = (w.alloc (.cells #[.slice o l.length cap, v2] 174)) := ⟨_, rfl⟩
 have hs3 : w.heap.size ≤ W3.heap.size := by rw [hW3]; exact hx0.size
 have hxb := hx0
 rw [← hW3] at hxb HB0
 clear hx0
 go_enter Tryz.func216, Tryz.ntmps216
 go_upto_region 1 with (fail)
 rw [← hW3]
 clear hW3
 have hno := segs_none W3
 have hxe : Ext W3 (W3.alloc (.cells #[] 203)) := (Ext.refl _).alloc _
 have cf1 := blk2 HB0.out
 go_wp2_with fail
 go_loopg [5, 6] l.length (fun gk out i wr => ∃ (k : Nat) (L : List Seg), gk + k = l.length ∧ i = .int .i64 k ∧ SegsBd k L ∧ Seg.ownS.own (rng W3.heap.size wr.heap.size) wr out L ∧ Ext W3 wr)
 case atStart => exact ⟨0, [], by omega, rfl, ⟨Nat.le_refl _, by simp⟩, by simpa only [nblk_alloc] using hno, hxe⟩
 case round =>
  clear hno hxe
  obtain ⟨k, L, hgk, rfl, hL, ho, hx⟩ := hrel
  obtain ⟨oq9, cq9, rfl, _⟩ := (Seg.ord ho).shape
  have HGK := Lib.hid hgk
  clear hgk
  have hkl : k ≤ l.length := by have h1 := HGK.out; omega
  have hLl := hL.1
  have hln := hl.1
  by_cases hlt : k < l.length
  ·
   obtain ⟨b, off, oh, ch, rfl, hc, hr⟩ := Seg.at (r.ext (hxb.trans hx)) k hlt
   have hb6 := hl.at k hlt
   obtain ⟨x, hx9⟩ : ∃ x, x = l[k] := ⟨_, rfl⟩
   rw [← hx9] at hc hr hb6
   clear hx9
   try clear cf1
   have cf2 := blk2 (Ext.block hx HB0.out)
   go_wp2_with fail
   refine (s_LastAS x _ _ (hr.ext (Ext.refl _))).mono ?_
   rintro e w1 ⟨q, rfl, hz1⟩
   cases hq : (q == r9)
   ·
    try clear cf2
    have cf3 := blk2 (Ext.block (hx.trans hz1) HB0.out)
    have cf4 := cell3_extS hz1 hc
    go_wp2_with fail
    go_roundg (gk - 1)
    case measure => have h1 := HGK.out; omega
    case rel => exact ⟨k + 1, L, by have h1 := HGK.out; omega, congrArg (Value.int .i64) (by first | omega | (unfold wrap64; omega)), hL.mono (Nat.le_succ _), Own.upTo (Own.ext ho hz1) (Nat.le_refl _), (hx.trans hz1)⟩
   ·
    try clear cf2
    have cf5 := blk2 (Ext.block (hx.trans hz1) HB0.out)
    have cf6 := cell3_extS hz1 hc
    go_wp2_with fail
    refine (s_l9Copy x _ _ (hr.ext hz1) (by omega)).mono ?_
    rintro e w2 ⟨vc, rfl, oc, hz2⟩
    obtain ⟨oo, co, rfl, _⟩ := (OwnF.rd (hf := Hop.flen) oc).shape
    try clear cf5
    try clear cf6
    have cf7 := blk2 (Ext.block ((hx.trans hz1).trans hz2) HB0.out)
    have cf8 := cell3_extS (hz1.trans hz2) hc
    have HXA := Lib.hid ((hz1.trans hz2).alloc (.cells #[.int .i64 x.ts, .int .i64 x.beta, .slice oo x.hops.length co] 203))
    have hsc : wr.heap.size ≤ w1.heap.size := Ext.size hz1
    have hi9 := Own.mono (Own.flat Hop.f 5 Hop.flen 71) (Own.ofF (hf := Hop.flen) oc) (T := rng wr.heap.size w2.heap.size) (fun q hq => ⟨Nat.le_trans hsc hq.1, hq.2⟩)
    go_wp2_with (at_builtin; refine appN (lo := W3.heap.size) (w0 := wr) (c := Seg.c) (hc := Seg.clen) (sub := (·.hops)) (I := Own.flat Hop.f 5 Hop.flen 71) E rfl _ _ rfl x (.slice oo x.hops.length co) (rng wr.heap.size w2.heap.size) (seg_oneC _ _ _ _) rfl ho HXA.out (Own.ext (O := Own.flat Hop.f 5 Hop.flen 71) hi9 ((Ext.refl _).alloc _)) (fun q hq => ⟨hq.1, by have h1 := hq.2; simp; omega⟩) hx.size rfl (by exact blk_list (Seg.c x (.slice oo x.hops.length co)) (blk_new w2 _)) (by omega) (by unfold maxLen; omega) ?_)
    intro v' w' ho' hg' hvlo
    have hx' := (hx.trans HXA.out).grown hg' hvlo
    clear hg' hvlo hi9 ho
    try clear cf7
    try clear cf8
    go_wp2_with fail
    go_roundg (gk - 1)
    case measure => have h1 := HGK.out; omega
    case rel => exact ⟨k + 1, _, by have h1 := HGK.out; omega, congrArg (Value.int .i64) (by first | omega | (unfold wrap64; omega)), hL.snoc hb6, ho', hx'⟩
  ·
   try clear cf1
   have cf9 := blk2 (Ext.block hx HB0.out)
   go_wp2_with fail
   go_ret
   exact ⟨_, L, rfl, hL.mono (by omega), Own.mono _ ho (fun q hq => ⟨by have h1 := hq.1; omega, hq.2⟩), (hxb.trans hx)⟩

set_option maxRecDepth 100000 in
set_option maxHeartbeats 8000000 in
theorem s_l16Between (l : List Seg) (v v2 : Value) (a9 b9 : Int) (n : Nat) (w : World) (r : RdS Seg.rep w v l) (hl : SegsBd n l) (hn : n ≤ 1000) :
  Calls Tryz.prog 248 #[.agg #[v2, v], .int .i64 a9, .int .i64 b9] w fun e w' => ∃ (v' : Value) (l' : List Seg), e = .returned v' ∧ SegsBd n l' ∧ Seg.ownS.own (rng w.heap.size w'.heap.size) w' v' l' ∧ Ext w w' := by
 obtain ⟨E⟩ := elemSeg
 obtain ⟨o, cap, rfl, hsm⟩ := r.shape
 have hx0 : Ext w (w.alloc (.cells #[v2, .slice o l.length cap] 174)) := (Ext.refl _).alloc _
 have HB0 := Lib.hid (blk_new w (.cells #[v2, .slice o l.length cap] 174))
 obtain ⟨W3, hW3⟩ : ∃ W3 : World, W3 = (w.alloc (.cells #[v2, .slice o l.length cap] 174)) := ⟨_, rfl⟩
 have hs3 : w.heap.size ≤ W3.heap.size := by rw [hW3]; exact hx0.size
 have hxb := hx0
 rw [← hW3] at hxb HB0
 clear hx0
 go_enter Tryz.func248, Tryz.ntmps248
 go_upto_region 1 with (fail)
 rw [← hW3]
 clear hW3
 have hno := segs_none W3
 have hxe : Ext W3 (W3.alloc (.cells #[] 203)) := (Ext.refl _).alloc _
 have cf1 := blk2 HB0.out
 go_wp2_with fail
 go_loopg [7, 8] l.length (fun gk out i wr => ∃ (k : Nat) (L : List Seg), gk + k = l.length ∧ i = .int .i64 k ∧ SegsBd k L ∧ Seg.ownS.own (rng W3.heap.size wr.heap.size) wr out L ∧ Ext W3 wr)
 case atStart => exact ⟨0, [], by omega, rfl, ⟨Nat.le_refl _, by simp⟩, by simpa only [nblk_alloc] using hno, hxe⟩
 case round =>
  clear hno hxe
  obtain ⟨k, L, hgk, rfl, hL, ho, hx⟩ := hrel
  obtain ⟨oq9, cq9, rfl, _⟩ := (Seg.ord ho).shape
  have HGK := Lib.hid hgk
  clear hgk
  have hkl : k ≤ l.length := by have h1 := HGK.out; omega
  have hLl := hL.1
  have hln := hl.1
  by_cases hlt : k < l.length
  ·
   obtain ⟨b, off, oh, ch, rfl, hc, hr⟩ := Seg.at (r.ext (hxb.trans hx)) k hlt
   have hb6 := hl.at k hlt
   obtain ⟨x, hx9⟩ : ∃ x, x = l[k] := ⟨_, rfl⟩
   rw [← hx9] at hc hr hb6
   clear hx9
   try clear cf1
   have cf2 := blk2 (Ext.block hx HB0.out)
   go_wp2_with fail
   refine (s_FirstASn x _ _ (hr.ext (Ext.refl _))).mono ?_
   rintro e w1 ⟨q, rfl, _, hz1⟩
   cases hq : (q == a9)
   ·
    try clear cf2
    have cf3 := blk2 (Ext.block (hx.trans hz1) HB0.out)
    have cf4 := cell3_extS hz1 hc
    go_wp2_with fail
    go_roundg (gk - 1)
    case measure => have h1 := HGK.out; omega
    case rel => exact ⟨k + 1, L, by have h1 := HGK.out; omega, congrArg (Value.int .i64) (by first | omega | (unfold wrap64; omega)), hL.mono (Nat.le_succ _), Own.upTo (Own.ext ho hz1) (Nat.le_refl _), (hx.trans hz1)⟩
   ·
    try clear cf2
    have cf5 := blk2 (Ext.block (hx.trans hz1) HB0.out)
    have cf6 := cell3_extS hz1 hc
    go_wp2_with fail
    refine (s_LastAS x _ _ (hr.ext hz1)).mono ?_
    rintro e w2 ⟨q2, rfl, hz2⟩
    cases hq2 : (q2 == b9)
    ·
     try clear cf5
     try clear cf6
     have cf7 := blk2 (Ext.block ((hx.trans hz1).trans hz2) HB0.out)
     have cf8 := cell3_extS (hz1.trans hz2) hc
     go_wp2_with fail
     go_roundg (gk - 1)
     case measure => have h1 := HGK.out; omega
     case rel => exact ⟨k + 1, L, by have h1 := HGK.out; omega, congrArg (Value.int .i64) (by first | omega | (unfold wrap64; omega)), hL.mono (Nat.le_succ _), Own.upTo (Own.ext ho (hz1.trans hz2)) (Nat.le_refl _), ((hx.trans hz1).trans hz2)⟩
    ·
     try clear cf5
     try clear cf6
     have cf9 := blk2 (Ext.block ((hx.trans hz1).trans hz2) HB0.out)
     have cf10 := cell3_extS (hz1.trans hz2) hc
     go_wp2_with fail
     refine (s_l9Copy x _ _ (hr.ext (hz1.trans hz2)) (by omega)).mono ?_
     rintro e w3 ⟨vc, rfl, oc, hz3⟩
     obtain ⟨oo, co, rfl, _⟩ := (OwnF.rd (hf := Hop.flen) oc).shape
     try clear cf9
     try clear cf10
     have cf11 := blk2 (Ext.block (((hx.trans hz1).trans hz2).trans hz3) HB0.out)
     have cf12 := cell3_extS ((hz1.trans hz2).trans hz3) hc
     have HXA := Lib.hid (((hz1.trans hz2).trans hz3).alloc (.cells #[.int .i64 x.ts, .int .i64 x.beta, .slice oo x.hops.length co] 203))
     have hsc : wr.heap.size ≤ w2.heap.size := Ext.size (hz1.trans hz2)
     have hi9 := Own.mono (Own.flat Hop.f 5 Hop.flen 71) (Own.ofF (hf := Hop.flen) oc) (T := rng wr.heap.size w3.heap.size) (fun q hq => ⟨Nat.le_trans hsc hq.1, hq.2⟩)
     go_wp2_with (at_builtin; refine appN (lo := W3.heap.size) (w0 := wr) (c := Seg.c) (hc := Seg.clen) (sub := (·.hops)) (I := Own.flat Hop.f 5 Hop.flen 71) E rfl _ _ rfl x (.slice oo x.hops.length co) (rng wr.heap.size w3.heap.size) (seg_oneC _ _ _ _) rfl ho HXA.out (Own.ext (O := Own.flat Hop.f 5 Hop.flen 71) hi9 ((Ext.refl _).alloc _)) (fun q hq => ⟨hq.1, by have h1 := hq.2; simp; omega⟩) hx.size rfl (by exact blk_list (Seg.c x (.slice oo x.hops.length co)) (blk_new w3 _)) (by omega) (by unfold maxLen; omega) ?_)
     intro v' w' ho' hg' hvlo
     have hx' := (hx.trans HXA.out).grown hg' hvlo
     clear hg' hvlo hi9 ho
     try clear cf11
     try clear cf12
     go_wp2_with fail
     go_roundg (gk - 1)
     case measure => have h1 := HGK.out; omega
     case rel => exact ⟨k + 1, _, by have h1 := HGK.out; omega, congrArg (Value.int .i64) (by first | omega | (unfold wrap64; omega)), hL.snoc hb6, ho', hx'⟩
  ·
   try clear cf1
   have cf13 := blk2 (Ext.block hx HB0.out)
   go_wp2_with fail
   go_ret
   exact ⟨_, L, rfl, hL.mono (by omega), Own.mono _ ho (fun q hq => ⟨by have h1 := hq.1; omega, hq.2⟩), (hxb.trans hx)⟩

set_option maxRecDepth 100000 in
set_option maxHeartbeats 400000 in
theorem s_l9SameHops (a : List Hop) (va : Value) (b : List Hop) (vb : Value) (w : World) (ha : RdS Hop.rep w va a) (hb : RdS Hop.rep w vb b) :
  Calls Tryz.prog 265 #[va, vb] w fun e w' => e = .returned (.bool (decide (a = b))) ∧ Ext w w' := by
 obtain ⟨oa, ca, rfl, hsa⟩ := ha.shape
 obtain ⟨ob, cb, rfl, hsb⟩ := hb.shape
 by_cases hne : a.length = b.length
 ·
  have Hne := Lib.hid hne
  have t1 : ((a.length : Int) != (b.length : Int)) = false := by simp [hne]
  clear hne
  go_enter Tryz.func265, Tryz.ntmps265
  go_wp2
  go_loopw [5] (fun i wr => ∃ (k : Nat), k ≤ a.length ∧ i = .int .i64 k ∧ a.take k = b.take k ∧ Ext w wr) (fun i _ => a.length - (intOf i).toNat)
  case atStart => exact ⟨0, Nat.zero_le _, rfl, rfl, Ext.refl _⟩
  case round =>
   obtain ⟨k, hk, rfl, htk, hx⟩ := hrel
   have Htk := Lib.hid htk; clear htk
   by_cases hlt : k < a.length
   ·
    have hlb : k < b.length := by rw [← Hne.out]; exact hlt
    obtain ⟨b1, off1, rfl, hc1⟩ := Hop.at (ha.ext hx) k hlt
    obtain ⟨b2, off2, rfl, hc2⟩ := Hop.at (hb.ext hx) k hlb
    go_wp2
    go_still_tail 8, (by kernel_rfl)
    go_wp2_with fail
    all_goals first
     | (go_ret; exact ⟨ret_bool (Eq.symm (decide_eq_false (by rintro rfl; contradiction))), hx.drew⟩)
     | exact ⟨⟨k + 1, by omega, by go_num, take_snoc2 Htk.out hlt hlb (Hop.ext' (by assumption) (by assumption) (by assumption) (by assumption) (by assumption)), hx.drew⟩, by simp [intOf]; omega⟩
   ·
    have hab : decide (a = b) = true := by
     have := Htk.out
     rw [List.take_of_length_le (by omega), List.take_of_length_le (by rw [← Hne.out]; omega)] at this
     simp [this]
    have Hab := Lib.hid hab; clear hab
    go_wp2
    go_ret
    exact ⟨ret_bool Hab.out.symm, hx⟩
 ·
  have t1 : ((a.length : Int) != (b.length : Int)) = true := by simp [bne_iff_ne]; omega
  have hab : decide (a = b) = false := by
   rw [decide_eq_false_iff_not]; rintro rfl; exact hne rfl
  have Hab := Lib.hid hab; clear hab
  clear hne
  go_enter Tryz.func265, Tryz.ntmps265
  go_wp2
  go_ret
  exact ⟨ret_bool Hab.out.symm, Ext.refl _⟩

set_option maxRecDepth 100000 in
set_option maxHeartbeats 1000000 in
theorem s_EqualSegments (a b : Seg) (va vb : Value) (w : World) (ra : RdS Hop.rep w va a.hops) (rb : RdS Hop.rep w vb b.hops) :
  Calls Tryz.prog 263 #[.agg #[.int .i64 a.ts, .int .i64 a.beta, va], .agg #[.int .i64 b.ts, .int .i64 b.beta, vb]] w fun e w' => ∃ q : Bool, e = .returned (.bool q) ∧ Ext w w' := by
 obtain ⟨oa, ca, rfl, _⟩ := ra.shape
 obtain ⟨ob, cb, rfl, _⟩ := rb.shape
 have hx0 := ext2 w (.cells #[.int .i64 a.ts, .int .i64 a.beta, .slice oa a.hops.length ca] 203) (.cells #[.int .i64 b.ts, .int .i64 b.beta, .slice ob b.hops.length cb] 203)
 have HB0 := Lib.hid (al2 w (.cells #[.int .i64 a.ts, .int .i64 a.beta, .slice oa a.hops.length ca] 203) (.cells #[.int .i64 b.ts, .int .i64 b.beta, .slice ob b.hops.length cb] 203))
 go_enter Tryz.func263, Tryz.ntmps263
 cases b1 : (a.ts == b.ts)
 ·
  have cf1 := blk3 HB0.out.1
  have cf2 := blk3 HB0.out.2
  go_wp2_with fail
  go_ret
  exact ⟨_, rfl, hx0⟩
 ·
  cases b2 : (a.beta == b.beta)
  ·
   have cf3 := blk3 HB0.out.1
   have cf4 := blk3 HB0.out.2
   go_wp2_with fail
   go_ret
   exact ⟨_, rfl, hx0⟩
  ·
   have cf5 := blk3 HB0.out.1
   have cf6 := blk3 HB0.out.2
   go_wp2_with fail
   refine (s_l9SameHops a.hops _ b.hops _ _ (ra.ext hx0) (rb.ext hx0)).mono ?_
   rintro e w1 ⟨rfl, hz1⟩
   try clear cf5
   try clear cf6
   have cf7 := blk3 (Ext.block hz1 HB0.out.1)
   have cf8 := blk3 (Ext.block hz1 HB0.out.2)
   go_wp2_with fail
   go_ret
   exact ⟨_, rfl, (hx0.trans hz1)⟩

set_option maxRecDepth 100000 in
set_option maxHeartbeats 2000000 in
theorem s_l16Has (l : List Seg) (v : Value) (s : Seg) (vs : Value) (w : World) (r : RdS Seg.rep w v l) (rs : RdS Hop.rep w vs s.hops) :
  Calls Tryz.prog 260 #[v, .agg #[.int .i64 s.ts, .int .i64 s.beta, vs]] w fun e w' => ∃ q : Bool, e = .returned (.bool q) ∧ Ext w w' := by
 obtain ⟨o, cap, rfl, hsm⟩ := r.shape
 obtain ⟨os, cs, rfl, _⟩ := rs.shape
 have hx0 : Ext w (w.alloc (.cells #[.int .i64 s.ts, .int .i64 s.beta, .slice os s.hops.length cs] 203)) := (Ext.refl _).alloc _
 have HB0 := Lib.hid (blk_new w (.cells #[.int .i64 s.ts, .int .i64 s.beta, .slice os s.hops.length cs] 203))
 go_enter Tryz.func260, Tryz.ntmps260
 have cf1 := blk3 HB0.out
 go_wp2_with fail
 go_loopg [5] l.length (fun gk i wr => ∃ k : Nat, gk + k = l.length ∧ i = .int .i64 k ∧ Ext ((w.alloc (.cells #[.int .i64 s.ts, .int .i64 s.beta, .slice os s.hops.length cs] 203))) wr)
 case atStart => exact ⟨0, by omega, rfl, Ext.refl _⟩
 case round =>
  obtain ⟨k, hgk, rfl, hx⟩ := hrel
  have HGK := Lib.hid hgk
  clear hgk
  have hkl : k ≤ l.length := by have h1 := HGK.out; omega
  by_cases hlt : k < l.length
  ·
   obtain ⟨b, off, oh, ch, rfl, hc, hr⟩ := Seg.at (r.ext (hx0.trans hx)) k hlt
   obtain ⟨x, hx9⟩ : ∃ x, x = l[k] := ⟨_, rfl⟩
   rw [← hx9] at hc hr
   clear hx9
   try clear cf1
   have cf2 := blk3 (Ext.block hx HB0.out)
   go_wp2_with fail
   refine planStep (.blk [0, 1, 2, 3, 4] (.one 5 .done)) [] (by kernel_rfl) (by kernel_rfl) ?_
   try clear cf2
   have cf3 := blk3 (Ext.block (hx.trans ((Ext.refl _).drew)) HB0.out)
   have cf4 := cell3_extS ((Ext.refl _).drew) hc
   refine blkStep (fun K HK => ?_)
   simp only [PK]
   go_wp2_with fail
   refine HK.out _ _ ?_
   clear HK K
   refine oneStep (fun K HK => ?_)
   simp only [PK]
   go_wp2_with fail
   refine (s_EqualSegments x s _ _ _ (hr.ext ((Ext.refl _).drew)) (rs.ext ((hx0.trans hx).trans ((Ext.refl _).drew)))).mono ?_
   rintro e w1 ⟨q, rfl, hz1⟩
   try clear cf3
   try clear cf4
   have cf5 := blk3 (Ext.block ((hx.trans ((Ext.refl _).drew)).trans hz1) HB0.out)
   have cf6 := cell3_extS (((Ext.refl _).drew).trans hz1) hc
   go_wp2_with fail
   refine HK.out _ _ hz1 ?_
   clear HK K
   refine doneStep (by kernel_rfl) ?_
   cases q
   case false =>
    go_wp2_with fail
    go_roundg (gk - 1)
    case measure => have h1 := HGK.out; omega
    case rel => exact ⟨k + 1, by have h1 := HGK.out; omega, congrArg (Value.int .i64) (by first | omega | (unfold wrap64; omega)), ((hx.trans ((Ext.refl _).drew)).trans hz1)⟩
   case true =>
    go_wp2_with fail
    go_ret
    exact ⟨_, rfl, (((hx0.trans hx).trans ((Ext.refl _).drew)).trans hz1)⟩
  ·
   try clear cf1
   have cf7 := blk3 (Ext.block hx HB0.out)
   go_wp2_with fail
   go_ret
   exact ⟨_, rfl, (hx0.trans hx)⟩

set_option maxRecDepth 100000 in
set_option maxHeartbeats 2000000 in
theorem s_HasSegment (D C : List Seg) (vd vc : Value) (s : Seg) (vs : Value) (w : World) (rd : RdS Seg.rep w vd D) (rc : RdS Seg.rep w vc C) (rs : RdS Hop.rep w vs s.hops) :
  Calls Tryz.prog 244 #[.agg #[vd, vc], .agg #[.int .i64 s.ts, .int .i64 s.beta, vs]] w fun e w' => ∃ q : Bool, e = .returned (.bool q) ∧ Ext w w' := by
 have hx0 := ext2 w (.cells #[vd, vc] 174) (.cells #[.int .i64 s.ts, .int .i64 s.beta, vs] 203)
 have HB0 := Lib.hid (al2 w (.cells #[vd, vc] 174) (.cells #[.int .i64 s.ts, .int .i64 s.beta, vs] 203))
 go_enter Tryz.func244, Tryz.ntmps244
 have cf1 := blk2 HB0.out.1
 have cf2 := blk3 HB0.out.2
 go_wp2_with fail
 refine (s_l16Has D _ s _ _ (rd.ext hx0) (rs.ext hx0)).mono ?_
 rintro e w1 ⟨q, rfl, hz1⟩
 cases q
 case false =>
  try clear cf1
  try clear cf2
  have cf3 := blk2 (Ext.block hz1 HB0.out.1)
  have cf4 := blk3 (Ext.block hz1 HB0.out.2)
  go_wp2_with fail
  refine (s_l16Has C _ s _ _ (rc.ext (hx0.trans hz1)) (rs.ext (hx0.trans hz1))).mono ?_
  rintro e w2 ⟨q, rfl, hz2⟩
  try clear cf3
  try clear cf4
  have cf5 := blk2 (Ext.block (hz1.trans hz2) HB0.out.1)
  have cf6 := blk3 (Ext.block (hz1.trans hz2) HB0.out.2)
  go_wp2_with fail
  go_ret
  exact ⟨_, rfl, ((hx0.trans hz1).trans hz2)⟩
 case true =>
  try clear cf1
  try clear cf2
  have cf7 := blk2 (Ext.block hz1 HB0.out.1)
  have cf8 := blk3 (Ext.block hz1 HB0.out.2)
  go_wp2_with fail
  go_ret
  exact ⟨_, rfl, (hx0.trans hz1)⟩

set_option maxRecDepth 100000 in
set_option maxHeartbeats 2000000 in
theorem s_l23Index (s : Seg) (v : Value) (r9 : Int) (w : World) (r : RdS Hop.rep w v s.hops) (hl : s.hops.length ≤ 1000) :
  Calls Tryz.prog 247 #[.agg #[.int .i64 s.ts, .int .i64 s.beta, v], .int .i64 r9] w fun e w' => ∃ n : Int, e = .returned (.int .i64 n) ∧ Ext w w' := by
 obtain ⟨o, cap, rfl, hsm⟩ := r.shape
 have hx0 : Ext w (w.alloc (.cells #[.int .i64 s.ts, .int .i64 s.beta, .slice o s.hops.length cap] 203)) := (Ext.refl _).alloc _
 have HB0 := Lib.hid (blk_new w (.cells #[.int .i64 s.ts, .int .i64 s.beta, .slice o s.hops.length cap] 203))
 go_enter Tryz.func247, Tryz.ntmps247
 have cf1 := blk3 HB0.out
 go_wp2_with fail
 go_loopg [5] s.hops.length (fun gk i wr => ∃ k : Nat, gk + k = s.hops.length ∧ i = .int .i64 k ∧ Ext ((w.alloc (.cells #[.int .i64 s.ts, .int .i64 s.beta, .slice o s.hops.length cap] 203))) wr)
 case atStart => exact ⟨0, by omega, rfl, Ext.refl _⟩
 case round =>
  obtain ⟨k, hgk, rfl, hx⟩ := hrel
  have HGK := Lib.hid hgk
  clear hgk
  have hkl : k ≤ s.hops.length := by have h1 := HGK.out; omega
  by_cases hlt : k < s.hops.length
  ·
   obtain ⟨b, off, rfl, hc⟩ := Hop.at (r.ext (hx0.trans hx)) k hlt
   obtain ⟨x, hx9⟩ : ∃ x, x = s.hops[k] := ⟨_, rfl⟩
   rw [← hx9] at hc
   clear hx9
   cases hq : (x.asn == r9)
   ·
    try clear cf1
    have cf2 := blk3 (Ext.block hx HB0.out)
    go_wp2_with fail
    go_roundg (gk - 1)
    case measure => have h1 := HGK.out; omega
    case rel => exact ⟨k + 1, by have h1 := HGK.out; omega, congrArg (Value.int .i64) (by first | omega | (unfold wrap64; omega)), hx⟩
   ·
    try clear cf1
    have cf3 := blk3 (Ext.block hx HB0.out)
    go_wp2_with fail
    go_ret
    exact ⟨_, rfl, (hx0.trans hx)⟩
  ·
   try clear cf1
   have cf4 := blk3 (Ext.block hx HB0.out)
   go_wp2_with fail
   go_ret
   exact ⟨_, rfl, (hx0.trans hx)⟩

end Go.Proofs.YtcpfmhgfaliemaaGreat
