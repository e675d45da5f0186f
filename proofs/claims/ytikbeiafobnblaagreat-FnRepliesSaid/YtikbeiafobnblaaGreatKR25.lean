/- What these laws need: FnForwards, FnHopsPassed, FnReplies: Contracts of the tests of packets, program and reference. Contracts of going on to the next hop, of its time, and of the check of a hop, program and reference. Contracts of the check of a hop and of what becomes of a packet at an AS, program and reference. -/
import Derived.Test.YtikbeiafobnblaaGreatKR23
namespace Go.Proofs.YtikbeiafobnblaaGreat
section
open Go.ChangeShapes Go.WideShapes Go.ChangeAt Go.RowKit Go.Deep
theorem hopsEnc_len {l : List Hop} (h : ¬ l.length ≤ 8) : hopsEnc l = false := by unfold hopsEnc; rw [decide_eq_false h]; rfl
theorem hopsEnc_no {l : List Hop} {k : Nat} (hk : k < l.length) (h : validHop l[k] = false) : hopsEnc l = false := by
 unfold hopsEnc; rw [show l.all validHop = false from List.all_eq_false.2 ⟨l[k], List.getElem_mem _, by rw [h]; decide⟩]; simp
theorem hopsEnc_yes {l : List Hop} (h : l.length ≤ 8) (h2 : (l.take l.length).all validHop = true) : hopsEnc l = true := by
 unfold hopsEnc; rw [List.take_length] at h2; rw [h2, decide_eq_true h]; rfl
theorem all_snocB {α : Type} {p : α → Bool} {l : List α} {k : Nat} (hk : k < l.length) (h : (l.take k).all p = true) (h2 : p l[k] = true) : (l.take (k + 1)).all p = true := by
 rw [List.take_succ_eq_append_getElem hk, List.all_append, h]; simp [h2]
theorem encPath_len {p : Pth} (h : ¬ p.parts.length ≤ 3) : encPath p = false := by unfold encPath; rw [decide_eq_false h]; rfl
theorem encPath_no {p : Pth} {k : Nat} (hk : k < p.parts.length) (h : encPart p.parts[k] = false) : encPath p = false := by
 unfold encPath; rw [show p.parts.all encPart = false from List.all_eq_false.2 ⟨p.parts[k], List.getElem_mem _, by rw [h]; decide⟩]; simp
theorem encPath_yes {p : Pth} (h : p.parts.length ≤ 3) (h2 : (p.parts.take p.parts.length).all encPart = true) : encPath p = true := by
 unfold encPath; rw [List.take_length] at h2; rw [h2, decide_eq_true h]; rfl
def pktTail (x : Pkt) : Bool := inR x.src 0 7 && inR x.dst 0 7 && inR x.rid 0 100000 && inR x.seq 0 100000 && decide (x.pay.length ≤ 40)
def partsFull (l : List Part) : Bool := l.all (fun y => decide (0 < y.hops.length))
theorem validPkt_eq (x : Pkt) : validPkt x = (inR x.kind 1 3 && encPath x.path && hasHop x && isRes x.beta && partsFull x.path.parts && pktTail x) := by
 unfold validPkt partsFull pktTail; simp only [Bool.and_assoc]
theorem enc_curAs {x : Pkt} (he : encPath x.path = true) : hasHop x = decide (0 ≤ curAs x) := by
 cases hh : hasHop x
 ·
  have : curAs x = -1 := by unfold curAs; rw [hh]; rfl
  rw [this]; rfl
 ·
  have e1 : curAs x = (curHop x).asn := by unfold curAs; rw [hh]; rfl
  obtain ⟨⟨p0, p1, p2⟩, q0, q1, q2⟩ := hasHop_parts hh
  have h1 : encPart (curPart x) = true := by
   unfold encPath at he
   simp only [Bool.and_eq_true, List.all_eq_true] at he
   rw [curPart_at p2]; exact he.2 _ (List.getElem_mem _)
  have h2 : validHop (curHop x) = true := by
   unfold encPart hopsEnc at h1
   simp only [Bool.and_eq_true, List.all_eq_true] at h1
   rw [curHop_at q2]; exact h1.2.2 _ (List.getElem_mem _)
  unfold validHop at h2
  simp only [Bool.and_eq_true] at h2
  have := inR_true.1 h2.1.1.1.1.1
  rw [e1, decide_eq_true (by omega)]
theorem partsFull_no {l : List Part} {k : Nat} (hk : k < l.length) (h : ¬ 0 < l[k].hops.length) : partsFull l = false := List.all_eq_false.2 ⟨l[k], List.getElem_mem _, by rw [decide_eq_false h]; decide⟩
set_option maxRecDepth 100000 in
set_option maxHeartbeats 4000000 in
theorem i_CurrentAS (x : Pkt) (v0 v1 : Value) (w : World) (r0 : RdS Part.rep w v0 x.path.parts) :
  Calls Tryz.prog 92 #[.agg #[.int .i64 x.kind, .int .i64 x.src, .int .i64 x.dst, v0, .int .i64 x.pi, .int .i64 x.hi, .int .i64 x.beta, .int .i64 x.rid, .int .i64 x.seq, v1]] w fun e w' => e = .returned (.int .i64 (curAs x)) ∧ Ext w w' := by
 obtain ⟨o, cap, rfl, hsm⟩ := r0.shape
 have hx0 : Ext w (w.alloc (.cells #[.int .i64 x.kind, .int .i64 x.src, .int .i64 x.dst, .slice o x.path.parts.length cap, .int .i64 x.pi, .int .i64 x.hi, .int .i64 x.beta, .int .i64 x.rid, .int .i64 x.seq, v1] 28)) := (Ext.refl _).alloc _
 have HB0 := Lib.hid (blk_new w (.cells #[.int .i64 x.kind, .int .i64 x.src, .int .i64 x.dst, .slice o x.path.parts.length cap, .int .i64 x.pi, .int .i64 x.hi, .int .i64 x.beta, .int .i64 x.rid, .int .i64 x.seq, v1] 28))
 go_enter Tryz.func92, Tryz.ntmps92
 have cf1 := blk10 HB0.out
 go_wp2_with fail
 refine (i_hasHop x _ _ _ (r0.ext hx0)).mono ?_
 rintro e w1 ⟨rfl, hz1⟩
 cases b1 : hasHop x
 ·
  have HE := Lib.hid (show curAs x = -1 by unfold curAs; rw [b1]; rfl)
  try clear cf1
  have cf2 := blk10 (Ext.block hz1 HB0.out)
  go_wp2_with fail
  go_ret
  exact ⟨ret_int HE.out.symm, (hx0.trans hz1)⟩
 ·
  obtain ⟨⟨p0, p1, p2⟩, q0, q1, q2⟩ := hasHop_parts b1
  have hcp := curPart_at p2
  obtain ⟨b, off, oh, ch, rfl, hc, hr⟩ := Part.at (r0.ext (hx0.trans hz1)) x.pi.toNat p2
  rw [← hcp] at hc hr
  clear hcp
  have hch := curHop_at q2
  obtain ⟨b3, off3, rfl, ht⟩ := Hop.at hr x.hi.toNat q2
  rw [← hch] at ht
  have HE := Lib.hid (show curAs x = (curHop x).asn by unfold curAs; rw [b1]; rfl)
  clear hch
  try clear cf1
  have cf3 := blk10 (Ext.block hz1 HB0.out)
  go_wp2_with fail
  refine wp_region_ext (by kernel_rfl) (by kernel_rfl) ?_
  have q0 := ExtW.cell (cf3.1)
  have q1 := ExtW.cell (cf3.2.1)
  have q2 := ExtW.cell (cf3.2.2.1)
  have q3 := ExtW.cell (cf3.2.2.2.1)
  have q4 := ExtW.cell (cf3.2.2.2.2.1)
  have q5 := ExtW.cell (cf3.2.2.2.2.2.1)
  have q6 := ExtW.cell (cf3.2.2.2.2.2.2.1)
  have q7 := ExtW.cell (cf3.2.2.2.2.2.2.2.1)
  have q8 := ExtW.cell (cf3.2.2.2.2.2.2.2.2.1)
  have q9 := ExtW.cell (cf3.2.2.2.2.2.2.2.2.2)
  have q10 := ExtW.cell (hc.1)
  have q11 := ExtW.cell (hc.2.1)
  have q12 := ExtW.cell (hc.2.2.1)
  have q13 := ExtW.cell (hc.2.2.2)
  have q14 := ExtW.cell (ht.1)
  have q15 := ExtW.cell (ht.2.1)
  have q16 := ExtW.cell (ht.2.2.1)
  have q17 := ExtW.cell (ht.2.2.2.1)
  have q18 := ExtW.cell (ht.2.2.2.2)
  repeat (first | go_big_quiet_step ((fail)) | quiet_step ((fail)))
  refine wpQuiet_nil ?_
  intro w2 hw2
  have hz2 := ExtW.out hw2
  clear hw2 q0 q1 q2 q3 q4 q5 q6 q7 q8 q9 q10 q11 q12 q13 q14 q15 q16 q17 q18
  try clear cf3
  have cf4 := blk10 (Ext.block (hz1.trans hz2) HB0.out)
  have cf5 := Part.at_ext hz2 hc
  have cf6 := hopc_ext hz2 ht
  go_wp2_with fail
  go_ret
  exact ⟨ret_int HE.out.symm, ((hx0.trans hz1).trans hz2)⟩
set_option maxRecDepth 100000 in
set_option maxHeartbeats 4000000 in
theorem i_lastOfPart (x : Pkt) (v0 v1 : Value) (w : World) (r0 : RdS Part.rep w v0 x.path.parts) (hp0 : 0 ≤ x.pi) (hp1 : x.pi.toNat < x.path.parts.length) :
  Calls Tryz.prog 131 #[.agg #[.int .i64 x.kind, .int .i64 x.src, .int .i64 x.dst, v0, .int .i64 x.pi, .int .i64 x.hi, .int .i64 x.beta, .int .i64 x.rid, .int .i64 x.seq, v1]] w fun e w' => e = .returned (.bool (lastOf x)) ∧ Ext w w' := by
 obtain ⟨o, cap, rfl, hsm⟩ := r0.shape
 have hx0 : Ext w (w.alloc (.cells #[.int .i64 x.kind, .int .i64 x.src, .int .i64 x.dst, .slice o x.path.parts.length cap, .int .i64 x.pi, .int .i64 x.hi, .int .i64 x.beta, .int .i64 x.rid, .int .i64 x.seq, v1] 28)) := (Ext.refl _).alloc _
 have HB0 := Lib.hid (blk_new w (.cells #[.int .i64 x.kind, .int .i64 x.src, .int .i64 x.dst, .slice o x.path.parts.length cap, .int .i64 x.pi, .int .i64 x.hi, .int .i64 x.beta, .int .i64 x.rid, .int .i64 x.seq, v1] 28))
 go_enter Tryz.func131, Tryz.ntmps131
 have hcp := curPart_at hp1
 obtain ⟨b, off, oh, ch, rfl, hc, hr⟩ := Part.at (r0.ext hx0) x.pi.toNat hp1
 rw [← hcp] at hc hr
 clear hcp
 have hp2 : x.pi < (x.path.parts.length : Int) := by omega
 obtain ⟨oh', ch', eh, hhl⟩ := hr.shape
 have hhl2 : (curPart x).hops.length ≤ 9223372036854775807 := hhl
 clear eh hhl
 have hw2 : IntKind.i64.wrap (((curPart x).hops.length : Int) - 1) = ((curPart x).hops.length : Int) - 1 := IntWalk.i64_in _ (by omega)
 have HE := Lib.hid (show lastOf x = (x.hi == ((curPart x).hops.length : Int) - 1) from rfl)
 have cf1 := blk10 HB0.out
 go_wp2_with fail
 refine wp_region_ext (by kernel_rfl) (by kernel_rfl) ?_
 have q0 := ExtW.cell (cf1.1)
 have q1 := ExtW.cell (cf1.2.1)
 have q2 := ExtW.cell (cf1.2.2.1)
 have q3 := ExtW.cell (cf1.2.2.2.1)
 have q4 := ExtW.cell (cf1.2.2.2.2.1)
 have q5 := ExtW.cell (cf1.2.2.2.2.2.1)
 have q6 := ExtW.cell (cf1.2.2.2.2.2.2.1)
 have q7 := ExtW.cell (cf1.2.2.2.2.2.2.2.1)
 have q8 := ExtW.cell (cf1.2.2.2.2.2.2.2.2.1)
 have q9 := ExtW.cell (cf1.2.2.2.2.2.2.2.2.2)
 have q10 := ExtW.cell (hc.1)
 have q11 := ExtW.cell (hc.2.1)
 have q12 := ExtW.cell (hc.2.2.1)
 have q13 := ExtW.cell (hc.2.2.2)
 repeat (first | go_big_quiet_step ((fail)) | quiet_step ((fail)))
 refine wpQuiet_nil ?_
 intro w1 hw1
 have hz1 := ExtW.out hw1
 clear hw1 q0 q1 q2 q3 q4 q5 q6 q7 q8 q9 q10 q11 q12 q13
 clear hw2
 try clear cf1
 have cf2 := blk10 (Ext.block hz1 HB0.out)
 have cf3 := Part.at_ext hz1 hc
 go_wp2_with fail
 go_ret
 exact ⟨ret_bool HE.out.symm, (hx0.trans hz1)⟩
set_option maxRecDepth 100000 in
set_option maxHeartbeats 4000000 in
theorem i_AtLastHop (x : Pkt) (v0 v1 : Value) (w : World) (r0 : RdS Part.rep w v0 x.path.parts) :
  Calls Tryz.prog 94 #[.agg #[.int .i64 x.kind, .int .i64 x.src, .int .i64 x.dst, v0, .int .i64 x.pi, .int .i64 x.hi, .int .i64 x.beta, .int .i64 x.rid, .int .i64 x.seq, v1]] w fun e w' => e = .returned (.bool (atLast x)) ∧ Ext w w' := by
 obtain ⟨o, cap, rfl, hsm⟩ := r0.shape
 have hx0 : Ext w (w.alloc (.cells #[.int .i64 x.kind, .int .i64 x.src, .int .i64 x.dst, .slice o x.path.parts.length cap, .int .i64 x.pi, .int .i64 x.hi, .int .i64 x.beta, .int .i64 x.rid, .int .i64 x.seq, v1] 28)) := (Ext.refl _).alloc _
 have HB0 := Lib.hid (blk_new w (.cells #[.int .i64 x.kind, .int .i64 x.src, .int .i64 x.dst, .slice o x.path.parts.length cap, .int .i64 x.pi, .int .i64 x.hi, .int .i64 x.beta, .int .i64 x.rid, .int .i64 x.seq, v1] 28))
 go_enter Tryz.func94, Tryz.ntmps94
 have cf1 := blk10 HB0.out
 go_wp2_with fail
 refine (i_CurrentAS x _ _ _ (r0.ext hx0)).mono ?_
 rintro e w1 ⟨rfl, hz1⟩
 by_cases b0 : 0 ≤ curAs x
 ·
  obtain ⟨⟨p0, p1, p2⟩, q0, q1, q2⟩ := hasHop_parts (curAs_has (show ¬ curAs x < 0 by omega))
  try clear cf1
  have cf2 := blk10 (Ext.block hz1 HB0.out)
  go_wp2_with fail
  refine (i_lastOfPart x _ _ _ (r0.ext (hx0.trans hz1)) p0 p2).mono ?_
  rintro e w2 ⟨rfl, hz2⟩
  cases b1 : lastOf x
  ·
   have HE := Lib.hid (show atLast x = false by unfold atLast; rw [b1]; simp)
   try clear cf2
   have cf3 := blk10 (Ext.block (hz1.trans hz2) HB0.out)
   go_wp2_with fail
   go_ret
   exact ⟨ret_bool HE.out.symm, ((hx0.trans hz1).trans hz2)⟩
  ·
   have HE := Lib.hid (show atLast x = (x.pi == (x.path.parts.length : Int) - 1) by unfold atLast; rw [b1, decide_eq_true b0]; rfl)
   try clear cf2
   have cf4 := blk10 (Ext.block (hz1.trans hz2) HB0.out)
   go_wp2_with fail
   go_ret
   exact ⟨ret_bool HE.out.symm, ((hx0.trans hz1).trans hz2)⟩
 ·
  have HE := Lib.hid (show atLast x = false by unfold atLast; rw [decide_eq_false b0]; rfl)
  try clear cf1
  have cf5 := blk10 (Ext.block hz1 HB0.out)
  go_wp2_with fail
  go_ret
  exact ⟨ret_bool HE.out.symm, (hx0.trans hz1)⟩
end
section
open Go.ChangeShapes Go.WideShapes Go.ChangeAt Go.RowKit Go.Deep
theorem adv_1 {x : Pkt} (h : curAs x < 0) : advance x = x := by unfold advance; rw [decide_eq_true h]; rfl
theorem adv_2 {x : Pkt} (h : atLast x = true) : advance x = x := by unfold advance; rw [h]; simp
theorem adv_3 {x : Pkt} (h : ¬ curAs x < 0) (h2 : atLast x = false) (h3 : lastOf x = true) : advance x = { x with pi := x.pi + 1, hi := 0, beta := (partAt x.path.parts (x.pi.toNat + 1)).beta } := by
 unfold advance; rw [decide_eq_false h, h2, h3]; rfl
theorem adv_4 {x : Pkt} (h : ¬ curAs x < 0) (h2 : atLast x = false) (h3 : lastOf x = false) : advance x = { x with hi := x.hi + 1 } := by
 unfold advance; rw [decide_eq_false h, h2, h3]; rfl
theorem adv_next {x : Pkt} (h : ¬ curAs x < 0) (h2 : atLast x = false) (h3 : lastOf x = true) : x.pi.toNat + 1 < x.path.parts.length := by
 obtain ⟨⟨p0, p1, p2⟩, _⟩ := hasHop_parts (curAs_has h)
 unfold atLast at h2
 rw [decide_eq_true (show 0 ≤ curAs x by omega), h3] at h2
 have h4 : (x.pi == (x.path.parts.length : Int) - 1) = false := by simpa using h2
 rw [beq_eq_false_iff_ne] at h4
 omega
theorem curIn_1 {x : Pkt} {now : Int} (h : curAs x < 0) : curIn x now = false := by unfold curIn; rw [decide_eq_false (by omega)]; rfl
theorem curIn_2 {x : Pkt} {now : Int} (h : ¬ curAs x < 0) : curIn x now = (decide ((curPart x).ts ≤ now) && decide (now ≤ (curHop x).exp)) := by unfold curIn; rw [decide_eq_true (show 0 ≤ curAs x by omega)]; rfl
set_option maxRecDepth 100000 in
set_option maxHeartbeats 16000000 in
theorem i_AdvanceHop (x : Pkt) (v0 v1 : Value) (w : World) (r0 : RdS Part.rep w v0 x.path.parts) (r1 : RdS Rep.byte w v1 x.pay) (hl : x.size ≤ 1048576) :
  Calls Tryz.prog 17 #[.agg #[.int .i64 x.kind, .int .i64 x.src, .int .i64 x.dst, v0, .int .i64 x.pi, .int .i64 x.hi, .int .i64 x.beta, .int .i64 x.rid, .int .i64 x.seq, v1]] w fun e w' => ∃ u0 u1, e = .returned (.agg #[.int .i64 (advance x).kind, .int .i64 (advance x).src, .int .i64 (advance x).dst, u0, .int .i64 (advance x).pi, .int .i64 (advance x).hi, .int .i64 (advance x).beta, .int .i64 (advance x).rid, .int .i64 (advance x).seq, u1]) ∧ Pkt.own (rng w.heap.size w'.heap.size) w' u0 u1 (advance x) ∧ Ext w w' := by
 obtain ⟨o, cap, rfl, hsm⟩ := r0.shape
 have hx0 := ext2 w (.cells #[.int .i64 x.kind, .int .i64 x.src, .int .i64 x.dst, .slice o x.path.parts.length cap, .int .i64 x.pi, .int .i64 x.hi, .int .i64 x.beta, .int .i64 x.rid, .int .i64 x.seq, v1] 28) (.cells #[.int .i64 0, .int .i64 0, .int .i64 0, .slice none 0 0, .int .i64 0, .int .i64 0, .int .i64 0, .int .i64 0, .int .i64 0, .slice none 0 0] 28)
 have HB0 := Lib.hid (al2 w (.cells #[.int .i64 x.kind, .int .i64 x.src, .int .i64 x.dst, .slice o x.path.parts.length cap, .int .i64 x.pi, .int .i64 x.hi, .int .i64 x.beta, .int .i64 x.rid, .int .i64 x.seq, v1] 28) (.cells #[.int .i64 0, .int .i64 0, .int .i64 0, .slice none 0 0, .int .i64 0, .int .i64 0, .int .i64 0, .int .i64 0, .int .i64 0, .slice none 0 0] 28))
 go_enter Tryz.func17, Tryz.ntmps17
 have cf1 := blk10 HB0.out.1
 have cf2 := blk10 HB0.out.2
 go_wp2_with fail
 refine (i_copyPacket x _ _ _ (r0.ext hx0) (r1.ext hx0) hl).mono ?_
 rintro e w1 ⟨u0, u1, rfl, oo, hz1⟩
 obtain ⟨o1, c1, rfl, _⟩ := (Pkt.own_rd0 oo).shape
 obtain ⟨o2, c2, rfl, _⟩ := (Pkt.own_rd1 oo).shape
 have hs1 : w.heap.size + 1 + 1 ≤ w1.heap.size := by simpa using hz1.size
 have OO := Lib.hid oo; clear oo
 try clear cf1
 try clear cf2
 have cf3 := blk10 (Ext.block hz1 HB0.out.1)
 have cf4 := blk10 (Ext.block hz1 HB0.out.2)
 have hx1 : Ext w1 (w1.alloc (.cells #[.int .i64 x.kind, .int .i64 x.src, .int .i64 x.dst, (.slice o1 x.path.parts.length c1), .int .i64 x.pi, .int .i64 x.hi, .int .i64 x.beta, .int .i64 x.rid, .int .i64 x.seq, (.slice o2 x.pay.length c2)] 28)) := (Ext.refl _).alloc _
 have HB1 := Lib.hid (blk_new w1 (.cells #[.int .i64 x.kind, .int .i64 x.src, .int .i64 x.dst, (.slice o1 x.path.parts.length c1), .int .i64 x.pi, .int .i64 x.hi, .int .i64 x.beta, .int .i64 x.rid, .int .i64 x.seq, (.slice o2 x.pay.length c2)] 28))
 have cf5 := blk10 (Ext.block (hz1.trans hx1) HB0.out.1)
 have cf6 := blk10 (Ext.block (hz1.trans hx1) HB0.out.2)
 have cf7 := blk10 HB1.out
 go_wp2_with fail
 refine (i_CurrentAS x _ _ _ (r0.ext ((hx0.trans hz1).trans hx1))).mono ?_
 rintro e w2 ⟨rfl, hz2⟩
 by_cases b0 : curAs x < 0
 ·
  have hsz := (hx1.trans hz2).size
  have hso : w1.heap.size < w2.heap.size := blk_lt (Ext.block hz2 HB1.out)
  have hR := Ext.block ((hz1.trans hx1).trans hz2) HB0.out.2
  have hO := Ext.block hz2 HB1.out
  obtain ⟨wc, hwc, hrc, hcc, hsc⟩ := pk_set hR (.int .i64 x.kind) (.int .i64 x.src) (.int .i64 x.dst) ((.slice o1 x.path.parts.length c1)) (.int .i64 x.pi) (.int .i64 x.hi) (.int .i64 x.beta) (.int .i64 x.rid) (.int .i64 x.seq) ((.slice o2 x.pay.length c2))
  have HOW := Lib.hid (Pkt.own_kept (Pkt.own_ext OO.out (hx1.trans hz2)) hcc (fun b hb e => by have h1 := hb.1; have h2 := hb.2; simp at h1; omega))
  have HXX := Lib.hid ((((hx0.trans hz1).trans hx1).trans hz2).chg1 hcc (by omega))
  have HWC := Lib.hid hwc
  have HRC := Lib.hid hrc
  have hsz2 : w2.heap.size = wc.heap.size := by rw [hsc]
  have hRF := fun o => fr_of hR o
  have gr0 := hRF 0
  have gr1 := hRF 1
  have gr2 := hRF 2
  have gr3 := hRF 3
  have gr4 := hRF 4
  have gr5 := hRF 5
  have gr6 := hRF 6
  have gr7 := hRF 7
  have gr8 := hRF 8
  have gr9 := hRF 9
  clear hRF hR hO  hwc hrc hcc hsc
  try clear cf5
  try clear cf6
  try clear cf7
  have cf8 := blk10 (Ext.block ((hz1.trans hx1).trans hz2) HB0.out.1)
  have cf9 := blk10 (Ext.block ((hz1.trans hx1).trans hz2) HB0.out.2)
  have cf10 := blk10 (Ext.block hz2 HB1.out)
  go_wp2_with fail
  rw [← HWC.out]
  clear gr0 gr1 gr2 gr3 gr4 gr5 gr6 gr7 gr8 gr9 cf8 cf9 cf10
  have cc := blk10 HRC.out
  refine bodyPost_ret (v := .agg #[.int .i64 x.kind, .int .i64 x.src, .int .i64 x.dst, (.slice o1 x.path.parts.length c1), .int .i64 x.pi, .int .i64 x.hi, .int .i64 x.beta, .int .i64 x.rid, .int .i64 x.seq, (.slice o2 x.pay.length c2)]) (by simp [results, Tryz.results17, go_sem, cc]) rfl ?_
  rw [adv_1 (x := x) (by omega)]
  exact ⟨_, _, rfl, Pkt.own_mono HOW.out (fun b hb => ⟨by have h1 := hb.1; simp at h1; omega, by have h2 := hb.2; omega⟩), HXX.out⟩
 ·
  try clear cf5
  try clear cf6
  try clear cf7
  have cf11 := blk10 (Ext.block ((hz1.trans hx1).trans hz2) HB0.out.1)
  have cf12 := blk10 (Ext.block ((hz1.trans hx1).trans hz2) HB0.out.2)
  have cf13 := blk10 (Ext.block hz2 HB1.out)
  go_wp2_with fail
  refine (i_AtLastHop x _ _ _ (r0.ext (((hx0.trans hz1).trans hx1).trans hz2))).mono ?_
  rintro e w3 ⟨rfl, hz3⟩
  cases b1 : atLast x
  ·
   obtain ⟨⟨p0, p1, p2⟩, q0, q1, q2⟩ := hasHop_parts (curAs_has (x := x) (by omega))
   have hcp := curPart_at p2
   obtain ⟨b, off, oh, ch, eo, hc, hr⟩ := Part.at (r0.ext ((((hx0.trans hz1).trans hx1).trans hz2).trans hz3)) x.pi.toNat p2
   rw [← hcp] at hc hr
   clear hcp
   have hlh : (curPart x).hops.length ≤ 9223372036854775807 := by obtain ⟨_, _, _, h⟩ := hr.shape; exact h
   clear eo hc hr
   try clear cf11
   try clear cf12
   try clear cf13
   have cf14 := blk10 (Ext.block (((hz1.trans hx1).trans hz2).trans hz3) HB0.out.1)
   have cf15 := blk10 (Ext.block (((hz1.trans hx1).trans hz2).trans hz3) HB0.out.2)
   have cf16 := blk10 (Ext.block (hz2.trans hz3) HB1.out)
   go_wp2_with fail
   refine (i_lastOfPart x _ _ _ (r0.ext ((((hx0.trans hz1).trans hx1).trans hz2).trans hz3)) p0 p2).mono ?_
   rintro e w4 ⟨rfl, hz4⟩
   cases b2 : lastOf x
   ·
    have HV := Lib.hid (adv_4 (x := x) (by omega) b1 b2)
    have q3 : x.hi + 1 ≤ 9223372036854775807 := by have := hlh; omega
    have hsz := (((hx1.trans hz2).trans hz3).trans hz4).size
    have hso : w1.heap.size < w4.heap.size := blk_lt (Ext.block ((hz2.trans hz3).trans hz4) HB1.out)
    have hR := Ext.block ((((hz1.trans hx1).trans hz2).trans hz3).trans hz4) HB0.out.2
    have hO := Ext.block ((hz2.trans hz3).trans hz4) HB1.out
    obtain ⟨wq0, hwq0, hoq0, hcq0, hsq0⟩ := cell_set hO 5 (.int .i64 (x.hi + 1))
    have hrq0 := hcq0.other hR (by omega)
    obtain ⟨wc, hwc, hrc, hcc, hsc⟩ := pk_set hrq0 (.int .i64 x.kind) (.int .i64 x.src) (.int .i64 x.dst) ((.slice o1 x.path.parts.length c1)) (.int .i64 x.pi) (.int .i64 (x.hi + 1)) (.int .i64 x.beta) (.int .i64 x.rid) (.int .i64 x.seq) ((.slice o2 x.pay.length c2))
    have HOW := Lib.hid (Pkt.own_kept (Pkt.own_kept (Pkt.own_ext OO.out (((hx1.trans hz2).trans hz3).trans hz4)) hcq0 (fun b hb e => by have h1 := hb.1; have h2 := hb.2; simp at h1; omega)) hcc (fun b hb e => by have h1 := hb.1; have h2 := hb.2; simp at h1; omega))
    have hwc2 := hwc
    rw [hwq0] at hwc2
    have HXX := Lib.hid (((((((hx0.trans hz1).trans hx1).trans hz2).trans hz3).trans hz4).chg1 hcq0 (by omega)).chg1 hcc (by omega))
    have HWC := Lib.hid hwc2
    have HRC := Lib.hid hrc
    have hsz2 : w4.heap.size = wc.heap.size := by rw [hsc, hsq0]
    have hRF := fun o => fr_of hR o
    have gr0 := hRF 0
    have gr1 := hRF 1
    have gr2 := hRF 2
    have gr3 := hRF 3
    have gr4 := hRF 4
    have gr5 := hRF 5
    have gr6 := hRF 6
    have gr7 := hRF 7
    have gr8 := hRF 8
    have gr9 := hRF 9
    have hOF := fun o => fr_of hO o
    have go5 := hOF 5
    clear hOF
    clear hRF hR hO hwq0 hoq0 hcq0 hrq0 hwc2 hwc hrc hcc hsc hsq0
    try clear cf14
    try clear cf15
    try clear cf16
    have cf17 := blk10 (Ext.block ((((hz1.trans hx1).trans hz2).trans hz3).trans hz4) HB0.out.1)
    have cf18 := blk10 (Ext.block ((((hz1.trans hx1).trans hz2).trans hz3).trans hz4) HB0.out.2)
    have cf19 := blk10 (Ext.block ((hz2.trans hz3).trans hz4) HB1.out)
    go_wp2_with fail
    rw [← HWC.out]
    clear gr0 gr1 gr2 gr3 gr4 gr5 gr6 gr7 gr8 gr9 go5 cf17 cf18 cf19
    have cc := blk10 HRC.out
    refine bodyPost_ret (v := .agg #[.int .i64 x.kind, .int .i64 x.src, .int .i64 x.dst, (.slice o1 x.path.parts.length c1), .int .i64 x.pi, .int .i64 (x.hi + 1), .int .i64 x.beta, .int .i64 x.rid, .int .i64 x.seq, (.slice o2 x.pay.length c2)]) (by simp [results, Tryz.results17, go_sem, cc]) rfl ?_
    rw [HV.out]
    exact ⟨_, _, rfl, Pkt.own_mono HOW.out (fun b hb => ⟨by have h1 := hb.1; simp at h1; omega, by have h2 := hb.2; omega⟩), HXX.out⟩
   ·
    have p3 := adv_next (x := x) (by omega) b1 b2
    have p4 : (x.pi + 1).toNat < x.path.parts.length := by omega
    have HAT := Lib.hid (show (partAt x.path.parts (x.pi.toNat + 1)).beta = x.path.parts[(x.pi + 1).toNat].beta by rw [partAt_at p3]; simp only [show (x.pi + 1).toNat = x.pi.toNat + 1 by omega])
    have HV := Lib.hid ((adv_3 (x := x) (by omega) b1 b2).trans (by rw [HAT.out]))
    have p5 : x.pi + 1 < (x.path.parts.length : Int) := by omega
    have p6 : 0 ≤ x.pi + 1 := by omega
    obtain ⟨bb, ff, oh2, ch2, e2, hd0, _⟩ := Part.at r0 (x.pi + 1).toNat p4
    cases e2
    have hbo : bb < w.heap.size := World.block_lt_of_cell? w ⟨bb, ff + (x.pi + 1).toNat * 4, none⟩ hd0.1
    have hbn1 : bb ≠ w1.heap.size := by omega
    have hbn2 : w.heap.size ≠ w1.heap.size := by omega
    have hsz := (((hx1.trans hz2).trans hz3).trans hz4).size
    have hso : w1.heap.size < w4.heap.size := blk_lt (Ext.block ((hz2.trans hz3).trans hz4) HB1.out)
    have hR := Ext.block ((((hz1.trans hx1).trans hz2).trans hz3).trans hz4) HB0.out.2
    have hO := Ext.block ((hz2.trans hz3).trans hz4) HB1.out
    obtain ⟨wq0, hwq0, hoq0, hcq0, hsq0⟩ := cell_set hO 4 (.int .i64 (x.pi + 1))
    have hrq0 := hcq0.other hR (by omega)
    obtain ⟨wq1, hwq1, hoq1, hcq1, hsq1⟩ := cell_set hoq0 5 (.int .i64 0)
    have hrq1 := hcq1.other hrq0 (by omega)
    obtain ⟨wq2, hwq2, hoq2, hcq2, hsq2⟩ := cell_set hoq1 6 (.int .i64 x.path.parts[(x.pi + 1).toNat].beta)
    have hrq2 := hcq2.other hrq1 (by omega)
    obtain ⟨wc, hwc, hrc, hcc, hsc⟩ := pk_set hrq2 (.int .i64 x.kind) (.int .i64 x.src) (.int .i64 x.dst) ((.slice o1 x.path.parts.length c1)) (.int .i64 (x.pi + 1)) (.int .i64 (0)) (.int .i64 (x.path.parts[(x.pi + 1).toNat].beta)) (.int .i64 x.rid) (.int .i64 x.seq) ((.slice o2 x.pay.length c2))
    have HOW := Lib.hid (Pkt.own_kept (Pkt.own_kept (Pkt.own_kept (Pkt.own_kept (Pkt.own_ext OO.out (((hx1.trans hz2).trans hz3).trans hz4)) hcq0 (fun b hb e => by have h1 := hb.1; have h2 := hb.2; simp at h1; omega)) hcq1 (fun b hb e => by have h1 := hb.1; have h2 := hb.2; simp at h1; omega)) hcq2 (fun b hb e => by have h1 := hb.1; have h2 := hb.2; simp at h1; omega)) hcc (fun b hb e => by have h1 := hb.1; have h2 := hb.2; simp at h1; omega))
    have hwc2 := hwc
    rw [hwq2, hwq1, hwq0] at hwc2
    have HXX := Lib.hid (((((((((hx0.trans hz1).trans hx1).trans hz2).trans hz3).trans hz4).chg1 hcq0 (by omega)).chg1 hcq1 (by omega)).chg1 hcq2 (by omega)).chg1 hcc (by omega))
    have HWC := Lib.hid hwc2
    have HRC := Lib.hid hrc
    have hsz2 : w4.heap.size = wc.heap.size := by rw [hsc, hsq2, hsq1, hsq0]
    have hRF := fun o => fr_of hR o
    have gr0 := hRF 0
    have gr1 := hRF 1
    have gr2 := hRF 2
    have gr3 := hRF 3
    have gr4 := hRF 4
    have gr5 := hRF 5
    have gr6 := hRF 6
    have gr7 := hRF 7
    have gr8 := hRF 8
    have gr9 := hRF 9
    have hOF := fun o => fr_of hO o
    have go4 := hOF 4
    have go5 := hOF 5
    have go6 := hOF 6
    clear hOF
    clear hRF hR hO hwq0 hoq0 hcq0 hrq0 hwq1 hoq1 hcq1 hrq1 hwq2 hoq2 hcq2 hrq2 hwc2 hwc hrc hcc hsc hsq0 hsq1 hsq2
    try clear cf14
    try clear cf15
    try clear cf16
    have cf20 := blk10 (Ext.block ((((hz1.trans hx1).trans hz2).trans hz3).trans hz4) HB0.out.1)
    have cf21 := blk10 (Ext.block ((((hz1.trans hx1).trans hz2).trans hz3).trans hz4) HB0.out.2)
    have cf22 := blk10 (Ext.block ((hz2.trans hz3).trans hz4) HB1.out)
    have cf23 := Part.at_ext (((((hx0.trans hz1).trans hx1).trans hz2).trans hz3).trans hz4) hd0
    go_wp2_with fail
    rw [← HWC.out]
    clear gr0 gr1 gr2 gr3 gr4 gr5 gr6 gr7 gr8 gr9 go4 go5 go6 cf20 cf21 cf22 cf23
    have cc := blk10 HRC.out
    refine bodyPost_ret (v := .agg #[.int .i64 x.kind, .int .i64 x.src, .int .i64 x.dst, (.slice o1 x.path.parts.length c1), .int .i64 (x.pi + 1), .int .i64 (0), .int .i64 (x.path.parts[(x.pi + 1).toNat].beta), .int .i64 x.rid, .int .i64 x.seq, (.slice o2 x.pay.length c2)]) (by simp [results, Tryz.results17, go_sem, cc]) rfl ?_
    rw [HV.out]
    exact ⟨_, _, rfl, Pkt.own_mono HOW.out (fun b hb => ⟨by have h1 := hb.1; simp at h1; omega, by have h2 := hb.2; omega⟩), HXX.out⟩
  ·
   have hsz := ((hx1.trans hz2).trans hz3).size
   have hso : w1.heap.size < w3.heap.size := blk_lt (Ext.block (hz2.trans hz3) HB1.out)
   have hR := Ext.block (((hz1.trans hx1).trans hz2).trans hz3) HB0.out.2
   have hO := Ext.block (hz2.trans hz3) HB1.out
   obtain ⟨wc, hwc, hrc, hcc, hsc⟩ := pk_set hR (.int .i64 x.kind) (.int .i64 x.src) (.int .i64 x.dst) ((.slice o1 x.path.parts.length c1)) (.int .i64 x.pi) (.int .i64 x.hi) (.int .i64 x.beta) (.int .i64 x.rid) (.int .i64 x.seq) ((.slice o2 x.pay.length c2))
   have HOW := Lib.hid (Pkt.own_kept (Pkt.own_ext OO.out ((hx1.trans hz2).trans hz3)) hcc (fun b hb e => by have h1 := hb.1; have h2 := hb.2; simp at h1; omega))
   have HXX := Lib.hid (((((hx0.trans hz1).trans hx1).trans hz2).trans hz3).chg1 hcc (by omega))
   have HWC := Lib.hid hwc
   have HRC := Lib.hid hrc
   have hsz2 : w3.heap.size = wc.heap.size := by rw [hsc]
   have hRF := fun o => fr_of hR o
   have gr0 := hRF 0
   have gr1 := hRF 1
   have gr2 := hRF 2
   have gr3 := hRF 3
   have gr4 := hRF 4
   have gr5 := hRF 5
   have gr6 := hRF 6
   have gr7 := hRF 7
   have gr8 := hRF 8
   have gr9 := hRF 9
   clear hRF hR hO  hwc hrc hcc hsc
   try clear cf11
   try clear cf12
   try clear cf13
   have cf24 := blk10 (Ext.block (((hz1.trans hx1).trans hz2).trans hz3) HB0.out.1)
   have cf25 := blk10 (Ext.block (((hz1.trans hx1).trans hz2).trans hz3) HB0.out.2)
   have cf26 := blk10 (Ext.block (hz2.trans hz3) HB1.out)
   go_wp2_with fail
   rw [← HWC.out]
   clear gr0 gr1 gr2 gr3 gr4 gr5 gr6 gr7 gr8 gr9 cf24 cf25 cf26
   have cc := blk10 HRC.out
   refine bodyPost_ret (v := .agg #[.int .i64 x.kind, .int .i64 x.src, .int .i64 x.dst, (.slice o1 x.path.parts.length c1), .int .i64 x.pi, .int .i64 x.hi, .int .i64 x.beta, .int .i64 x.rid, .int .i64 x.seq, (.slice o2 x.pay.length c2)]) (by simp [results, Tryz.results17, go_sem, cc]) rfl ?_
   rw [adv_2 b1]
   exact ⟨_, _, rfl, Pkt.own_mono HOW.out (fun b hb => ⟨by have h1 := hb.1; simp at h1; omega, by have h2 := hb.2; omega⟩), HXX.out⟩
set_option maxRecDepth 100000 in
set_option maxHeartbeats 4000000 in
theorem i_CurrentHopValid (x : Pkt) (v0 v1 : Value) (now : Int) (w : World) (r0 : RdS Part.rep w v0 x.path.parts) :
  Calls Tryz.prog 19 #[.agg #[.int .i64 x.kind, .int .i64 x.src, .int .i64 x.dst, v0, .int .i64 x.pi, .int .i64 x.hi, .int .i64 x.beta, .int .i64 x.rid, .int .i64 x.seq, v1], .int .i64 now] w fun e w' => e = .returned (.bool (curIn x now)) ∧ Ext w w' := by
 obtain ⟨o, cap, rfl, hsm⟩ := r0.shape
 have hx0 : Ext w (w.alloc (.cells #[.int .i64 x.kind, .int .i64 x.src, .int .i64 x.dst, .slice o x.path.parts.length cap, .int .i64 x.pi, .int .i64 x.hi, .int .i64 x.beta, .int .i64 x.rid, .int .i64 x.seq, v1] 28)) := (Ext.refl _).alloc _
 have HB0 := Lib.hid (blk_new w (.cells #[.int .i64 x.kind, .int .i64 x.src, .int .i64 x.dst, .slice o x.path.parts.length cap, .int .i64 x.pi, .int .i64 x.hi, .int .i64 x.beta, .int .i64 x.rid, .int .i64 x.seq, v1] 28))
 go_enter Tryz.func19, Tryz.ntmps19
 have cf1 := blk10 HB0.out
 go_wp2_with fail
 refine (i_CurrentAS x _ _ _ (r0.ext hx0)).mono ?_
 rintro e w1 ⟨rfl, hz1⟩
 by_cases b0 : curAs x < 0
 ·
  have HE := Lib.hid (curIn_1 (now := now) b0)
  try clear cf1
  have cf2 := blk10 (Ext.block hz1 HB0.out)
  go_wp2_with fail
  go_ret
  exact ⟨ret_bool HE.out.symm, (hx0.trans hz1)⟩
 ·
  have HE := Lib.hid (curIn_2 (x := x) (now := now) (by omega))
  obtain ⟨⟨p0, p1, p2⟩, q0, q1, q2⟩ := hasHop_parts (curAs_has (x := x) (by omega))
  have hcp := curPart_at p2
  obtain ⟨b, off, oh, ch, rfl, hc, hr⟩ := Part.at (r0.ext (hx0.trans hz1)) x.pi.toNat p2
  rw [← hcp] at hc hr
  clear hcp
  have hch := curHop_at q2
  obtain ⟨b3, off3, rfl, ht⟩ := Hop.at hr x.hi.toNat q2
  rw [← hch] at ht
  clear hch
  try clear cf1
  have cf3 := blk10 (Ext.block hz1 HB0.out)
  have hx1 : Ext w1 (w1.alloc (.cells #[.int .i64 (curPart x).kind, .int .i64 (curPart x).ts, .int .i64 (curPart x).beta, .slice (some ⟨b3, off3, none⟩) (curPart x).hops.length ch] 47)) := (Ext.refl _).alloc _
  have HB1 := Lib.hid (blk_new w1 (.cells #[.int .i64 (curPart x).kind, .int .i64 (curPart x).ts, .int .i64 (curPart x).beta, .slice (some ⟨b3, off3, none⟩) (curPart x).hops.length ch] 47))
  by_cases b1 : (curPart x).ts ≤ now
  ·
   have B1 := Lib.hid b1
   have cf4 := blk10 (Ext.block (hz1.trans hx1) HB0.out)
   have cf5 := blk4 HB1.out
   have cf6 := Part.at_ext hx1 hc
   have cf7 := hopc_ext hx1 ht
   go_wp2_with fail
   refine (i_HopValidAt (curHop x) now _).mono ?_
   rintro e w2 ⟨rfl, hz2⟩
   try clear cf4
   try clear cf5
   try clear cf6
   try clear cf7
   have cf8 := blk10 (Ext.block ((hz1.trans hx1).trans hz2) HB0.out)
   have cf9 := blk4 (Ext.block hz2 HB1.out)
   have cf10 := Part.at_ext (hx1.trans hz2) hc
   have cf11 := hopc_ext (hx1.trans hz2) ht
   go_wp2_with fail
   go_ret
   exact ⟨ret_bool (by rw [HE.out, decide_eq_true B1.out]; rfl), (((hx0.trans hz1).trans hx1).trans hz2)⟩
  ·
   have B1 := Lib.hid b1
   have cf12 := blk10 (Ext.block (hz1.trans hx1) HB0.out)
   have cf13 := blk4 HB1.out
   have cf14 := Part.at_ext hx1 hc
   have cf15 := hopc_ext hx1 ht
   go_wp2_with fail
   go_ret
   exact ⟨ret_bool (by rw [HE.out, decide_eq_false (by have := B1.out; omega)]; rfl), ((hx0.trans hz1).trans hx1)⟩
end
section
open Go.ChangeShapes Go.WideShapes Go.ChangeAt Go.RowKit Go.Deep
/-- A whole verdict is stored in a block. -/
theorem vd_set {w : World} {b : Nat} {x0 x1 x2 x3 x4 x5 x6 x7 x8 x9 x10 x11 : Value} {t : TypeId} (h : w.heap[b]? = some (.cells #[x0, x1, x2, x3, x4, x5, x6, x7, x8, x9, x10, x11] t (0, 0))) (y0 y1 y2 y3 y4 y5 y6 y7 y8 y9 y10 y11 : Value) :
  ∃ w5, w5 = ((((((((((((w.setCell ⟨b, 0, none⟩ y0).setCell ⟨b, 1, none⟩ y1).setCell ⟨b, 2, none⟩ y2).setCell ⟨b, 3, none⟩ y3).setCell ⟨b, 4, none⟩ y4).setCell ⟨b, 5, none⟩ y5).setCell ⟨b, 6, none⟩ y6).setCell ⟨b, 7, none⟩ y7).setCell ⟨b, 8, none⟩ y8).setCell ⟨b, 9, none⟩ y9).setCell ⟨b, 10, none⟩ y10).setCell ⟨b, 11, none⟩ y11) ∧ w5.heap[b]? = some (.cells #[y0, y1, y2, y3, y4, y5, y6, y7, y8, y9, y10, y11] t (0, 0)) ∧ Chg (fun i => i = b) w w5 ∧ w5.heap.size = w.heap.size := by
 refine ⟨_, rfl, by simpa using (blk_set (blk_set (blk_set (blk_set (blk_set (blk_set (blk_set (blk_set (blk_set (blk_set (blk_set (blk_set h 0 y0) 1 y1) 2 y2) 3 y3) 4 y4) 5 y5) 6 y6) 7 y7) 8 y8) 9 y9) 10 y10) 11 y11), ?_, by simp⟩
 have q (o : Nat) (u : Value) {wq : World} (h : Chg (fun i => i = b) w wq) := Chg.setCell (p := ⟨b, o, none⟩) h rfl u
 exact q _ _ (q _ _ (q _ _ (q _ _ (q _ _ (q _ _ (q _ _ (q _ _ (q _ _ (q _ _ (q _ _ (q _ _ (Chg.refl _ w))))))))))))
theorem verCur_path (t : Topo) (x : Pkt) : (verCur t x).path = x.path := by unfold verCur; split <;> rfl
theorem verCur_pi (t : Topo) (x : Pkt) : (verCur t x).pi = x.pi := by unfold verCur; split <;> rfl
theorem verCur_curAs (t : Topo) (x : Pkt) : curAs (verCur t x) = curAs x := by unfold verCur; split <;> rfl
theorem curIn_ver (t : Topo) (x : Pkt) (now : Int) : curIn (verCur t x) now = curIn x now := by unfold verCur; split <;> rfl
theorem code_4 {t : Topo} {now : Int} {x : Pkt} (h : curOk t x = false) : chkCode t now x = 4 := by unfold chkCode; rw [h]; rfl
theorem code_5 {t : Topo} {now : Int} {x : Pkt} (h : curOk t x = true) (h2 : curIn x now = false) : chkCode t now x = 5 := by unfold chkCode; rw [h, h2]; rfl
theorem code_0 {t : Topo} {now : Int} {x : Pkt} (h : curOk t x = true) (h2 : curIn x now = true) : chkCode t now x = 0 := by unfold chkCode; rw [h, h2]; rfl
theorem verCur_size (t : Topo) (x : Pkt) : (verCur t x).size = x.size := by unfold verCur; split <;> rfl
end
end Go.Proofs.YtikbeiafobnblaaGreat
