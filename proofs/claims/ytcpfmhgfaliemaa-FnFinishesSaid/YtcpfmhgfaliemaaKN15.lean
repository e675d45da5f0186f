/- What these laws need: FnFinishes: Contracts of chains of residues, of comparing rows of numbers, and of keys, program and reference. Contracts of the far ends of links, of rows of hop fields and of parts, program and reference. Contracts of kinds of interfaces, of steps that are allowed, and of members of a set, program and reference. The least expiry of a row of hop fields. -/
import Derived.Deep.LoopGhost
import Derived.Test.YtcpfmhgfaliemaaKN14
namespace Go.Proofs.Ytcpfmhgfaliemaa
section
open Go.ChangeShapes Go.WideShapes Go.ChangeAt Go.RowKit Go.Deep
theorem sameExt {P : Program} {fn : FuncId} {args : Array Value} {w : World} {u : Ending} (h : Calls P fn args w fun e w' => e = u ∧ w = w') : Calls P fn args w fun e w' => e = u ∧ Ext w w' :=
 h.mono fun _ _ h => ⟨h.1, h.2 ▸ Ext.refl _⟩
set_option maxRecDepth 100000 in
set_option maxHeartbeats 1000000 in
theorem i_ChainAdd (b : Int) (l : List Int) (v : Value) (w : World) (hv : RdS Rep.int w v l) :
  Calls Try.prog 115 #[.int .i64 b, v] w fun e w' => e = .returned (.int .i64 (chainAdd b l)) ∧ w = w' := by
 obtain ⟨o, cap, rfl, hsm⟩ := hv.shape
 go_enter Try.func115, Try.ntmps115
 go_wp2
 go_loopg [0, 9] l.length (fun gk bb i wr => ∃ (k : Nat), gk + k = l.length ∧ i = .int .i64 k ∧ bb = .int .i64 (chainAdd b (l.take k)) ∧ w = wr)
 case atStart => exact ⟨0, rfl, rfl, rfl, rfl⟩
 case round =>
  obtain ⟨k, hgk, rfl, rfl, rfl⟩ := hrel
  by_cases hlt : k < l.length
  ·
   obtain ⟨b1, off, rfl, hcell⟩ := ints_at hv k hlt
   have hg0 : gk - 1 + (k + 1) = l.length ∧ gk - 1 < gk := by omega
   have HG := Lib.hid hg0; clear hg0 hgk
   have HN := Lib.hid (chainAdd_snoc (b := b) hlt)
   go_wp2_with fail
   refine (i_AddMod _ _ _).mono ?_
   rintro e w1 ⟨rfl, rfl⟩
   go_wp2_with fail
   go_roundg (gk - 1)
   case measure => exact HG.out.2
   case rel => exact ⟨k + 1, HG.out.1, by go_num, by rw [HN.out], rfl⟩
  ·
   have HE := Lib.hid (show chainAdd b (l.take k) = chainAdd b l by rw [List.take_of_length_le (by omega)])
   go_wp2_with fail
   go_ret
   exact ⟨ret_int HE.out, rfl⟩
set_option maxRecDepth 100000 in
set_option maxHeartbeats 1000000 in
theorem s_ChainAdd (b : Int) (l : List Int) (v : Value) (w : World) (hv : RdS Rep.int w v l) :
  Calls Try.prog 125 #[.int .i64 b, v] w fun e w' => e = .returned (.int .i64 (chainAdd b l)) ∧ w = w' := by
 obtain ⟨o, cap, rfl, hsm⟩ := hv.shape
 go_enter Try.func125, Try.ntmps125
 go_wp2
 go_loopg [0, 5] l.length (fun gk bb i wr => ∃ (k : Nat), gk + k = l.length ∧ i = .int .i64 k ∧ bb = .int .i64 (chainAdd b (l.take k)) ∧ w = wr)
 case atStart => exact ⟨0, rfl, rfl, rfl, rfl⟩
 case round =>
  obtain ⟨k, hgk, rfl, rfl, rfl⟩ := hrel
  by_cases hlt : k < l.length
  ·
   obtain ⟨b1, off, rfl, hcell⟩ := ints_at hv k hlt
   have hg0 : gk - 1 + (k + 1) = l.length ∧ gk - 1 < gk := by omega
   have HG := Lib.hid hg0; clear hg0 hgk
   have HN := Lib.hid (chainAdd_snoc (b := b) hlt)
   go_wp2_with fail
   refine (s_AddMod _ _ _).mono ?_
   rintro e w1 ⟨rfl, rfl⟩
   go_wp2_with fail
   go_roundg (gk - 1)
   case measure => exact HG.out.2
   case rel => exact ⟨k + 1, HG.out.1, by go_num, by rw [HN.out], rfl⟩
  ·
   have HE := Lib.hid (show chainAdd b (l.take k) = chainAdd b l by rw [List.take_of_length_le (by omega)])
   go_wp2_with fail
   go_ret
   exact ⟨ret_int HE.out, rfl⟩
end
section
open Go.ChangeShapes Go.WideShapes Go.ChangeAt Go.RowKit Go.Deep
theorem remEnd_no {t : Topo} {r d : Int} (h : linkIdx t.links r d < 0) : remEnd t r d = (-1, 0) := if_pos h
theorem remEnd_at {t : Topo} {r d : Int} (h : ¬ linkIdx t.links r d < 0) (hl : (linkIdx t.links r d).toNat < t.links.length) :
  remEnd t r d = if (t.links[(linkIdx t.links r d).toNat].a == r) && (t.links[(linkIdx t.links r d).toNat].ai == d) then (t.links[(linkIdx t.links r d).toNat].b, t.links[(linkIdx t.links r d).toNat].bi) else (t.links[(linkIdx t.links r d).toNat].a, t.links[(linkIdx t.links r d).toNat].ai) := by
 unfold remEnd; rw [if_neg h, List.getElem?_eq_getElem hl]
theorem ret_pair {a b : Int} {x : Int × Int} (h : x = (a, b)) : Ending.returned (.tuple #[.int .i64 a, .int .i64 b]) = .returned (.tuple #[.int .i64 x.1, .int .i64 x.2]) := by rw [h]
set_option maxHeartbeats 1000000 in
theorem i_RemoteEnd (t : Topo) (v1 v2 : Value) (r d : Int) (w : World) (hk : RdS Lnk.rep w v2 t.links) :
  Calls Try.prog 59 #[.agg #[v1, v2], .int .i64 r, .int .i64 d] w fun e w' => e = .returned (.tuple #[.int .i64 (remEnd t r d).1, .int .i64 (remEnd t r d).2]) ∧ Ext w w' := by
 obtain ⟨o, cap, rfl, hsm⟩ := hk.shape
 have hx0 : Ext w (w.alloc (.cells #[v1, .slice o t.links.length cap] 41)) := (Ext.refl _).alloc _
 have HB0 := Lib.hid (blk_new w (.cells #[v1, .slice o t.links.length cap] 41))
 go_enter Try.func59, Try.ntmps59
 have cf1 := blk2 HB0.out
 go_wp2_with fail
 refine (i_LinkIndex t _ _ r d _ (hk.ext hx0)).mono ?_
 rintro e w1 ⟨rfl, hz1⟩
 have hil := linkIdx_lt t.links r d
 by_cases hn : linkIdx t.links r d < 0
 ·
  have HE := Lib.hid (remEnd_no hn)
  try clear cf1
  have cf2 := blk2 (Ext.block hz1 HB0.out)
  go_wp2_with fail
  go_ret2
  exact ⟨ret_pair HE.out, (hx0.trans hz1)⟩
 ·
  have hin : (linkIdx t.links r d).toNat < t.links.length := by omega
  have HE := Lib.hid (remEnd_at hn hin)
  have hn0 : 0 ≤ linkIdx t.links r d := by omega
  obtain ⟨b, off, rfl, hc⟩ := Lnk.at (hk.ext (hx0.trans hz1)) _ hin
  generalize linkIdx t.links r d = i at *
  generalize t.links[i.toNat] = x at *
  try clear cf1
  have cf3 := blk2 (Ext.block hz1 HB0.out)
  have hx1 : Ext w1 (w1.alloc (.cells #[.int .i64 x.a, .int .i64 x.ai, .int .i64 x.b, .int .i64 x.bi, .int .i64 x.kind] 122)) := (Ext.refl _).alloc _
  have HB1 := Lib.hid (blk_new w1 (.cells #[.int .i64 x.a, .int .i64 x.ai, .int .i64 x.b, .int .i64 x.bi, .int .i64 x.kind] 122))
  cases b1 : (x.a == r) <;> cases b2 : (x.ai == d)
  all_goals
   go_wp2_with fail
   have cl := blk5 HB1.out
   refine wp_region_ext (by kernel_rfl) (by kernel_rfl) ?_
   have q0 := ExtW.cell (cl.1)
   have q1 := ExtW.cell (cl.2.1)
   have q2 := ExtW.cell (cl.2.2.1)
   have q3 := ExtW.cell (cl.2.2.2.1)
   have q4 := ExtW.cell (cl.2.2.2.2)
   repeat (first | go_big_quiet_step (fail) | quiet_step (fail))
   refine wpQuiet_nil ?_
   intro w9 hw9
   have h9 := ExtW.out hw9
   clear hw9 q0 q1 q2 q3 q4 cl
   go_wp2_with fail
   go_ret2
   exact ⟨ret_pair (by rw [HE.out, b1, b2]; rfl), ((hx0.trans hz1).trans hx1).trans h9⟩
set_option maxHeartbeats 1000000 in
theorem s_RemoteEnd (t : Topo) (v1 v2 : Value) (r d : Int) (w : World) (hk : RdS Lnk.rep w v2 t.links) :
  Calls Try.prog 86 #[.agg #[v1, v2], .int .i64 r, .int .i64 d] w fun e w' => e = .returned (.tuple #[.int .i64 (remEnd t r d).1, .int .i64 (remEnd t r d).2]) ∧ Ext w w' := by
 obtain ⟨o, cap, rfl, hsm⟩ := hk.shape
 have hx0 : Ext w (w.alloc (.cells #[v1, .slice o t.links.length cap] 41)) := (Ext.refl _).alloc _
 have HB0 := Lib.hid (blk_new w (.cells #[v1, .slice o t.links.length cap] 41))
 go_enter Try.func86, Try.ntmps86
 have cf1 := blk2 HB0.out
 go_wp2_with fail
 refine (s_LinkIndex t _ _ r d _ (hk.ext hx0)).mono ?_
 rintro e w1 ⟨rfl, hz1⟩
 have hil := linkIdx_lt t.links r d
 by_cases hn : linkIdx t.links r d < 0
 ·
  have HE := Lib.hid (remEnd_no hn)
  try clear cf1
  have cf2 := blk2 (Ext.block hz1 HB0.out)
  go_wp2_with fail
  go_ret2
  exact ⟨ret_pair HE.out, (hx0.trans hz1)⟩
 ·
  have hin : (linkIdx t.links r d).toNat < t.links.length := by omega
  have HE := Lib.hid (remEnd_at hn hin)
  have hn0 : 0 ≤ linkIdx t.links r d := by omega
  obtain ⟨b, off, rfl, hc⟩ := Lnk.at (hk.ext (hx0.trans hz1)) _ hin
  generalize linkIdx t.links r d = i at *
  generalize t.links[i.toNat] = x at *
  try clear cf1
  have cf3 := blk2 (Ext.block hz1 HB0.out)
  have hx1 : Ext w1 (w1.alloc (.cells #[.int .i64 x.a, .int .i64 x.ai, .int .i64 x.b, .int .i64 x.bi, .int .i64 x.kind] 122)) := (Ext.refl _).alloc _
  have HB1 := Lib.hid (blk_new w1 (.cells #[.int .i64 x.a, .int .i64 x.ai, .int .i64 x.b, .int .i64 x.bi, .int .i64 x.kind] 122))
  cases b1 : (x.a == r) <;> cases b2 : (x.ai == d)
  all_goals
   go_wp2_with fail
   have cl := blk5 HB1.out
   refine wp_region_ext (by kernel_rfl) (by kernel_rfl) ?_
   have q0 := ExtW.cell (cl.1)
   have q1 := ExtW.cell (cl.2.1)
   have q2 := ExtW.cell (cl.2.2.1)
   have q3 := ExtW.cell (cl.2.2.2.1)
   have q4 := ExtW.cell (cl.2.2.2.2)
   repeat (first | go_big_quiet_step (fail) | quiet_step (fail))
   refine wpQuiet_nil ?_
   intro w9 hw9
   have h9 := ExtW.out hw9
   clear hw9 q0 q1 q2 q3 q4 cl
   go_wp2_with fail
   go_ret2
   exact ⟨ret_pair (by rw [HE.out, b1, b2]; rfl), ((hx0.trans hz1).trans hx1).trans h9⟩
set_option maxRecDepth 100000 in
set_option maxHeartbeats 4000000 in
theorem i_hopsOk (t : Topo) (v1 v2 : Value) (l : List Hop) (v : Value) (w : World) (ha : RdS ASd.rep w v1 t.ases) (hv : RdS Hop.rep w v l) :
  Calls Try.prog 101 #[.agg #[v1, v2], v] w fun e w' => e = .returned (.bool (hopsOk t l)) ∧ Ext w w' := by
 obtain ⟨o, cap, rfl, hsm⟩ := hv.shape
 have hcap := hv.capLe
 have hx0 : Ext w (w.alloc (.cells #[v1, v2] 41)) := (Ext.refl _).alloc _
 have HB0 := Lib.hid (blk_new w (.cells #[v1, v2] 41))
 go_enter Try.func101, Try.ntmps101
 have cf1 := blk2 HB0.out
 go_wp2_with fail
 refine (i_InRange _ _ _ _).mono ?_
 rintro e _ ⟨rfl, rfl⟩
 cases hr : inR (l.length : Int) 1 8
 ·
  have HE := Lib.hid (show hopsOk t l = false by unfold hopsOk; rw [hr]; rfl)
  go_wp2_with fail
  go_ret
  exact ⟨ret_bool HE.out.symm, hx0⟩
 ·
  have HL := Lib.hid (show hopsOk t l = allTo (hopFresh t l) l.length by unfold hopsOk; rw [hr]; rfl)
  clear hr
  go_wp2_with fail
  go_loopg [15] l.length (fun gk i wr => ∃ k : Nat, gk + k = l.length ∧ i = .int .i64 k ∧ Hid (allTo (hopFresh t l) k = true) ∧ Ext (w.alloc (.cells #[v1, v2] 41)) wr)
  case atStart => exact ⟨0, rfl, rfl, Lib.hid rfl, Ext.refl _⟩
  case round =>
   obtain ⟨k, hgk, rfl, HK, hx⟩ := hrel
   by_cases hlt : k < l.length
   ·
    have HG := Lib.hid (show gk - 1 + (k + 1) = l.length ∧ gk - 1 < gk by omega); clear hgk
    have HAT := Lib.hid (hopAt_at hlt)
    obtain ⟨b, off, rfl, hc⟩ := Hop.at (hv.ext (hx0.trans hx)) k hlt
    try clear cf1
    have cf2 := blk2 (Ext.block hx HB0.out)
    generalize hlk : l[k] = h at *
    have HLK := Lib.hid hlk; clear hlk
    have hx1 : Ext wr (wr.alloc (.cells #[.int .i64 h.asn, .int .i64 h.ing, .int .i64 h.eg, .int .i64 h.exp, .int .i64 h.mac] 108)) := (Ext.refl _).alloc _
    have HB1 := Lib.hid (blk_new wr (.cells #[.int .i64 h.asn, .int .i64 h.ing, .int .i64 h.eg, .int .i64 h.exp, .int .i64 h.mac] 108))
    go_wp2_with fail
    refine (i_ValidHop h _).mono ?_
    rintro e w2 ⟨rfl, hz2⟩
    cases b1 : validHop h
    ·
     have HE := Lib.hid (HL.out.trans (allTo_no hlt (show hopFresh t l k = false by unfold hopFresh; rw [HAT.out]; rw [b1]; rfl)))
     have cf3 := blk2 (Ext.block ((hx.trans hx1).trans hz2) HB0.out)
     have cf4 := blk5 (Ext.block hz2 HB1.out)
     go_wp2_with fail
     go_ret
     exact ⟨ret_bool HE.out.symm, (((hx0.trans hx).trans hx1).trans hz2)⟩
    ·
     have cf5 := blk2 (Ext.block ((hx.trans hx1).trans hz2) HB0.out)
     have cf6 := blk5 (Ext.block hz2 HB1.out)
     go_wp2_with fail
     refine (i_isAS t _ _ h.asn _ (ha.ext (((hx0.trans hx).trans hx1).trans hz2))).mono ?_
     rintro e w3 ⟨rfl, hz3⟩
     cases b2 : isAs t h.asn
     ·
      have HE := Lib.hid (HL.out.trans (allTo_no hlt (show hopFresh t l k = false by unfold hopFresh; rw [HAT.out]; rw [b1, b2]; rfl)))
      try clear cf5
      try clear cf6
      have cf7 := blk2 (Ext.block (((hx.trans hx1).trans hz2).trans hz3) HB0.out)
      have cf8 := blk5 (Ext.block (hz2.trans hz3) HB1.out)
      go_wp2_with fail
      go_ret
      exact ⟨ret_bool HE.out.symm, ((((hx0.trans hx).trans hx1).trans hz2).trans hz3)⟩
     ·
      try clear cf5
      try clear cf6
      have cf9 := blk2 (Ext.block (((hx.trans hx1).trans hz2).trans hz3) HB0.out)
      have cf10 := blk5 (Ext.block (hz2.trans hz3) HB1.out)
      go_wp2_with fail
      obtain ⟨go, hgo⟩ : ∃ go : Nat, go = gk := ⟨_, rfl⟩
      subst hgo
      obtain ⟨wo, hwo⟩ : ∃ wo : World, wo = wr := ⟨_, rfl⟩
      subst hwo
      have hkc : k ≤ cap := by omega
      go_loopg [34] k (fun gk j ws => ∃ m : Nat, gk + m = k ∧ j = .int .i64 m ∧ Hid (hasI ((l.map (·.asn)).take m) h.asn = false) ∧ Ext w3 ws)
      case atStart => exact ⟨0, rfl, rfl, Lib.hid rfl, Ext.refl _⟩
      case round =>
       obtain ⟨m, hgm, rfl, HM, hy⟩ := hrel
       by_cases hmk : m < k
       ·
        have hml : m < l.length := by omega
        have HG2 := Lib.hid (show gk - 1 + (m + 1) = k ∧ gk - 1 < gk by omega); clear hgm
        obtain ⟨b2, off2, he2, hd⟩ := Hop.at (hv.ext (((((hx0.trans hx).trans hx1).trans hz2).trans hz3).trans hy)) m hml
        cases he2
        have HS := Lib.hid (any_snoc (fun x => x == h.asn) (l := l.map (·.asn)) (k := m) (by simpa using hml))
        try clear cf9
        try clear cf10
        have cf11 := blk2 (Ext.block ((((hx.trans hx1).trans hz2).trans hz3).trans hy) HB0.out)
        have cf12 := blk5 (Ext.block ((hz2.trans hz3).trans hy) HB1.out)
        have cy := blk5 (Ext.block (((hz2.trans hz3).trans hy).trans ((Ext.refl wr).alloc (.cells #[.int .i64 l[m].asn, .int .i64 l[m].ing, .int .i64 l[m].eg, .int .i64 l[m].exp, .int .i64 l[m].mac] 108))) HB1.out)
        cases b3 : (l[m].asn == h.asn)
        ·
         have HM2 := Lib.hid (show hasI ((l.map (·.asn)).take (m + 1)) h.asn = false by unfold hasI at HM ⊢; rw [HS.out, HM.out]; simpa using b3)
         go_wp2_with fail
         go_roundg (gk - 1)
         case measure => exact HG2.out.2
         case rel => exact ⟨m + 1, HG2.out.1, by go_num, HM2, hy.alloc _⟩
        ·
         have HE := Lib.hid (HL.out.trans (allTo_no hlt (show hopFresh t l k = false by unfold hopFresh; rw [HAT.out, b1, b2]; simp only [Bool.true_and, Bool.not_eq_false']; exact List.any_eq_true.2 ⟨l[m].asn, List.mem_take_iff_getElem.2 ⟨m, by simp; omega, by simp⟩, b3⟩)))
         go_wp2_with fail
         go_ret
         exact ⟨ret_bool HE.out.symm, (((((hx0.trans hx).trans hx1).trans hz2).trans hz3).trans hy).alloc _⟩
       ·
        obtain rfl : m = k := by omega
        have HK2 := Lib.hid (allTo_snoc HK.out (show hopFresh t l m = true by unfold hopFresh; rw [HAT.out, b1, b2, HM.out]; rfl))
        go_wp2
        go_roundg (go - 1)
        case measure => exact HG.out.2
        case rel => exact ⟨m + 1, HG.out.1, by go_num, HK2, ((((hx.trans hx1).trans hz2).trans hz3).trans hy)⟩
   ·
    obtain rfl : k = l.length := by omega
    have HE := Lib.hid (HL.out.trans HK.out)
    try clear cf1
    have cf13 := blk2 (Ext.block hx HB0.out)
    go_wp2_with fail
    go_ret
    exact ⟨ret_bool HE.out.symm, (hx0.trans hx)⟩
end
section
open Go.ChangeShapes Go.WideShapes Go.ChangeAt Go.RowKit Go.Deep
theorem ifKind_at {t : Topo} {r d : Int} (hd : (d == 0) = false) (h : ¬ linkIdx t.links r d < 0) (hl : (linkIdx t.links r d).toNat < t.links.length) :
  ifKind t r d = (if t.links[(linkIdx t.links r d).toNat].kind == 1 then 1 else if t.links[(linkIdx t.links r d).toNat].kind == 3 then 4 else if t.links[(linkIdx t.links r d).toNat].kind == 2 then (if (t.links[(linkIdx t.links r d).toNat].a == r) && (t.links[(linkIdx t.links r d).toNat].ai == d) then 2 else 3) else 0) := by
 unfold ifKind; rw [hd, if_neg (by decide), if_neg h, List.getElem?_eq_getElem hl]
theorem and1 (m : Int) (h0 : 0 ≤ m) (h1 : m < 9223372036854775808) : bits .and .i64 m 1 = m % 2 := by
 obtain ⟨k, rfl⟩ := Int.eq_ofNat_of_zero_le h0
 have := and_nat k 1 (by omega) (by omega)
 have h2 : k &&& 1 = k % 2 := Nat.and_two_pow_sub_one_eq_mod k 1
 rw [h2] at this
 have e : ((1 : Nat) : Int) = 1 := rfl
 rw [e] at this
 rw [this]; omega
set_option maxHeartbeats 2000000 in
theorem i_InterfaceKind (t : Topo) (v1 v2 : Value) (r d : Int) (w : World) (hk : RdS Lnk.rep w v2 t.links) :
  Calls Try.prog 104 #[.agg #[v1, v2], .int .i64 r, .int .i64 d] w fun e w' => e = .returned (.int .i64 (ifKind t r d)) ∧ Ext w w' := by
 obtain ⟨o, cap, rfl, hsm⟩ := hk.shape
 have hx0 : Ext w (w.alloc (.cells #[v1, .slice o t.links.length cap] 41)) := (Ext.refl _).alloc _
 have HB0 := Lib.hid (blk_new w (.cells #[v1, .slice o t.links.length cap] 41))
 go_enter Try.func104, Try.ntmps104
 cases b0 : (d == 0)
 ·
  have cf1 := blk2 HB0.out
  go_wp2_with fail
  refine (i_LinkIndex t _ _ r d _ (hk.ext hx0)).mono ?_
  rintro e w1 ⟨rfl, hz1⟩
  have hil := linkIdx_lt t.links r d
  by_cases hn : linkIdx t.links r d < 0
  ·
   have HE := Lib.hid (show ifKind t r d = 0 by unfold ifKind; rw [b0, if_neg (by decide), if_pos hn])
   try clear cf1
   have cf2 := blk2 (Ext.block hz1 HB0.out)
   go_wp2_with fail
   go_ret
   exact ⟨ret_int HE.out.symm, (hx0.trans hz1)⟩
  ·
   have hin : (linkIdx t.links r d).toNat < t.links.length := by omega
   have HE := Lib.hid (ifKind_at b0 hn hin)
   have hn0 : 0 ≤ linkIdx t.links r d := by omega
   obtain ⟨b, off, rfl, hc⟩ := Lnk.at (hk.ext (hx0.trans hz1)) _ hin
   generalize linkIdx t.links r d = i at *
   generalize t.links[i.toNat] = x at *
   try clear cf1
   have cf3 := blk2 (Ext.block hz1 HB0.out)
   have hxl := (hx0.trans hz1).alloc (.cells #[.int .i64 x.a, .int .i64 x.ai, .int .i64 x.b, .int .i64 x.bi, .int .i64 x.kind] 122)
   cases b1 : (x.kind == 1) <;> cases b2 : (x.kind == 3) <;> cases b3 : (x.kind == 2) <;> cases b4 : (x.a == r) <;> cases b5 : (x.ai == d)
   all_goals
    have b3' : (x.kind != 2) = !(x.kind == 2) := rfl
    rw [b3] at b3'
    first | replace b3' : (x.kind != 2) = true := b3' | replace b3' : (x.kind != 2) = false := b3'
    go_wp2_with fail
    go_ret
    exact ⟨ret_int (by rw [HE.out, b1, b2, b3, b4, b5]; rfl), hxl⟩
 ·
  have HE := Lib.hid (show ifKind t r d = 5 by unfold ifKind; rw [b0]; rfl)
  have cf4 := blk2 HB0.out
  go_wp2_with fail
  go_ret
  exact ⟨ret_int HE.out.symm, hx0⟩
set_option maxHeartbeats 2000000 in
theorem s_InterfaceKind (t : Topo) (v1 v2 : Value) (r d : Int) (w : World) (hk : RdS Lnk.rep w v2 t.links) :
  Calls Try.prog 141 #[.agg #[v1, v2], .int .i64 r, .int .i64 d] w fun e w' => e = .returned (.int .i64 (ifKind t r d)) ∧ Ext w w' := by
 obtain ⟨o, cap, rfl, hsm⟩ := hk.shape
 have hx0 : Ext w (w.alloc (.cells #[v1, .slice o t.links.length cap] 41)) := (Ext.refl _).alloc _
 have HB0 := Lib.hid (blk_new w (.cells #[v1, .slice o t.links.length cap] 41))
 go_enter Try.func141, Try.ntmps141
 cases b0 : (d == 0)
 ·
  have cf1 := blk2 HB0.out
  go_wp2_with fail
  refine (s_LinkIndex t _ _ r d _ (hk.ext hx0)).mono ?_
  rintro e w1 ⟨rfl, hz1⟩
  have hil := linkIdx_lt t.links r d
  by_cases hn : linkIdx t.links r d < 0
  ·
   have HE := Lib.hid (show ifKind t r d = 0 by unfold ifKind; rw [b0, if_neg (by decide), if_pos hn])
   try clear cf1
   have cf2 := blk2 (Ext.block hz1 HB0.out)
   go_wp2_with fail
   go_ret
   exact ⟨ret_int HE.out.symm, (hx0.trans hz1)⟩
  ·
   have hin : (linkIdx t.links r d).toNat < t.links.length := by omega
   have HE := Lib.hid (ifKind_at b0 hn hin)
   have hn0 : 0 ≤ linkIdx t.links r d := by omega
   obtain ⟨b, off, rfl, hc⟩ := Lnk.at (hk.ext (hx0.trans hz1)) _ hin
   generalize linkIdx t.links r d = i at *
   generalize t.links[i.toNat] = x at *
   try clear cf1
   have cf3 := blk2 (Ext.block hz1 HB0.out)
   have hxl := (hx0.trans hz1).alloc (.cells #[.int .i64 x.a, .int .i64 x.ai, .int .i64 x.b, .int .i64 x.bi, .int .i64 x.kind] 122)
   cases b1 : (x.kind == 1) <;> cases b2 : (x.kind == 3) <;> cases b3 : (x.kind == 2) <;> cases b4 : (x.a == r) <;> cases b5 : (x.ai == d)
   all_goals
    have b3' : (x.kind != 2) = !(x.kind == 2) := rfl
    rw [b3] at b3'
    first | replace b3' : (x.kind != 2) = true := b3' | replace b3' : (x.kind != 2) = false := b3'
    go_wp2_with fail
    go_ret
    exact ⟨ret_int (by rw [HE.out, b1, b2, b3, b4, b5]; rfl), hxl⟩
 ·
  have HE := Lib.hid (show ifKind t r d = 5 by unfold ifKind; rw [b0]; rfl)
  have cf4 := blk2 HB0.out
  go_wp2_with fail
  go_ret
  exact ⟨ret_int HE.out.symm, hx0⟩
set_option maxHeartbeats 4000000 in
theorem i_Contains (s i : Int) (w : World) :
  Calls Try.prog 88 #[.int .i64 s, .int .i64 i] w fun e w' => e = .returned (.bool (inSet s i)) ∧ w = w' := by
 go_enter Try.func88, Try.ntmps88

 go_wp2_with fail
 refine (i_ValidSet _ _).mono ?_
 rintro e w1 ⟨rfl, rfl⟩
 cases h1 : inR s 0 65535
 ·
  have HE := Lib.hid (show inSet s i = false by unfold inSet; rw [h1]; rfl)
  go_wp2_with fail
  go_ret
  exact ⟨ret_bool HE.out.symm, rfl⟩
 ·
  go_wp2_with fail
  refine (i_InRange _ _ _ _).mono ?_
  rintro e w1 ⟨rfl, rfl⟩
  cases h2 : inR i 0 15
  ·
   have HE := Lib.hid (show inSet s i = false by unfold inSet; rw [h1, h2]; rfl)
   go_wp2_with fail
   go_ret
   exact ⟨ret_bool HE.out.symm, rfl⟩
  ·
   have HE := Lib.hid (show inSet s i = bitAt s i.toNat by unfold inSet; rw [h1, h2]; rfl)
   obtain ⟨a1, a2⟩ := inR_true.1 h1
   obtain ⟨a3, a4⟩ := inR_true.1 h2
   clear h1 h2
   have hi : i = 0 ∨ i = 1 ∨ i = 2 ∨ i = 3 ∨ i = 4 ∨ i = 5 ∨ i = 6 ∨ i = 7 ∨ i = 8 ∨ i = 9 ∨ i = 10 ∨ i = 11 ∨ i = 12 ∨ i = 13 ∨ i = 14 ∨ i = 15 := by omega
   clear a3 a4
   rcases hi with rfl | rfl | rfl | rfl | rfl | rfl | rfl | rfl | rfl | rfl | rfl | rfl | rfl | rfl | rfl | rfl
   all_goals
    go_wp2_with fail
    go_ret
    exact ⟨ret_bool (by rw [HE.out]; unfold bitAt; rw [and1 _ (by omega) (by omega)]; first | rfl | simp), rfl⟩
set_option maxHeartbeats 4000000 in
theorem s_Contains (s i : Int) (w : World) :
  Calls Try.prog 95 #[.int .i64 s, .int .i64 i] w fun e w' => e = .returned (.bool (inSet s i)) ∧ w = w' := by
 go_enter Try.func95, Try.ntmps95

 go_wp2_with fail
 refine (s_ValidSet _ _).mono ?_
 rintro e w1 ⟨rfl, rfl⟩
 cases h1 : inR s 0 65535
 ·
  have HE := Lib.hid (show inSet s i = false by unfold inSet; rw [h1]; rfl)
  go_wp2_with fail
  go_ret
  exact ⟨ret_bool HE.out.symm, rfl⟩
 ·
  go_wp2_with fail
  refine (s_l4One _ _).mono ?_
  rintro e w1 ⟨rfl, rfl⟩
  cases h2 : inR i 0 15
  ·
   have HE := Lib.hid (show inSet s i = false by unfold inSet; rw [h1, h2]; rfl)
   go_wp2_with fail
   go_ret
   exact ⟨ret_bool HE.out.symm, rfl⟩
  ·
   have HE := Lib.hid (show inSet s i = bitAt s i.toNat by unfold inSet; rw [h1, h2]; rfl)
   obtain ⟨a1, a2⟩ := inR_true.1 h1
   obtain ⟨a3, a4⟩ := inR_true.1 h2
   clear h1 h2
   have hi : i = 0 ∨ i = 1 ∨ i = 2 ∨ i = 3 ∨ i = 4 ∨ i = 5 ∨ i = 6 ∨ i = 7 ∨ i = 8 ∨ i = 9 ∨ i = 10 ∨ i = 11 ∨ i = 12 ∨ i = 13 ∨ i = 14 ∨ i = 15 := by omega
   clear a3 a4
   rcases hi with rfl | rfl | rfl | rfl | rfl | rfl | rfl | rfl | rfl | rfl | rfl | rfl | rfl | rfl | rfl | rfl
   all_goals
    go_wp2_with fail
    go_ret
    exact ⟨ret_bool (by rw [HE.out]; unfold bitAt; rw [and1 _ (by omega) (by omega)]; first | rfl | simp), rfl⟩
end
section
open Go.ChangeShapes Go.WideShapes Go.ChangeAt Go.RowKit Go.Deep
theorem least_snoc {l : List Hop} {k : Nat} (hk : k < l.length) : leastExp (l.take (k + 1)) = if k = 0 ∨ l[k].exp < leastExp (l.take k) then l[k].exp else leastExp (l.take k) := by
 cases l with
 | nil => simp at hk
 | cons x l =>
  cases k with
  | zero => simp [leastExp]
  | succ k =>
   have hk' : k < l.length := by simpa using hk
   simp only [List.take_succ_cons, leastExp, List.getElem_cons_succ]
   rw [List.take_succ_eq_append_getElem hk', List.foldl_append]
   simp
set_option maxRecDepth 100000 in
set_option maxHeartbeats 2000000 in
theorem i_leastExpiry (l : List Hop) (v : Value) (w : World) (hv : RdS Hop.rep w v l) :
  Calls Try.prog 65 #[v] w fun e w' => e = .returned (.int .i64 (leastExp l)) ∧ Ext w w' := by
 obtain ⟨o, cap, rfl, hsm⟩ := hv.shape
 go_enter Try.func65, Try.ntmps65
 go_wp2
 go_loopg [3, 8] l.length (fun gk n i wr => ∃ k : Nat, gk + k = l.length ∧ i = .int .i64 k ∧ n = .int .i64 (leastExp (l.take k)) ∧ Ext w wr)
 case atStart => exact ⟨0, rfl, rfl, rfl, Ext.refl _⟩
 case round =>
  obtain ⟨k, hgk, rfl, rfl, hx⟩ := hrel
  by_cases hlt : k < l.length
  ·
   have HG := Lib.hid (show gk - 1 + (k + 1) = l.length ∧ gk - 1 < gk by omega); clear hgk
   have HS := Lib.hid (least_snoc hlt)
   obtain ⟨b, off, rfl, hc⟩ := Hop.at (hv.ext hx) k hlt
   generalize leastExp (l.take k) = m at *
   by_cases h0 : k = 0
   ·
    have h1 : ((k : Int) == 0) = true := by rw [h0]; rfl
    have HE := Lib.hid (HS.out.trans (if_pos (.inl h0)))
    clear h0
    go_wp2
    go_roundg (gk - 1)
    case measure => exact HG.out.2
    case rel => exact ⟨k + 1, HG.out.1, by go_num, by rw [HE.out], hx.alloc _⟩
   ·
    have h1 : ((k : Int) == 0) = false := by rw [beq_eq_false_iff_ne]; omega
    by_cases h2 : l[k].exp < m
    ·
     have HE := Lib.hid (HS.out.trans (if_pos (.inr h2)))
     clear h0
     go_wp2
     go_roundg (gk - 1)
     case measure => exact HG.out.2
     case rel => exact ⟨k + 1, HG.out.1, by go_num, by rw [HE.out], hx.alloc _⟩
    ·
     have HE := Lib.hid (HS.out.trans (if_neg (show ¬ (k = 0 ∨ l[k].exp < m) by omega)))
     clear h0
     go_wp2
     go_roundg (gk - 1)
     case measure => exact HG.out.2
     case rel => exact ⟨k + 1, HG.out.1, by go_num, by rw [HE.out], hx.alloc _⟩
  ·
   have HE := Lib.hid (show leastExp (l.take k) = leastExp l by rw [List.take_of_length_le (by omega)])
   generalize leastExp (l.take k) = m at *
   go_wp2_with fail
   go_ret
   exact ⟨ret_int HE.out, hx⟩
end
end Go.Proofs.Ytcpfmhgfaliemaa
