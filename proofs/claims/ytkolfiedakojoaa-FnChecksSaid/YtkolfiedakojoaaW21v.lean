/- Contracts of the far ends of links, of rows of hop fields and of parts, program and reference. No condition but the bounds that each theorem names. -/
import Derived.Test.YtkolfiedakojoaaW10v
import Derived.Test.YtkolfiedakojoaaW22
namespace Go.Proofs.Ytkolfiedakojoaa
open Go.ChangeShapes Go.WideShapes Go.ChangeAt Go.RowKit Go.Deep

theorem remEnd_no {t : Topo} {r d : Int} (h : linkIdx t.links r d < 0) : remEnd t r d = (-1, 0) := if_pos h
theorem remEnd_at {t : Topo} {r d : Int} (h : ¬ linkIdx t.links r d < 0) (hl : (linkIdx t.links r d).toNat < t.links.length) :
    remEnd t r d = if (t.links[(linkIdx t.links r d).toNat].a == r) && (t.links[(linkIdx t.links r d).toNat].ai == d) then (t.links[(linkIdx t.links r d).toNat].b, t.links[(linkIdx t.links r d).toNat].bi) else (t.links[(linkIdx t.links r d).toNat].a, t.links[(linkIdx t.links r d).toNat].ai) := by
  unfold remEnd; rw [if_neg h, List.getElem?_eq_getElem hl]
theorem ret_pair {a b : Int} {x : Int × Int} (h : x = (a, b)) : Ending.returned (.tuple #[.int .i64 a, .int .i64 b]) = .returned (.tuple #[.int .i64 x.1, .int .i64 x.2]) := by rw [h]

set_option maxHeartbeats 1000000 in
theorem i_RemoteEnd (t : Topo) (v1 v2 : Value) (r d : Int) (w : World) (hk : RdS Lnk.rep w v2 t.links) :
    Calls Try.prog 145 #[.agg #[v1, v2], .int .i64 r, .int .i64 d] w fun e w' => e = .returned (.tuple #[.int .i64 (remEnd t r d).1, .int .i64 (remEnd t r d).2]) ∧ Ext w w' := by
  obtain ⟨o, cap, rfl, hsm⟩ := hk.shape
  have hx0 : Ext w (w.alloc (.cells #[v1, .slice o t.links.length cap] 59)) := (Ext.refl _).alloc _
  have HB0 := Lib.hid (blk_new w (.cells #[v1, .slice o t.links.length cap] 59))
  go_enter Try.func145, Try.ntmps145
  have cf1 := blk2 HB0.out
  go_wp2_with fail
  refine (i_LinkIndex t _ _ r d _ (hk.ext hx0)).mono ?_
  rintro e w1 ⟨rfl, hz1⟩
  have hil := linkIdx_lt t.links r d
  by_cases hn : linkIdx t.links r d < 0
  · have HE := Lib.hid (remEnd_no hn)
    try clear cf1
    have cf2 := blk2 (Ext.block hz1 HB0.out)
    go_wp2_with fail
    go_ret2
    exact ⟨ret_pair HE.out, (hx0.trans hz1)⟩
  · have hin : (linkIdx t.links r d).toNat < t.links.length := by omega
    have HE := Lib.hid (remEnd_at hn hin)
    have hn0 : 0 ≤ linkIdx t.links r d := by omega
    obtain ⟨b, off, rfl, hc⟩ := Lnk.at (hk.ext (hx0.trans hz1)) _ hin
    generalize linkIdx t.links r d = i at *
    generalize t.links[i.toNat] = x at *
    try clear cf1
    have cf3 := blk2 (Ext.block hz1 HB0.out)
    have hx1 : Ext w1 (w1.alloc (.cells #[.int .i64 x.a, .int .i64 x.ai, .int .i64 x.b, .int .i64 x.bi, .int .i64 x.kind] 174)) := (Ext.refl _).alloc _
    have HB1 := Lib.hid (blk_new w1 (.cells #[.int .i64 x.a, .int .i64 x.ai, .int .i64 x.b, .int .i64 x.bi, .int .i64 x.kind] 174))
    cases b1 : (x.a == r) <;> cases b2 : (x.ai == d)
    all_goals
      go_wp2_with fail
      have cl := blk5 HB1.out
      refine wp_region_ext (by kernel_rfl) (by kernel_rfl) ?_
      have q0 := ExtW.cell (cl.1)
      have q1 := ExtW.cell (cl.2.1)
      have q2 := ExtW.cell (cl.2.2.1)
      have q3 := ExtW.cell (cl.2.2.2.1)
      have q4 := ExtW.cell (cl.2.2.2.2)
      repeat (first | go_big_quiet_step (fail) | quiet_step (fail))
      refine wpQuiet_nil ?_
      intro w9 hw9
      have h9 := ExtW.out hw9
      clear hw9 q0 q1 q2 q3 q4 cl
      go_wp2_with fail
      go_ret2
      exact ⟨ret_pair (by rw [HE.out, b1, b2]; rfl), ((hx0.trans hz1).trans hx1).trans h9⟩

set_option maxHeartbeats 1000000 in
theorem s_RemoteEnd (t : Topo) (v1 v2 : Value) (r d : Int) (w : World) (hk : RdS Lnk.rep w v2 t.links) :
    Calls Try.prog 160 #[.agg #[v1, v2], .int .i64 r, .int .i64 d] w fun e w' => e = .returned (.tuple #[.int .i64 (remEnd t r d).1, .int .i64 (remEnd t r d).2]) ∧ Ext w w' := by
  obtain ⟨o, cap, rfl, hsm⟩ := hk.shape
  have hx0 : Ext w (w.alloc (.cells #[v1, .slice o t.links.length cap] 59)) := (Ext.refl _).alloc _
  have HB0 := Lib.hid (blk_new w (.cells #[v1, .slice o t.links.length cap] 59))
  go_enter Try.func160, Try.ntmps160
  have cf1 := blk2 HB0.out
  go_wp2_with fail
  refine (s_LinkIndex t _ _ r d _ (hk.ext hx0)).mono ?_
  rintro e w1 ⟨rfl, hz1⟩
  have hil := linkIdx_lt t.links r d
  by_cases hn : linkIdx t.links r d < 0
  · have HE := Lib.hid (remEnd_no hn)
    try clear cf1
    have cf2 := blk2 (Ext.block hz1 HB0.out)
    go_wp2_with fail
    go_ret2
    exact ⟨ret_pair HE.out, (hx0.trans hz1)⟩
  · have hin : (linkIdx t.links r d).toNat < t.links.length := by omega
    have HE := Lib.hid (remEnd_at hn hin)
    have hn0 : 0 ≤ linkIdx t.links r d := by omega
    obtain ⟨b, off, rfl, hc⟩ := Lnk.at (hk.ext (hx0.trans hz1)) _ hin
    generalize linkIdx t.links r d = i at *
    generalize t.links[i.toNat] = x at *
    try clear cf1
    have cf3 := blk2 (Ext.block hz1 HB0.out)
    have hx1 : Ext w1 (w1.alloc (.cells #[.int .i64 x.a, .int .i64 x.ai, .int .i64 x.b, .int .i64 x.bi, .int .i64 x.kind] 174)) := (Ext.refl _).alloc _
    have HB1 := Lib.hid (blk_new w1 (.cells #[.int .i64 x.a, .int .i64 x.ai, .int .i64 x.b, .int .i64 x.bi, .int .i64 x.kind] 174))
    cases b1 : (x.a == r) <;> cases b2 : (x.ai == d)
    all_goals
      go_wp2_with fail
      have cl := blk5 HB1.out
      refine wp_region_ext (by kernel_rfl) (by kernel_rfl) ?_
      have q0 := ExtW.cell (cl.1)
      have q1 := ExtW.cell (cl.2.1)
      have q2 := ExtW.cell (cl.2.2.1)
      have q3 := ExtW.cell (cl.2.2.2.1)
      have q4 := ExtW.cell (cl.2.2.2.2)
      repeat (first | go_big_quiet_step (fail) | quiet_step (fail))
      refine wpQuiet_nil ?_
      intro w9 hw9
      have h9 := ExtW.out hw9
      clear hw9 q0 q1 q2 q3 q4 cl
      go_wp2_with fail
      go_ret2
      exact ⟨ret_pair (by rw [HE.out, b1, b2]; rfl), ((hx0.trans hz1).trans hx1).trans h9⟩

set_option maxRecDepth 100000 in
set_option maxHeartbeats 4000000 in
theorem i_hopsOk (t : Topo) (v1 v2 : Value) (l : List Hop) (v : Value) (w : World) (ha : RdS ASd.rep w v1 t.ases) (hv : RdS Hop.rep w v l) :
    Calls Try.prog 155 #[.agg #[v1, v2], v] w fun e w' => e = .returned (.bool (hopsOk t l)) ∧ Ext w w' := by
  obtain ⟨o, cap, rfl, hsm⟩ := hv.shape
  have hcap := hv.capLe
  have hx0 : Ext w (w.alloc (.cells #[v1, v2] 59)) := (Ext.refl _).alloc _
  have HB0 := Lib.hid (blk_new w (.cells #[v1, v2] 59))
  go_enter Try.func155, Try.ntmps155
  have cf1 := blk2 HB0.out
  go_wp2_with fail
  refine (i_InRange _ _ _ _).mono ?_
  rintro e _ ⟨rfl, rfl⟩
  cases hr : inR (l.length : Int) 1 8
  · have HE := Lib.hid (show hopsOk t l = false by unfold hopsOk; rw [hr]; rfl)
    go_wp2_with fail
    go_ret
    exact ⟨ret_bool HE.out.symm, hx0⟩
  · have HL := Lib.hid (show hopsOk t l = allTo (hopFresh t l) l.length by unfold hopsOk; rw [hr]; rfl)
    clear hr
    go_wp2_with fail
    go_loopg [15] l.length (fun gk i wr => ∃ k : Nat, gk + k = l.length ∧ i = .int .i64 k ∧ Hid (allTo (hopFresh t l) k = true) ∧ Ext (w.alloc (.cells #[v1, v2] 59)) wr)
    case atStart => exact ⟨0, rfl, rfl, Lib.hid rfl, Ext.refl _⟩
    case round =>
      obtain ⟨k, hgk, rfl, HK, hx⟩ := hrel
      by_cases hlt : k < l.length
      · have HG := Lib.hid (show gk - 1 + (k + 1) = l.length ∧ gk - 1 < gk by omega); clear hgk
        have HAT := Lib.hid (hopAt_at hlt)
        obtain ⟨b, off, rfl, hc⟩ := Hop.at (hv.ext (hx0.trans hx)) k hlt
        try clear cf1
        have cf2 := blk2 (Ext.block hx HB0.out)
        generalize hlk : l[k] = h at *
        have HLK := Lib.hid hlk; clear hlk
        have hx1 : Ext wr (wr.alloc (.cells #[.int .i64 h.asn, .int .i64 h.ing, .int .i64 h.eg, .int .i64 h.exp, .int .i64 h.mac] 73)) := (Ext.refl _).alloc _
        have HB1 := Lib.hid (blk_new wr (.cells #[.int .i64 h.asn, .int .i64 h.ing, .int .i64 h.eg, .int .i64 h.exp, .int .i64 h.mac] 73))
        go_wp2_with fail
        refine (i_ValidHop h _).mono ?_
        rintro e w2 ⟨rfl, hz2⟩
        cases b1 : validHop h
        · have HE := Lib.hid (HL.out.trans (allTo_no hlt (show hopFresh t l k = false by unfold hopFresh; rw [HAT.out]; rw [b1]; rfl)))
          have cf3 := blk2 (Ext.block ((hx.trans hx1).trans hz2) HB0.out)
          have cf4 := blk5 (Ext.block hz2 HB1.out)
          go_wp2_with fail
          go_ret
          exact ⟨ret_bool HE.out.symm, (((hx0.trans hx).trans hx1).trans hz2)⟩
        · have cf5 := blk2 (Ext.block ((hx.trans hx1).trans hz2) HB0.out)
          have cf6 := blk5 (Ext.block hz2 HB1.out)
          go_wp2_with fail
          refine (i_isAS t _ _ h.asn _ (ha.ext (((hx0.trans hx).trans hx1).trans hz2))).mono ?_
          rintro e w3 ⟨rfl, hz3⟩
          cases b2 : isAs t h.asn
          · have HE := Lib.hid (HL.out.trans (allTo_no hlt (show hopFresh t l k = false by unfold hopFresh; rw [HAT.out]; rw [b1, b2]; rfl)))
            try clear cf5
            try clear cf6
            have cf7 := blk2 (Ext.block (((hx.trans hx1).trans hz2).trans hz3) HB0.out)
            have cf8 := blk5 (Ext.block (hz2.trans hz3) HB1.out)
            go_wp2_with fail
            go_ret
            exact ⟨ret_bool HE.out.symm, ((((hx0.trans hx).trans hx1).trans hz2).trans hz3)⟩
          · try clear cf5
            try clear cf6
            have cf9 := blk2 (Ext.block (((hx.trans hx1).trans hz2).trans hz3) HB0.out)
            have cf10 := blk5 (Ext.block (hz2.trans hz3) HB1.out)
            go_wp2_with fail
            obtain ⟨go, hgo⟩ : ∃ go : Nat, go = gk := ⟨_, rfl⟩
            subst hgo
            obtain ⟨wo, hwo⟩ : ∃ wo : World, wo = wr := ⟨_, rfl⟩
            subst hwo
            have hkc : k ≤ cap := by omega
            go_loopg [34] k (fun gk j ws => ∃ m : Nat, gk + m = k ∧ j = .int .i64 m ∧ Hid (hasI ((l.map (·.asn)).take m) h.asn = false) ∧ Ext w3 ws)
            case atStart => exact ⟨0, rfl, rfl, Lib.hid rfl, Ext.refl _⟩
            case round =>
              obtain ⟨m, hgm, rfl, HM, hy⟩ := hrel
              by_cases hmk : m < k
              · have hml : m < l.length := by omega
                have HG2 := Lib.hid (show gk - 1 + (m + 1) = k ∧ gk - 1 < gk by omega); clear hgm
                obtain ⟨b2, off2, he2, hd⟩ := Hop.at (hv.ext (((((hx0.trans hx).trans hx1).trans hz2).trans hz3).trans hy)) m hml
                cases he2
                have HS := Lib.hid (any_snoc (fun x => x == h.asn) (l := l.map (·.asn)) (k := m) (by simpa using hml))
                try clear cf9
                try clear cf10
                have cf11 := blk2 (Ext.block ((((hx.trans hx1).trans hz2).trans hz3).trans hy) HB0.out)
                have cf12 := blk5 (Ext.block ((hz2.trans hz3).trans hy) HB1.out)
                have cy := blk5 (Ext.block (((hz2.trans hz3).trans hy).trans ((Ext.refl wr).alloc (.cells #[.int .i64 l[m].asn, .int .i64 l[m].ing, .int .i64 l[m].eg, .int .i64 l[m].exp, .int .i64 l[m].mac] 73))) HB1.out)
                cases b3 : (l[m].asn == h.asn)
                · have HM2 := Lib.hid (show hasI ((l.map (·.asn)).take (m + 1)) h.asn = false by unfold hasI at HM ⊢; rw [HS.out, HM.out]; simpa using b3)
                  go_wp2_with fail
                  go_roundg (gk - 1)
                  case measure => exact HG2.out.2
                  case rel => exact ⟨m + 1, HG2.out.1, by go_num, HM2, hy.alloc _⟩
                · have HE := Lib.hid (HL.out.trans (allTo_no hlt (show hopFresh t l k = false by unfold hopFresh; rw [HAT.out, b1, b2]; simp only [Bool.true_and, Bool.not_eq_false']; exact List.any_eq_true.2 ⟨l[m].asn, List.mem_take_iff_getElem.2 ⟨m, by simp; omega, by simp⟩, b3⟩)))
                  go_wp2_with fail
                  go_ret
                  exact ⟨ret_bool HE.out.symm, (((((hx0.trans hx).trans hx1).trans hz2).trans hz3).trans hy).alloc _⟩
              · obtain rfl : m = k := by omega
                have HK2 := Lib.hid (allTo_snoc HK.out (show hopFresh t l m = true by unfold hopFresh; rw [HAT.out, b1, b2, HM.out]; rfl))
                go_wp2
                go_roundg (go - 1)
                case measure => exact HG.out.2
                case rel => exact ⟨m + 1, HG.out.1, by go_num, HK2, ((((hx.trans hx1).trans hz2).trans hz3).trans hy)⟩
      · obtain rfl : k = l.length := by omega
        have HE := Lib.hid (HL.out.trans HK.out)
        try clear cf1
        have cf13 := blk2 (Ext.block hx HB0.out)
        go_wp2_with fail
        go_ret
        exact ⟨ret_bool HE.out.symm, (hx0.trans hx)⟩

end Go.Proofs.Ytkolfiedakojoaa
