/- Part 12 of 28 of what the laws FnNoDoorTwice and FnAuthor need: Appending to an empty literal row makes new memory or nothing. No condition but the bound on the row's length. Contracts of segments: their chaining values, codes and ASes; joins of segments. No condition but the bounds that each theorem names. Contracts of the interfaces of a kind, of joins of segments and of the first hop that does not verify. No condition but the bounds that each theorem names. Contracts of the first hop that does not verify and of the copy of a segment. No condition but the bounds that each theorem names. The data of traces, how they read, what they own, and the contracts of the laws' helper functions over them. No condition but the bounds that each theorem names. The walk of a packet, as a plain function. No program in sight. No condition. The steps of a path, once more: from a place in it on, hop by hop. No program in sight. No condition. What a packet's walk does on a well-formed path: its steps are the path's steps from its place on, as far as it comes. No program in sight. No condition. -/
import Derived.Test.YtjmlicmloacmaaaGreatKN1
import Derived.ArgAppend
import Derived.Test.YtjmlicmloacmaaaGreatKN8
import Derived.Test.YtjmlicmloacmaaaGreatKN9
import Derived.Test.YtjmlicmloacmaaaGreatKN10
import Derived.Test.YtjmlicmloacmaaaGreatKN11
import Derived.Test.YtjmlicmloacmaaaGreatKN5
namespace Go.Proofs.YtjmlicmloacmaaaGreat
section
open Go.ChangeShapes Go.WideShapes Go.ChangeAt Go.RowKit Go.Deep

section
variable {P : Program} {w : World} {ops : Array Oper} {rest : List Oper} {o : Oper} {a : Act} {Q : Exit → Act → World → Prop}
theorem appE {t e : TypeId} {n bytes : Nat} (E : Elem P t e n bytes) {α : Type} {f : α → List Value} (hf : ∀ a, (f a).length = n) (h1 : ∀ b, ∀ u ∈ f b, u.oneCell' = true) (hgd : o.guard = none) (s x : Operand)
    (ho : o.op = .call { callee := .builtin .append, args := #[s, x], argTypes := #[t, t] }) {base g : Nat} {vs : Value} (src : List α) (hs : a.eval s = .slice (some ⟨g, 0, none⟩) 0 0) (hown : OwnF f n base e w (.slice (some ⟨g, 0, none⟩) 0 0) [])
    (hx : a.eval x = vs) (hsrc : RdS (Rep.flat n f hf) w vs src) (hl : src.length * bytes ≤ 140737488355328) (hm : src.length ≤ maxLen) (hbase : base ≤ w.heap.size)
    (h : ∀ v' w', OwnF f n base e w' v' src → Ext w w' → wpList P ops Q rest (a.put o.dst v') w') : wpList P ops Q (o :: rest) a w := by
  obtain ⟨oa, cap, rfl, hc1, hc2, hn0, hel⟩ := hsrc
  cases oa with
  | none =>
    have hnil : src = [] := by
      cases src with
      | nil => rfl
      | cons b src => obtain ⟨_, _, _, he, _⟩ := hel 0 (by simp); cases he
    subst hnil
    obtain rfl := hn0 rfl
    refine wpList_append_own_none hgd s x t ho base e E.i n E.ht E.hi _ 0 [] hs hown hx ?_
    exact h _ w hown (Ext.refl _)
  | some ad =>
    refine wpList_append_arg w hgd s x t ho e E.i E.z n bytes E.ht E.hi E.hz E.hsize E.hby E.hzs E.hpos g 0 0 0 [] hs (by simp) (by simp) ad src.length cap (src.flatMap f) hx (flatMap_len hf src) ?_ ?_ ?_ (by simpa using hm) (by simpa using hl) ?_ ?_
    · intro j u hu
      have hjl : j < src.length * n := by rw [← flatMap_len hf src]; exact (List.getElem?_eq_some_iff.1 hu).1
      have hk : j / n < src.length := by rw [Nat.div_lt_iff_lt_mul E.hpos]; exact hjl
      have hr := Nat.mod_lt j E.hpos
      obtain ⟨b, off, cs, hb, hcell, rfl⟩ := hel (j / n) hk
      cases hb
      have hfm := flatMap_at hf src (j / n) hk (j % n) hr
      have hdm : j / n * n + j % n = j := by rw [Nat.mul_comm]; exact Nat.div_add_mod j n
      rw [hdm, hu] at hfm
      have := hcell (j % n) u hfm.symm
      have hadd : (⟨b, off, none⟩ : Addr).add j = ⟨b, off + j, none⟩ := by unfold Addr.add; split <;> simp_all
      rw [hadd]
      rw [← this]
      show _ = w.cell? ⟨b, off + j / n * n + j % n, none⟩
      rw [Nat.add_assoc, hdm]
    · intro u hu
      obtain ⟨b, _, hb⟩ := List.mem_flatMap.1 hu
      exact h1 b u hb
    · intro hr j hj
      rw [flatMap_len hf] at hj
      have : src.length = 0 := by omega
      rw [this] at hj; omega
    · intro hr
      have h0 : src = [] := List.eq_nil_of_length_eq_zero (by omega)
      subst h0
      exact h _ w hown (Ext.refl _)
    · intro hr v' w' o' g'
      refine h v' w' ?_ (Ext.grownNone (Ext.refl _) g')
      have o2 : OwnF f n w.heap.size e w' v' src := by
        unfold OwnF
        simpa using o'
      exact o2.mono hbase
end
end
section
open Go.ChangeShapes Go.WideShapes Go.ChangeAt Go.RowKit Go.Deep

theorem RdS.pre {α : Type} {r : Rep α} {w : World} {o : Option Addr} {m cap : Nat} {l : List α} (h : RdS r w (.slice o m cap) l) (k : Nat) (hk : k ≤ l.length) : RdS r w (.slice o k cap) (l.take k) := by
  obtain ⟨o', cap', hv, c1, c2, hn, hel⟩ := h
  cases hv
  have hlen : (l.take k).length = k := by simp; omega
  refine ⟨_, _, by rw [hlen], by rw [hlen]; omega, c2, hn, fun i hi => ?_⟩
  obtain ⟨b, off, cs, hb, hc, hr⟩ := hel i (by omega)
  exact ⟨b, off, cs, hb, hc, by simpa using hr⟩
theorem RdS.emp {α : Type} (r : Rep α) (w : World) (o : Option Addr) (c : Nat) (h : c ≤ maxLen) (hn : o = none → c = 0) : RdS r w (.slice o 0 c) [] :=
  ⟨o, c, rfl, Nat.zero_le _, h, hn, fun i hi => absurd hi (by simp)⟩
theorem RdS.suf {α : Type} {r : Rep α} {w : World} {b off m cap : Nat} {l : List α} (h : RdS r w (.slice (some ⟨b, off, none⟩) m cap) l) (k : Nat) (hk : k ≤ l.length) :
    RdS r w (.slice (some ⟨b, off + k * r.cells, none⟩) (l.length - k) (cap - k)) (l.drop k) := by
  have := h.part k l.length hk (Nat.le_refl _)
  simpa using this

set_option maxRecDepth 100000 in
set_option maxHeartbeats 1000000 in
theorem s_SegmentASes (s : Seg) (v : Value) (w : World) (r : RdS Hop.rep w v s.hops) (hl : s.hops.length ≤ 1048576) :
    Calls Tryz.prog 277 #[.agg #[.int .i64 s.ts, .int .i64 s.beta, v]] w fun e w' => ∃ v', e = .returned v' ∧ OwnF intF 1 w.heap.size 3 w' v' (s.hops.map (·.asn)) ∧ Ext w w' := by
  obtain ⟨o, cap, rfl, hsm⟩ := r.shape
  obtain ⟨E⟩ := elemInt
  obtain ⟨ml, hml⟩ : ∃ ml, ml = s.hops.map (·.asn) := ⟨_, rfl⟩
  have hlm : ml.length = s.hops.length := by rw [hml]; simp
  have HAT : Hid (∀ (k : Nat) (h : k < ml.length) (h' : k < s.hops.length), ml[k] = s.hops[k].asn) := Lib.hid (by intro k h h'; subst hml; simp)
  rw [← hml]
  clear hml
  have HLM := Lib.hid hlm; clear hlm
  have hx0 : Ext w (w.alloc (.cells #[.int .i64 s.ts, .int .i64 s.beta, .slice o s.hops.length cap] 217)) := (Ext.refl _).alloc _
  have HB0 := Lib.hid (blk_new w (.cells #[.int .i64 s.ts, .int .i64 s.beta, .slice o s.hops.length cap] 217))
  go_enter Tryz.func277, Tryz.ntmps277
  have ho0 := OwnF.empty intF 1 (w.alloc (.cells #[.int .i64 s.ts, .int .i64 s.beta, .slice o s.hops.length cap] 217)).heap.size 3 (w.alloc (.cells #[.int .i64 s.ts, .int .i64 s.beta, .slice o s.hops.length cap] 217)) (Nat.le_refl _)
  simp only [nblk_alloc] at ho0
  go_wp2
  go_loopg [3, 4] s.hops.length (fun gk out i wr => ∃ k : Nat, gk + k = s.hops.length ∧ i = .int .i64 k ∧ OwnF intF 1 (w.heap.size + 1) 3 wr out (ml.take k) ∧ Ext (w.alloc (.cells #[.int .i64 s.ts, .int .i64 s.beta, .slice o s.hops.length cap] 217)) wr)
  case atStart => exact ⟨0, by omega, rfl, ho0, (Ext.refl _).alloc _⟩
  case round =>
    obtain ⟨k, hgk, rfl, hown, hx⟩ := hrel
    clear ho0
    by_cases hlt : k < s.hops.length
    · have hg' : gk - 1 + (k + 1) = s.hops.length ∧ gk - 1 < gk := by omega
      have HG := Lib.hid hg'; clear hg' hgk
      have hlx : k < s.hops.length := by omega
      obtain ⟨b, off, rfl, hc⟩ := Hop.at (r.ext (hx0.trans hx)) k hlx
      have hkm : k < ml.length := by rw [HLM.out]; exact hlt
      have HS := Lib.hid (show ml.take k ++ [s.hops[k].asn] = ml.take (k + 1) by rw [List.take_succ_eq_append_getElem hkm, HAT.out k hkm hlx])
      have hln : (ml.take k).length ≤ k := List.length_take_le _ _
      clear hkm
      have cf1 := blk3 (Ext.block hx HB0.out)
      go_wp2_with (at_builtin; refine app1 E intFlen intOne rfl _ _ rfl s.hops[k].asn rfl (hown.ext ((Ext.refl _).alloc _)) rfl (by exact blk_list (intF s.hops[k].asn) (blk_new wr _)) (by omega) (by unfold maxLen; omega) (by have := (hx.alloc (.cells #[.int .i64 s.hops[k].asn] 3)).size; simpa using this) ?_)
      intro v' w' ho' hg'
      have hx' := (hx.alloc (.cells #[.int .i64 s.hops[k].asn] 3)).app (e := 3) hg' hown (by simp)
      rw [HS.out] at ho'
      clear hg' hown
      go_wp2_with fail
      go_roundg (gk - 1)
      case measure => exact HG.out.2
      case rel => exact ⟨k + 1, HG.out.1, by go_num, ho', hx'⟩
    · have HXS := Lib.hid (show ml.take k = ml by rw [List.take_of_length_le (by rw [HLM.out]; omega)])
      rw [HXS.out] at hown
      have cf2 := blk3 (Ext.block hx HB0.out)
      go_wp2_with fail
      go_ret
      exact ⟨_, rfl, hown.mono (Nat.le_succ _), (hx0.trans hx)⟩

set_option maxRecDepth 100000 in
set_option maxHeartbeats 1000000 in
theorem s_l9Seals (s : Seg) (v : Value) (n : Nat) (w : World) (r : RdS Hop.rep w v s.hops) (hl : s.hops.length ≤ 1048576) (hn : n ≤ s.hops.length) :
    Calls Tryz.prog 301 #[.agg #[.int .i64 s.ts, .int .i64 s.beta, v], .int .i64 n] w fun e w' => ∃ v', e = .returned v' ∧ OwnF intF 1 w.heap.size 3 w' v' ((s.hops.take n).map (·.mac)) ∧ Ext w w' := by
  obtain ⟨o, cap, rfl, hsm⟩ := r.shape
  obtain ⟨E⟩ := elemInt
  obtain ⟨ml, hml⟩ : ∃ ml, ml = (s.hops.take n).map (·.mac) := ⟨_, rfl⟩
  have hlm : ml.length = n := by rw [hml]; simp; omega
  have HAT : Hid (∀ (k : Nat) (h : k < ml.length) (h' : k < s.hops.length), ml[k] = s.hops[k].mac) := Lib.hid (by intro k h h'; subst hml; simp)
  rw [← hml]
  clear hml
  have HLM := Lib.hid hlm; clear hlm
  have hx0 : Ext w (w.alloc (.cells #[.int .i64 s.ts, .int .i64 s.beta, .slice o s.hops.length cap] 217)) := (Ext.refl _).alloc _
  have HB0 := Lib.hid (blk_new w (.cells #[.int .i64 s.ts, .int .i64 s.beta, .slice o s.hops.length cap] 217))
  go_enter Tryz.func301, Tryz.ntmps301
  have ho0 := OwnF.empty intF 1 (w.alloc (.cells #[.int .i64 s.ts, .int .i64 s.beta, .slice o s.hops.length cap] 217)).heap.size 3 (w.alloc (.cells #[.int .i64 s.ts, .int .i64 s.beta, .slice o s.hops.length cap] 217)) (Nat.le_refl _)
  simp only [nblk_alloc] at ho0
  go_wp2
  go_loopg [5, 6] n (fun gk out i wr => ∃ k : Nat, gk + k = n ∧ i = .int .i64 k ∧ OwnF intF 1 (w.heap.size + 1) 3 wr out (ml.take k) ∧ Ext (w.alloc (.cells #[.int .i64 s.ts, .int .i64 s.beta, .slice o s.hops.length cap] 217)) wr)
  case atStart => exact ⟨0, by omega, rfl, ho0, (Ext.refl _).alloc _⟩
  case round =>
    obtain ⟨k, hgk, rfl, hown, hx⟩ := hrel
    clear ho0
    by_cases hlt : k < n
    · have hg' : gk - 1 + (k + 1) = n ∧ gk - 1 < gk := by omega
      have HG := Lib.hid hg'; clear hg' hgk
      have hlx : k < s.hops.length := by omega
      obtain ⟨b, off, rfl, hc⟩ := Hop.at (r.ext (hx0.trans hx)) k hlx
      have hkm : k < ml.length := by rw [HLM.out]; exact hlt
      have HS := Lib.hid (show ml.take k ++ [s.hops[k].mac] = ml.take (k + 1) by rw [List.take_succ_eq_append_getElem hkm, HAT.out k hkm hlx])
      have hln : (ml.take k).length ≤ k := List.length_take_le _ _
      clear hkm
      have cf1 := blk3 (Ext.block hx HB0.out)
      go_wp2_with (at_builtin; refine app1 E intFlen intOne rfl _ _ rfl s.hops[k].mac rfl (hown.ext ((Ext.refl _).alloc _)) rfl (by exact blk_list (intF s.hops[k].mac) (blk_new wr _)) (by omega) (by unfold maxLen; omega) (by have := (hx.alloc (.cells #[.int .i64 s.hops[k].mac] 3)).size; simpa using this) ?_)
      intro v' w' ho' hg'
      have hx' := (hx.alloc (.cells #[.int .i64 s.hops[k].mac] 3)).app (e := 3) hg' hown (by simp)
      rw [HS.out] at ho'
      clear hg' hown
      go_wp2_with fail
      go_roundg (gk - 1)
      case measure => exact HG.out.2
      case rel => exact ⟨k + 1, HG.out.1, by go_num, ho', hx'⟩
    · have HXS := Lib.hid (show ml.take k = ml by rw [List.take_of_length_le (by rw [HLM.out]; omega)])
      rw [HXS.out] at hown
      have cf2 := blk3 (Ext.block hx HB0.out)
      go_wp2_with fail
      go_ret
      exact ⟨_, rfl, hown.mono (Nat.le_succ _), (hx0.trans hx)⟩


set_option maxRecDepth 100000 in
set_option maxHeartbeats 1000000 in
theorem s_BetaAt (s : Seg) (v : Value) (i : Int) (w : World) (r : RdS Hop.rep w v s.hops) (hl : s.hops.length ≤ 1048576) :
    Calls Tryz.prog 279 #[.agg #[.int .i64 s.ts, .int .i64 s.beta, v], .int .i64 i] w fun e w' => e = .returned (.int .i64 (betaAt s i)) ∧ Ext w w' := by
  obtain ⟨o, cap, rfl, hsm⟩ := r.shape
  have hx0 : Ext w (w.alloc (.cells #[.int .i64 s.ts, .int .i64 s.beta, .slice o s.hops.length cap] 217)) := (Ext.refl _).alloc _
  have HB0 := Lib.hid (blk_new w (.cells #[.int .i64 s.ts, .int .i64 s.beta, .slice o s.hops.length cap] 217))
  go_enter Tryz.func279, Tryz.ntmps279
  have cf1 := blk3 HB0.out
  go_wp2_with fail
  refine (s_l1In _ _ _ _).mono ?_
  rintro e _ ⟨rfl, rfl⟩
  cases b : inR i 0 s.hops.length
  · have HE := Lib.hid (show betaAt s i = 0 by unfold betaAt; rw [b]; rfl)
    go_wp2_with fail
    go_ret
    exact ⟨ret_int HE.out.symm, hx0⟩
  · obtain ⟨h0, h1⟩ := inR_true.1 b
    obtain ⟨n, rfl⟩ := Int.eq_ofNat_of_zero_le h0
    have HE := Lib.hid (betaAt_nat (s := s) (k := n) (by omega))
    go_wp2_with fail
    refine planStep (.blk [0, 1, 2, 3] (.one 4 (.one 5 (.blk [6] .done)))) [] (by kernel_rfl) (by kernel_rfl) ?_
    try clear cf1
    have cf2 := blk3 (Ext.block ((Ext.refl _).drew) HB0.out)
    refine blkStep (fun K HK => ?_)
    simp only [pick, List.filterMap_cons, List.filterMap_nil, List.getElem?_toArray, List.getElem?_cons_zero, List.getElem?_cons_succ]
    go_wp2_with fail
    refine HK.out _ _ ?_
    clear HK K
    refine oneStep (fun K HK => ?_)
    simp only [pick, List.filterMap_cons, List.filterMap_nil, List.getElem?_toArray, List.getElem?_cons_zero, List.getElem?_cons_succ]
    go_wp2_with fail
    refine (s_l9Seals s _ n _ (r.ext (hx0.trans ((Ext.refl _).drew))) (by omega) (by omega)).mono ?_
    rintro e w2 ⟨u, rfl, ou, hz2⟩
    go_wp2_with fail
    refine HK.out _ _ hz2 ?_
    clear HK K
    refine oneStep (fun K HK => ?_)
    simp only [pick, List.filterMap_cons, List.filterMap_nil, List.getElem?_toArray, List.getElem?_cons_zero, List.getElem?_cons_succ]
    go_wp2_with fail
    refine (s_ChainAdd s.beta _ _ _ (ints_rep ou)).mono ?_
    rintro e _ ⟨rfl, rfl⟩
    go_wp2_with fail
    refine HK.out _ _ (Ext.refl _) ?_
    clear HK K
    refine blkStep (fun K HK => ?_)
    simp only [pick, List.filterMap_cons, List.filterMap_nil, List.getElem?_toArray, List.getElem?_cons_zero, List.getElem?_cons_succ]
    go_wp2_with fail
    refine HK.out _ _ ?_
    clear HK K
    refine doneStep (by kernel_rfl) ?_
    go_wp2_with fail
    go_ret
    exact ⟨ret_int (by rw [HE.out]; try rw [List.map_take]), (hx0.trans ((Ext.refl _).drew)).trans hz2⟩




set_option maxRecDepth 100000 in
set_option maxHeartbeats 1000000 in
theorem s_AuthenticateHop (key ts beta : Int) (h : Hop) (w : World) :
    Calls Tryz.prog 278 #[.int .i64 key, .int .i64 ts, .int .i64 beta, .agg #[.int .i64 h.asn, .int .i64 h.ing, .int .i64 h.eg, .int .i64 h.exp, .int .i64 h.mac]] w fun e w' => e = .returned (.agg #[.int .i64 h.asn, .int .i64 h.ing, .int .i64 h.eg, .int .i64 h.exp, .int .i64 (hopMac key ts beta h)]) ∧ Ext w w' := by
  have hx0 := ext3 w (.cells #[.int .i64 h.asn, .int .i64 h.ing, .int .i64 h.eg, .int .i64 h.exp, .int .i64 h.mac] 44) (.cells #[.int .i64 0, .int .i64 0, .int .i64 0, .int .i64 0, .int .i64 0] 44) (.cells #[.int .i64 h.asn, .int .i64 h.ing, .int .i64 h.eg, .int .i64 h.exp, .int .i64 h.mac] 44)
  have HB0 := Lib.hid (al3 w (.cells #[.int .i64 h.asn, .int .i64 h.ing, .int .i64 h.eg, .int .i64 h.exp, .int .i64 h.mac] 44) (.cells #[.int .i64 0, .int .i64 0, .int .i64 0, .int .i64 0, .int .i64 0] 44) (.cells #[.int .i64 h.asn, .int .i64 h.ing, .int .i64 h.eg, .int .i64 h.exp, .int .i64 h.mac] 44))
  go_enter Tryz.func278, Tryz.ntmps278
  have cf1 := blk5 HB0.out.1
  have cf2 := blk5 HB0.out.2.1
  have cf3 := blk5 HB0.out.2.2
  go_wp2_with fail
  refine (s_HopMAC key ts beta h _).mono ?_
  rintro e w1 ⟨rfl, hz1⟩
  have HX := Lib.hid (hx0.trans hz1)
  have hb1 := Ext.block hz1 HB0.out.2.1
  have hb2 := Ext.block hz1 HB0.out.2.2
  obtain ⟨wx, hwx, hbx, hcx⟩ := one_set hb2 4 (.int .i64 (hopMac key ts beta h))
  simp only [List.setIfInBounds_toArray, List.set_cons_succ, List.set_cons_zero] at hbx
  have hb3 := hcx.blkS hb1 (by unfold at1; omega)
  obtain ⟨wq, hwq, hbq, hcq⟩ := rs_set hb3 (.int .i64 h.asn) (.int .i64 h.ing) (.int .i64 h.eg) (.int .i64 h.exp) (.int .i64 (hopMac key ts beta h))
  have HWX := Lib.hid hwx
  have HWQ := Lib.hid hwq
  have HBX := Lib.hid hbx
  have HB3 := Lib.hid hb3
  have HBQ := Lib.hid hbq
  have HE := Lib.hid ((HX.out.chg hcx (fun i hi => by have h1 : i = w.heap.size + 1 + 1 := hi; omega)).chg hcq (fun i hi => by have h1 : i = w.heap.size + 1 := hi; omega))
  have ff := fr_of hb2 4
  clear hb1 hwx hwq hbx hb3 hbq hcx hcq
  have cg := blk5 hb2
  clear hb2
  go_upto_region 3 with (fail)
  rw [← HWX.out]
  clear ff cg
  have fR0 := fr_of HB3.out 0
  have fR1 := fr_of HB3.out 1
  have fR2 := fr_of HB3.out 2
  have fR3 := fr_of HB3.out 3
  have fR4 := fr_of HB3.out 4
  have cR := blk5 HB3.out
  have cX := blk5 HBX.out
  try clear cf1
  try clear cf2
  try clear cf3
  go_wp2_with fail
  rw [← HWQ.out]
  clear cR cX fR0 fR1 fR2 fR3 fR4
  have cc := blk5 HBQ.out
  refine bodyPost_ret (v := .agg #[.int .i64 h.asn, .int .i64 h.ing, .int .i64 h.eg, .int .i64 h.exp, .int .i64 (hopMac key ts beta h)]) (by simp [results, Tryz.results278, go_sem, cc]) rfl ?_
  exact ⟨rfl, HE.out⟩


set_option maxRecDepth 100000 in
set_option maxHeartbeats 2000000 in
theorem s_InterfacesOfKind (t : Topo) (v1 v2 : Value) (r kind : Int) (w : World) (h2 : RdS Lnk.rep w v2 t.links) (hl : t.links.length ≤ 1000) :
    Calls Tryz.prog 276 #[.agg #[v1, v2], .int .i64 r, .int .i64 kind] w fun e w' => ∃ v', e = .returned v' ∧ OwnF intF 1 w.heap.size 3 w' v' (ifsKind t r kind) ∧ Ext w w' := by
  obtain ⟨E⟩ := elemInt
  obtain ⟨o, cap, rfl, hsm⟩ := h2.shape
  have hx0 : Ext w (w.alloc (.cells #[v1, .slice o t.links.length cap] 33)) := (Ext.refl _).alloc _
  have HB0 := Lib.hid (blk_new w (.cells #[v1, .slice o t.links.length cap] 33))
  go_enter Tryz.func276, Tryz.ntmps276
  have ho0 := OwnF.empty intF 1 (w.alloc (.cells #[v1, .slice o t.links.length cap] 33)).heap.size 3 (w.alloc (.cells #[v1, .slice o t.links.length cap] 33)) (Nat.le_refl _)
  have hxe : Ext (w.alloc (.cells #[v1, .slice o t.links.length cap] 33)) ((w.alloc (.cells #[v1, .slice o t.links.length cap] 33)).alloc (.cells #[] 3)) := (Ext.refl _).alloc _
  have cf1 := blk2 (Ext.block hxe HB0.out)
  go_wp2_with fail
  refine (s_Interfaces t v1 _ r _ (h2.ext (hx0.trans hxe)) (by omega)).mono ?_
  rintro e w1 ⟨vi, rfl, oi, hz1⟩
  replace ho0 := ho0.ext hz1
  obtain ⟨li, hli⟩ : ∃ li, li = topoIfs t.links r := ⟨_, rfl⟩
  have hlt := topoIfs_len t.links r
  have HIK := Lib.hid (show ifsKind t r kind = li.filter (fun d => ifKind t r d == kind) by rw [hli]; rfl)
  rw [← hli] at oi hlt
  clear hli
  obtain ⟨oo, co, rfl, _⟩ := (ints_rep oi).shape
  have hat : ∀ q, (Value.slice (some ⟨(w.alloc (.cells #[v1, .slice o t.links.length cap] 33)).heap.size, 0, none⟩) 0 0).ownBlock = some q → (Value.slice oo li.length co).ownBlock ≠ some q := fun q hq e => by
    have h1 := (oi.block q e).1
    have h2 : (w.alloc (.cells #[v1, .slice o t.links.length cap] 33)).heap.size = q := by simpa [Value.ownBlock] using hq
    simp at h1 h2; omega
  have hx1 := (hxe.trans hz1)
  simp only [nblk_alloc] at ho0 hat
  try clear cf1
  have cf2 := blk2 (Ext.block (hxe.trans hz1) HB0.out)
  go_wp2_with fail
  go_loopg [7, 9] li.length (fun gk out i wr => ∃ k : Nat, gk + k = li.length ∧ i = .int .i64 k ∧ OwnF intF 1 (w.heap.size + 1) 3 wr out ((li.take k).filter (fun d => ifKind t r d == kind)) ∧ OwnF intF 1 0 3 wr (.slice oo li.length co) li ∧ (∀ q, out.ownBlock = some q → (Value.slice oo li.length co).ownBlock ≠ some q) ∧ Ext (w.alloc (.cells #[v1, .slice o t.links.length cap] 33)) wr)
  case atStart => exact ⟨0, by omega, rfl, by simpa using ho0, oi.to0, hat, hx1⟩
  case round =>
    clear hat hx1 oi ho0 hz1
    obtain ⟨k, hgk, rfl, ho, oi, hat, hx⟩ := hrel
    have HGK := Lib.hid hgk
    have HAT := Lib.hid hat
    clear hgk hat
    have hkl : k ≤ li.length := by have h1 := HGK.out; omega
    have hln : ((li.take k).filter (fun d => ifKind t r d == kind)).length ≤ k := Nat.le_trans (List.length_filter_le _ _) (List.length_take_le _ _)
    by_cases hlt : k < li.length
    · obtain ⟨b, off, rfl, hc⟩ := ints_at (ints_rep oi) k hlt
      try clear cf2
      have cf3 := blk2 (Ext.block hx HB0.out)
      go_wp2_with fail
      refine planStep (.blk [0, 1, 2, 3, 4, 5, 7] (.one 6 (.blk [8] .done))) [] (by kernel_rfl) (by kernel_rfl) ?_
      try clear cf3
      have cf4 := blk2 (Ext.block (hx.trans ((Ext.refl _).drew)) HB0.out)
      have cf5 := Ext.cell ((Ext.refl _).drew) hc
      refine blkStep (fun K HK => ?_)
      simp only [pick, List.filterMap_cons, List.filterMap_nil, List.getElem?_toArray, List.getElem?_cons_zero, List.getElem?_cons_succ]
      go_wp2_with fail
      refine HK.out _ _ ?_
      clear HK K
      refine oneStep (fun K HK => ?_)
      simp only [pick, List.filterMap_cons, List.filterMap_nil, List.getElem?_toArray, List.getElem?_cons_zero, List.getElem?_cons_succ]
      go_wp2_with fail
      refine (s_InterfaceKind t v1 _ r li[k] _ (h2.ext ((hx0.trans hx).trans ((Ext.refl _).drew)))).mono ?_
      rintro e w3 ⟨rfl, hz3⟩
      go_wp2_with fail
      refine HK.out _ _ hz3 ?_
      clear HK K
      refine blkStep (fun K HK => ?_)
      simp only [pick, List.filterMap_cons, List.filterMap_nil, List.getElem?_toArray, List.getElem?_cons_zero, List.getElem?_cons_succ]
      go_wp2_with fail
      refine HK.out _ _ ?_
      clear HK K
      refine doneStep (by kernel_rfl) ?_
      replace ho := (ho.ext ((Ext.refl _).drew)).ext hz3
      replace oi := (oi.ext ((Ext.refl _).drew)).ext hz3
      cases ht : (ifKind t r li[k] == kind)
      · try clear cf4
        try clear cf5
        have cf6 := blk2 (Ext.block ((hx.trans ((Ext.refl _).drew)).trans hz3) HB0.out)
        have cf7 := Ext.cell (((Ext.refl _).drew).trans hz3) hc
        go_wp2_with fail
        go_roundg (gk - 1)
        case measure => have h1 := HGK.out; omega
        case rel => exact ⟨k + 1, by have h1 := HGK.out; omega, congrArg (Value.int .i64) (by first | omega | (unfold wrap64; omega)), by rw [← filter_neg (α := Int) (fun d => ifKind t r d == kind) hlt (by rw [ht]; simp)]; exact ho, oi, HAT.out, ((hx.trans ((Ext.refl _).drew)).trans hz3)⟩
      · have HX := Lib.hid ((hx.trans ((Ext.refl _).drew)).trans hz3)
        try clear cf4
        try clear cf5
        have cf8 := blk2 (Ext.block ((hx.trans ((Ext.refl _).drew)).trans hz3) HB0.out)
        have cf9 := Ext.cell (((Ext.refl _).drew).trans hz3) hc
        go_wp2_with (at_builtin; refine app1p E intFlen rfl _ _ rfl li[k] (intOne _) rfl (OwnF.ext ho ((Ext.refl _).alloc _)) rfl (by exact blk_list (intF li[k]) (blk_new w3 _)) (by omega) (by unfold maxLen; omega) (by have h1 := HX.out.size; simp at h1 ⊢; omega) ?_)
        intro v' w' ho' hg' hat'
        have hx' := (HX.out.alloc (.cells #[.int .i64 li[k]] 3)).app (e := 3) hg' ho (by simp)
        have oi' := (oi.ext ((Ext.refl w3).alloc (.cells #[.int .i64 li[k]] 3))).chg (chg_own (ho.ext ((Ext.refl w3).alloc (.cells #[.int .i64 li[k]] 3))) hg') (fun q hq h => HAT.out q h hq)
        have hat2 : ∀ q, v'.ownBlock = some q → (Value.slice (some ⟨b, off, none⟩) li.length co).ownBlock ≠ some q := fun q hq e => by
          rcases hat' with h | h
          · exact HAT.out q (by rw [← h]; exact hq) e
          · have h1 := (oi.block q e).2
            rw [h] at hq
            injection hq with hq
            first | omega | (simp at hq; omega)
        have HA2 := Lib.hid hat2
        clear hat2 hat' hg' oi
        try clear cf8
        try clear cf9
        go_wp2_with fail
        go_roundg (gk - 1)
        case measure => have h1 := HGK.out; omega
        case rel => exact ⟨k + 1, by have h1 := HGK.out; omega, congrArg (Value.int .i64) (by first | omega | (unfold wrap64; omega)), by rw [← filter_pos (α := Int) (fun d => ifKind t r d == kind) hlt ht]; exact ho', oi', HA2.out, hx'⟩
    · rw [List.take_of_length_le (by omega)] at ho
      try clear cf2
      have cf10 := blk2 (Ext.block hx HB0.out)
      go_wp2_with fail
      go_ret
      exact ⟨_, rfl, by rw [HIK.out]; exact ho.mono (Nat.le_succ _), (hx0.trans hx)⟩

theorem splice_no {a b : Seg} {i j : Int} (h : (inR i 0 a.hops.length && inR j 0 b.hops.length) = false) : splice a i b j = ⟨0, 0, []⟩ := by unfold splice; rw [h]; rfl
theorem splice_yes {a b : Seg} {i j : Nat} (hi : i ≤ a.hops.length) (hj : j ≤ b.hops.length) : splice a i b j = ⟨a.ts, a.beta, a.hops.take i ++ b.hops.drop j⟩ := by
  unfold splice
  rw [if_pos (by simp only [Bool.and_eq_true, inR_true]; omega), Int.toNat_natCast, Int.toNat_natCast]
theorem RdS.sufO {α : Type} {r : Rep α} {w : World} {o : Option Addr} {m cap : Nat} {l : List α} (h : RdS r w (.slice o m cap) l) (k : Nat) (hk : k ≤ l.length) : RdS r w (.slice (o.map (fun x => x.add (k * r.cells))) (l.length - k) (cap - k)) (l.drop k) := by
  obtain ⟨o', cap', hv, c1, c2, hn, hel⟩ := h
  cases hv
  have hlen : (l.drop k).length = l.length - k := by simp
  refine ⟨_, _, by rw [hlen], by rw [hlen]; omega, by omega, (fun e => by cases o with | none => have := hn rfl; omega | some ad => cases e), fun i hi => ?_⟩
  rw [hlen] at hi
  obtain ⟨b, off, cs, rfl, hc, hr⟩ := hel (k + i) (by omega)
  refine ⟨b, off + k * r.cells, cs, by simp [Addr.add], fun j u hj => ?_, by simpa using hr⟩
  have := hc j u hj
  rw [Nat.add_mul, ← Nat.add_assoc] at this
  exact this
theorem RdS.sufE {α : Type} {r : Rep α} {w : World} {o : Option Addr} {m k : Nat} {l : List α} (h : RdS r w (.slice o m k) l) (_ : k ≤ l.length) : RdS r w (.slice o 0 0) (l.drop k) := by
  have h1 := h.capLe
  have h2 : l.drop k = [] := List.drop_of_length_le (by omega)
  rw [h2]
  exact RdS.emp r w o 0 (Nat.zero_le _) (fun _ => rfl)




theorem badFrom_no {t : Topo} {s : Seg} {k : Nat} (hk : k < s.hops.length) (h : verHop t s.ts (betaAt s k) s.hops[k] = false) : badFrom t s (s.hops.length - k) k = k := by
  obtain ⟨n, hn⟩ : ∃ n, s.hops.length - k = n + 1 := ⟨s.hops.length - k - 1, by omega⟩
  rw [hn]; unfold badFrom; rw [hopAt_get hk, h]; simp
theorem badFrom_yes {t : Topo} {s : Seg} {k : Nat} (hk : k < s.hops.length) (h : verHop t s.ts (betaAt s k) s.hops[k] = true) : badFrom t s (s.hops.length - k) k = badFrom t s (s.hops.length - (k + 1)) (k + 1) := by
  obtain ⟨n, hn⟩ : ∃ n, s.hops.length - k = n + 1 := ⟨s.hops.length - k - 1, by omega⟩
  rw [hn, show s.hops.length - (k + 1) = n by omega]
  conv => lhs; unfold badFrom
  rw [hopAt_get hk, h]; simp



end
section
open Go.ChangeShapes Go.WideShapes Go.ChangeAt Go.RowKit Go.Deep

theorem blk12 {w : World} {b : Nat} {x0 x1 x2 x3 x4 x5 x6 x7 x8 x9 x10 x11 : Value} {t : TypeId} {f : Nat × Nat} (h : w.heap[b]? = some (.cells #[x0, x1, x2, x3, x4, x5, x6, x7, x8, x9, x10, x11] t f)) :
    w.cell? ⟨b, 0, none⟩ = some x0 ∧ w.cell? ⟨b, 1, none⟩ = some x1 ∧ w.cell? ⟨b, 2, none⟩ = some x2 ∧ w.cell? ⟨b, 3, none⟩ = some x3 ∧ w.cell? ⟨b, 4, none⟩ = some x4 ∧ w.cell? ⟨b, 5, none⟩ = some x5 ∧ w.cell? ⟨b, 6, none⟩ = some x6 ∧ w.cell? ⟨b, 7, none⟩ = some x7 ∧ w.cell? ⟨b, 8, none⟩ = some x8 ∧ w.cell? ⟨b, 9, none⟩ = some x9 ∧ w.cell? ⟨b, 10, none⟩ = some x10 ∧ w.cell? ⟨b, 11, none⟩ = some x11 :=
  ⟨blk_cell h 0, blk_cell h 1, blk_cell h 2, blk_cell h 3, blk_cell h 4, blk_cell h 5, blk_cell h 6, blk_cell h 7, blk_cell h 8, blk_cell h 9, blk_cell h 10, blk_cell h 11⟩
structure Trc where
  code : Int
  steps : List Step
  pkt : Pkt
  deriving DecidableEq
def Trc.size (x : Trc) : Nat := x.steps.length + x.pkt.size
def Trc.rep : Rep Trc where
  cells := 12
  rd w cs x := ∃ v0 v1 v2, cs = [.int .i64 x.code, v0, .int .i64 x.pkt.kind, .int .i64 x.pkt.src, .int .i64 x.pkt.dst, v1, .int .i64 x.pkt.pi, .int .i64 x.pkt.hi, .int .i64 x.pkt.beta, .int .i64 x.pkt.rid, .int .i64 x.pkt.seq, v2] ∧ RdS Step.rep w v0 x.steps ∧ RdS Part.rep w v1 x.pkt.path.parts ∧ RdS Rep.byte w v2 x.pkt.pay
  len := by rintro w cs a ⟨v0, v1, v2, rfl, _⟩; rfl
  ext := by rintro w w' cs a e ⟨v0, v1, v2, rfl, h0, h1, h2⟩; exact ⟨v0, v1, v2, rfl, h0.ext e, h1.ext e, h2.ext e⟩
def Trc.ok (x : Trc) : Prop := I64 x.code ∧ (∀ y ∈ x.steps, Step.ok y) ∧ x.pkt.ok
def stepOwn : Own Step := Own.flat Step.f 3 Step.flen 59
/-- What a trace's handles own: sets that share no block. -/
def Trc.own (S : Nat → Prop) (w : World) (h0 h1 h2 : Value) (x : Trc) : Prop :=
  ∃ S0 S1 : Nat → Prop, stepOwn.own S0 w h0 x.steps ∧ Pkt.own S1 w h1 h2 x.pkt ∧ (∀ b, S0 b → S b) ∧ (∀ b, S1 b → S b) ∧ ∀ b, S0 b → ¬ S1 b
theorem Trc.own_kept {S T : Nat → Prop} {w w' : World} {h0 h1 h2 : Value} {x : Trc} (h : Trc.own S w h0 h1 h2 x) (c : Chg T w w') (hs : ∀ b, S b → ¬ T b) : Trc.own S w' h0 h1 h2 x := by
  obtain ⟨S0, S1, a, b, c0, c1, d⟩ := h
  exact ⟨S0, S1, stepOwn.kept a c (fun k hk => hs k (c0 k hk)), Pkt.own_kept b c (fun k hk => hs k (c1 k hk)), c0, c1, d⟩
theorem Trc.own_ext {S : Nat → Prop} {w w' : World} {h0 h1 h2 : Value} {x : Trc} (h : Trc.own S w h0 h1 h2 x) (e : Ext w w') : Trc.own S w' h0 h1 h2 x :=
  Trc.own_kept h (Chg.ofExt (S := noB) e) (fun _ _ h => h)
theorem Trc.own_mono {S T : Nat → Prop} {w : World} {h0 h1 h2 : Value} {x : Trc} (h : Trc.own S w h0 h1 h2 x) (hs : ∀ b, S b → T b) : Trc.own T w h0 h1 h2 x := by
  obtain ⟨S0, S1, a, b, c0, c1, d⟩ := h
  exact ⟨S0, S1, a, b, fun k hk => hs k (c0 k hk), fun k hk => hs k (c1 k hk), d⟩
theorem Trc.own_rd0 {S : Nat → Prop} {w : World} {h0 h1 h2 : Value} {x : Trc} (h : Trc.own S w h0 h1 h2 x) : RdS Step.rep w h0 x.steps := by
  obtain ⟨S0, S1, a, _⟩ := h; exact stepOwn.rd a
theorem Trc.own_rd1 {S : Nat → Prop} {w : World} {h0 h1 h2 : Value} {x : Trc} (h : Trc.own S w h0 h1 h2 x) : RdS Part.rep w h1 x.pkt.path.parts := by
  obtain ⟨S0, S1, _, b, _⟩ := h; exact Pkt.own_rd0 b
theorem Trc.own_rd2 {S : Nat → Prop} {w : World} {h0 h1 h2 : Value} {x : Trc} (h : Trc.own S w h0 h1 h2 x) : RdS Rep.byte w h2 x.pkt.pay := by
  obtain ⟨S0, S1, _, b, _⟩ := h; exact Pkt.own_rd1 b
theorem Trc.own_inb {S : Nat → Prop} {w : World} {h0 h1 h2 : Value} {x : Trc} (h : Trc.own S w h0 h1 h2 x) : Trc.own (fun b => S b ∧ b < w.heap.size) w h0 h1 h2 x := by
  obtain ⟨S0, S1, a, b, c0, c1, d⟩ := h
  exact ⟨_, _, stepOwn.inb a, Pkt.own_inb b, fun k hk => ⟨c0 k hk.1, hk.2⟩, fun k hk => ⟨c1 k hk.1, hk.2⟩, fun k hk h2 => d k hk.1 h2.1⟩
def Trc.cnt (x : Trc) : Int := 3 * x.steps.length + x.pkt.cnt
def Trc.marked (k : Int) (x : Trc) : Trc := { x with steps := markL Step.mk' 3 k x.steps.length, pkt := Pkt.marked (k + 3 * x.steps.length) x.pkt }
theorem Trc.cnt_le {x : Trc} (h : x.size ≤ 1048576) : 0 ≤ x.cnt ∧ x.cnt ≤ 5242880 * 2 := by
  have h1 : x.pkt.size ≤ 1048576 := by unfold Trc.size at h; omega
  have h2 : x.steps.length ≤ 1048576 := by unfold Trc.size at h; omega
  have := Pkt.cnt_le h1
  unfold Trc.cnt; omega
theorem Pkt.cnt_nn (x : Pkt) : 0 ≤ x.cnt := by unfold Pkt.cnt markN; omega
end
section
open Go.RowKit

def trav (t : Topo) (now : Int) (dead : List Int) : Nat → Int → Int → Pkt → List Step → Trc
  | 0, _, _, x, l => ⟨0, l, x⟩
  | f + 1, r, inn, x, l =>
    if (forward t r now (failedIfs t dead r) inn x).code = 0 then trav t now dead f (remEnd t r (forward t r now (failedIfs t dead r) inn x).eg).1 (remEnd t r (forward t r now (failedIfs t dead r) inn x).eg).2 (forward t r now (failedIfs t dead r) inn x).pkt (l ++ [⟨r, inn, (forward t r now (failedIfs t dead r) inn x).eg⟩])
    else if (forward t r now (failedIfs t dead r) inn x).code = 1 then ⟨1, l ++ [⟨r, inn, (forward t r now (failedIfs t dead r) inn x).eg⟩], (forward t r now (failedIfs t dead r) inn x).pkt⟩
    else ⟨(forward t r now (failedIfs t dead r) inn x).code, l, (forward t r now (failedIfs t dead r) inn x).pkt⟩
def traverse (t : Topo) (now : Int) (dead : List Int) (x : Pkt) : Trc := trav t now dead 30 x.src 0 x []
theorem trav_go {t : Topo} {now : Int} {dead : List Int} {f : Nat} {r inn eg : Int} {x z : Pkt} {l : List Step} (hv : forward t r now (failedIfs t dead r) inn x = ⟨0, eg, z⟩) :
    trav t now dead (f + 1) r inn x l = trav t now dead f (remEnd t r eg).1 (remEnd t r eg).2 z (l ++ [⟨r, inn, eg⟩]) := by simp [trav, hv]
theorem trav_del {t : Topo} {now : Int} {dead : List Int} {f : Nat} {r inn eg : Int} {x z : Pkt} {l : List Step} (hv : forward t r now (failedIfs t dead r) inn x = ⟨1, eg, z⟩) :
    trav t now dead (f + 1) r inn x l = ⟨1, l ++ [⟨r, inn, eg⟩], z⟩ := by simp [trav, hv]
theorem trav_bad {t : Topo} {now : Int} {dead : List Int} {f : Nat} {r inn cd eg : Int} {x z : Pkt} {l : List Step} (hv : forward t r now (failedIfs t dead r) inn x = ⟨cd, eg, z⟩) (h0 : ¬ cd = 0) (h1 : ¬ cd = 1) :
    trav t now dead (f + 1) r inn x l = ⟨cd, l, z⟩ := by simp [trav, hv, h0, h1]
end
section
open Go.RowKit

/-- The steps from a hop on: hs are the part's hops from there, cont what follows the part's last hop. -/
def wHops (cont : Int → Int → Hop → List Step) (k : Int) : Int → List Hop → List Step
  | _, [] => []
  | inn, [h] => cont k inn h
  | inn, h :: h' :: hs => ⟨h.asn, inn, hopEg k h⟩ :: wHops cont k (hopIn k h') (h' :: hs)
def wParts (z : Int → Hop → Int) : List Part → Int → Int → Hop → List Step
  | [], k, inn, h => [⟨h.asn, inn, z k h⟩]
  | p :: ps, _, inn, _ => wHops (wParts z ps) p.kind inn p.hops
def rawHops (k inn : Int) : List Hop → List Step
  | [] => []
  | h :: hs => ⟨h.asn, inn, hopEg k h⟩ :: hs.map (stepOf k)
def lastHop (h : Hop) (hs : List Hop) : Hop := (h :: hs).getLast (by simp)

theorem raw_split (k : Int) : ∀ (hs : List Hop) (h : Hop) (inn : Int), ∃ (Y : List Step) (il : Int), rawHops k inn (h :: hs) = Y ++ [⟨(lastHop h hs).asn, il, hopEg k (lastHop h hs)⟩] ∧ ∀ cont, wHops cont k inn (h :: hs) = Y ++ cont k il (lastHop h hs)
  | [], h, inn => ⟨[], inn, rfl, fun _ => rfl⟩
  | h1 :: hs, h, inn => by
    obtain ⟨Y, il, e1, e2⟩ := raw_split k hs h1 (hopIn k h1)
    refine ⟨⟨h.asn, inn, hopEg k h⟩ :: Y, il, ?_, fun cont => ?_⟩
    · show (⟨h.asn, inn, hopEg k h⟩ : Step) :: rawHops k (hopIn k h1) (h1 :: hs) = _
      rw [e1]; rfl
    · show (⟨h.asn, inn, hopEg k h⟩ : Step) :: wHops cont k (hopIn k h1) (h1 :: hs) = _
      rw [e2]; rfl

theorem hopsTo_join (k : Int) (X : List Step) (s : Step) (h : Hop) (hs : List Hop) (he : s.asn = h.asn) : ∀ i ≤ hs.length, hopsTo true k (X ++ [s]) (h :: hs) (i + 1) = X ++ (⟨h.asn, s.ing, hopEg k h⟩ :: (hs.take i).map (stepOf k))
  | 0, _ => by
    rw [hopsTo_succ (by simp)]
    have hm : mergeB (true && (0 : Nat) == 0) (X ++ [s]) h = true := by simp [mergeB, he]
    show stepOne (true && (0 : Nat) == 0) k (X ++ [s]) h = _
    rw [stepOne_yes2 hm (by simp)]
    simp
  | i + 1, hi => by
    rw [hopsTo_succ (by simp; omega), hopsTo_join k X s h hs he i (by omega)]
    rw [stepOne_no (by simp [mergeB])]
    rw [List.take_succ_eq_append_getElem (by omega), List.map_append]
    simp only [List.append_assoc, List.cons_append, List.getElem_cons_succ]
    rfl
theorem hopsTo_first (k : Int) (hs : List Hop) : ∀ i ≤ hs.length, hopsTo false k [] hs i = (hs.take i).map (stepOf k)
  | 0, _ => by simp [hopsTo]
  | i + 1, hi => by
    rw [hopsTo_succ (by omega), hopsTo_first k hs i (by omega), stepOne_no (by simp [mergeB]), List.take_succ_eq_append_getElem (by omega), List.map_append]
    rfl

def partsGo (out : List Step) : List Part → List Step
  | [] => out
  | p :: ps => partsGo (hopsTo true p.kind out p.hops p.hops.length) ps
theorem partsTo_go : ∀ (ps pre : List Part), 0 < pre.length → partsTo (pre ++ ps) (pre.length + ps.length) = partsGo (partsTo (pre ++ ps) pre.length) ps
  | [], pre, _ => by simp [partsGo]
  | p :: ps, pre, hp => by
    have h1 := partsTo_go ps (pre ++ [p]) (by simp)
    have hs : partsTo (pre ++ p :: ps) (pre.length + 1) = hopsTo true p.kind (partsTo (pre ++ p :: ps) pre.length) p.hops p.hops.length := by
      rw [partsTo_succ (by simp)]
      simp [hp]
    rw [List.append_assoc, List.singleton_append, List.length_append, List.length_singleton] at h1
    rw [show pre.length + (p :: ps).length = pre.length + 1 + ps.length by simp; omega, h1, hs]
    rfl

/-- Every part has hops, and begins at the AS at which the one before ended. -/
def chain : Hop → List Part → Prop
  | _, [] => True
  | h, p :: ps => ∃ h0 hs, p.hops = h0 :: hs ∧ h0.asn = h.asn ∧ chain (lastHop h0 hs) ps
theorem go_raw : ∀ (ps : List Part) (X : List Step) (h : Hop) (k inn : Int), chain h ps → partsGo (X ++ [⟨h.asn, inn, hopEg k h⟩]) ps = X ++ wParts hopEg ps k inn h
  | [], _, _, _, _, _ => rfl
  | p :: ps, X, h, k, inn, hc => by
    obtain ⟨h0, hs, hp, ha, hc2⟩ := hc
    unfold partsGo wParts
    rw [hp]
    have e := hopsTo_join p.kind X ⟨h.asn, inn, hopEg k h⟩ h0 hs ha.symm hs.length (Nat.le_refl _)
    rw [List.length_cons, e, List.take_length]
    show partsGo (X ++ rawHops p.kind inn (h0 :: hs)) ps = _
    obtain ⟨Y, il, e1, e2⟩ := raw_split p.kind hs h0 inn
    rw [e1, e2, ← List.append_assoc, go_raw ps (X ++ Y) _ p.kind il hc2, List.append_assoc]
theorem parts_raw (p : Part) (ps : List Part) (h0 : Hop) (hs : List Hop) (hp : p.hops = h0 :: hs) (hc : chain (lastHop h0 hs) ps) : partsTo (p :: ps) (p :: ps).length = wHops (wParts hopEg ps) p.kind (hopIn p.kind h0) (h0 :: hs) := by
  have h := partsTo_go ps [p] (by simp)
  rw [List.singleton_append, List.length_singleton] at h
  rw [show (p :: ps).length = 1 + ps.length by simp; omega, h, partsTo_succ (by simp)]
  show partsGo (hopsTo false p.kind [] p.hops p.hops.length) ps = _
  rw [hopsTo_first p.kind p.hops _ (Nat.le_refl _), List.take_length, hp]
  show partsGo (rawHops p.kind (hopIn p.kind h0) (h0 :: hs)) ps = _
  obtain ⟨Y, il, e1, e2⟩ := raw_split p.kind hs h0 (hopIn p.kind h0)
  rw [e1, e2, go_raw ps Y _ p.kind il hc]

theorem endsIn_cons (s : Step) (l : List Step) : endsIn (s :: l) = ⟨s.asn, 0, s.eg⟩ :: l := by simp [endsIn]
theorem endsEg_one (s : Step) : endsEg [s] = [⟨s.asn, s.ing, 0⟩] := by simp [endsEg]
theorem endsEg_cons (s : Step) (l : List Step) (h : l ≠ []) : endsEg (s :: l) = s :: endsEg l := by
  cases l with
  | nil => exact absurd rfl h
  | cons a l => simp [endsEg]
theorem wHops_ne {cont : Int → Int → Hop → List Step} (hc : ∀ k i h, cont k i h ≠ []) {k inn : Int} {h : Hop} {hs : List Hop} : wHops cont k inn (h :: hs) ≠ [] := by
  cases hs with
  | nil => exact hc _ _ _
  | cons a l => simp [wHops]
theorem wParts_ne (z : Int → Hop → Int) : ∀ (ps : List Part) (h : Hop), chain h ps → ∀ k i h', wParts z ps k i h' ≠ []
  | [], _, _, _, _, _ => by simp [wParts]
  | p :: ps, h, hc, k, i, h' => by
    obtain ⟨h0, hs, hp, _, hc2⟩ := hc
    unfold wParts
    rw [hp]
    exact wHops_ne (wParts_ne z ps _ hc2)
theorem wHops_in {cont : Int → Int → Hop → List Step} (hc : ∀ k i h, endsIn (cont k i h) = cont k 0 h) (k inn : Int) (h : Hop) (hs : List Hop) : endsIn (wHops cont k inn (h :: hs)) = wHops cont k 0 (h :: hs) := by
  cases hs with
  | nil => exact hc _ _ _
  | cons a l => exact endsIn_cons _ _
theorem wParts_in (z : Int → Hop → Int) : ∀ (ps : List Part) (h : Hop), chain h ps → ∀ k i h', endsIn (wParts z ps k i h') = wParts z ps k 0 h'
  | [], _, _, _, _, _ => by simp [wParts, endsIn]
  | p :: ps, h, hc, k, i, h' => by
    obtain ⟨h0, hs, hp, _, hc2⟩ := hc
    unfold wParts
    rw [hp]
    exact wHops_in (wParts_in z ps _ hc2) _ _ _ _
theorem wHops_eg {c1 c2 : Int → Int → Hop → List Step} (hn : ∀ k i h, c1 k i h ≠ []) (hc : ∀ k i h, endsEg (c1 k i h) = c2 k i h) (k : Int) : ∀ (hs : List Hop) (inn : Int) (h : Hop), endsEg (wHops c1 k inn (h :: hs)) = wHops c2 k inn (h :: hs)
  | [], _, _ => hc _ _ _
  | a :: hs, inn, h => by
    show endsEg (_ :: wHops c1 k (hopIn k a) (a :: hs)) = _ :: wHops c2 k (hopIn k a) (a :: hs)
    rw [endsEg_cons _ _ (wHops_ne hn), wHops_eg hn hc k hs]
theorem wParts_eg (z : Int → Hop → Int) : ∀ (ps : List Part) (h : Hop), chain h ps → ∀ k i h', endsEg (wParts z ps k i h') = wParts (fun _ _ => 0) ps k i h'
  | [], _, _, _, _, _ => by simp [wParts, endsEg]
  | p :: ps, h, hc, k, i, h' => by
    obtain ⟨h0, hs, hp, _, hc2⟩ := hc
    unfold wParts
    rw [hp]
    exact wHops_eg (wParts_ne z ps _ hc2) (wParts_eg z ps _ hc2) _ _ _ _
/-- The steps of a path, from its first hop on. -/
theorem steps_walk (p : Part) (ps : List Part) (h0 : Hop) (hs : List Hop) (hp : p.hops = h0 :: hs) (hc : chain (lastHop h0 hs) ps) : pathSteps (p :: ps) = wHops (wParts (fun _ _ => 0) ps) p.kind 0 (h0 :: hs) := by
  unfold pathSteps
  rw [parts_raw p ps h0 hs hp hc, wHops_in (wParts_in hopEg ps _ hc), wHops_eg (wParts_ne hopEg ps _ hc) (wParts_eg hopEg ps _ hc)]
end
section
open Go.RowKit

structure GoodP (t : Topo) (ps : List Part) : Prop where
  ne : ∀ j, j < ps.length → 0 < (partAt ps j).hops.length
  fol : ∀ j, j + 1 < ps.length → (hopAt (partAt ps j).hops ((partAt ps j).hops.length - 1)).asn = (hopAt (partAt ps (j + 1)).hops 0).asn
  join : ∀ j, j < ps.length → ∀ i, i + 1 < (partAt ps j).hops.length → joinAt t (partAt ps j) i = true
  vh : ∀ j, j < ps.length → ∀ i, i < (partAt ps j).hops.length → validHop (hopAt (partAt ps j).hops i) = true
theorem good_of_wf {t : Topo} {p : Pth} (h : wfPath t p = true) : GoodP t p.parts := by
  unfold wfPath at h
  simp only [Bool.and_eq_true] at h
  have hp := allTo_true.1 h.2
  have hv : ∀ j, j < p.parts.length → validPart t (partAt p.parts j) = true := fun j hj => by
    have := hp j hj; unfold partOk at this; simp only [Bool.and_eq_true] at this; exact this.1
  have ho : ∀ j, j < p.parts.length → hopsOk t (partAt p.parts j).hops = true := fun j hj => by
    have := hv j hj; unfold validPart at this; simp only [Bool.and_eq_true] at this; exact this.1.1.1.2
  refine ⟨fun j hj => ?_, fun j hj => ?_, fun j hj i hi => ?_, fun j hj i hi => ?_⟩
  · have := ho j hj
    unfold hopsOk at this
    simp only [Bool.and_eq_true] at this
    have := (inR_true.1 this.1).1
    omega
  · have := hp (j + 1) hj
    unfold partOk at this
    simp only [Bool.and_eq_true, Nat.add_sub_cancel] at this
    have h2 := this.2
    simp only [Nat.add_eq_zero_iff, Nat.one_ne_zero, and_false, decide_false, Bool.false_or] at h2
    unfold followAt at h2
    simp only [Bool.and_eq_true, beq_iff_eq] at h2
    exact h2.2
  · have := hv j hj
    unfold validPart at this
    simp only [Bool.and_eq_true] at this
    exact allTo_true.1 this.2 i (by omega)
  · have := ho j hj
    unfold hopsOk at this
    simp only [Bool.and_eq_true] at this
    have := allTo_true.1 this.2 i hi
    unfold hopFresh at this
    simp only [Bool.and_eq_true] at this
    exact this.1.1
theorem vh_asn {h : Hop} (hv : validHop h = true) : 0 ≤ h.asn ∧ h.asn ≤ 7 := by
  unfold validHop at hv
  simp only [Bool.and_eq_true] at hv
  exact inR_true.1 hv.1.1.1.1.1

def restH (x : Pkt) : List Hop := (curPart x).hops.drop x.hi.toNat
def restP (x : Pkt) : List Part := x.path.parts.drop (x.pi.toNat + 1)
/-- The steps from a packet's place on. -/
def walkAt (x : Pkt) (inn : Int) : List Step := wHops (wParts (fun _ _ => 0) (restP x)) (curPart x).kind inn (restH x)
theorem hasHop_iff {x : Pkt} : hasHop x = true ↔ 0 ≤ x.pi ∧ x.pi.toNat < x.path.parts.length ∧ 0 ≤ x.hi ∧ x.hi.toNat < (curPart x).hops.length := by
  unfold hasHop
  simp only [Bool.and_eq_true, inR_true]
  constructor
  · rintro ⟨⟨a, b⟩, c, d⟩; refine ⟨a, by omega, c, by omega⟩
  · rintro ⟨a, b, c, d⟩; exact ⟨⟨a, by omega⟩, c, by omega⟩
theorem restH_cons {x : Pkt} (h : hasHop x = true) : restH x = curHop x :: (curPart x).hops.drop (x.hi.toNat + 1) := by
  obtain ⟨_, _, _, hh⟩ := hasHop_iff.1 h
  unfold restH curHop
  rw [List.drop_eq_getElem_cons hh, hopAt_at hh]
theorem lastOf_iff {x : Pkt} (h : hasHop x = true) : lastOf x = true ↔ x.hi.toNat + 1 = (curPart x).hops.length := by
  obtain ⟨_, _, h0, hh⟩ := hasHop_iff.1 h
  unfold lastOf
  rw [beq_iff_eq]; omega
theorem walk_end {x : Pkt} (inn : Int) (h : hasHop x = true) (hl : lastOf x = true) (he : x.path.parts.length ≤ x.pi.toNat + 1) : walkAt x inn = [⟨(curHop x).asn, inn, 0⟩] := by
  have h1 := (lastOf_iff h).1 hl
  unfold walkAt
  rw [restH_cons h, List.drop_of_length_le (by omega)]
  unfold restP
  rw [List.drop_of_length_le he]
  rfl
theorem walk_hop {x : Pkt} (inn : Int) (h : hasHop x = true) (hl : ¬ lastOf x = true) :
    walkAt x inn = ⟨(curHop x).asn, inn, hopEg (curPart x).kind (curHop x)⟩ :: walkAt { x with hi := x.hi + 1 } (hopIn (curPart x).kind (hopAt (curPart x).hops (x.hi.toNat + 1))) := by
  obtain ⟨_, _, h0, hh⟩ := hasHop_iff.1 h
  have h1 : x.hi.toNat + 1 < (curPart x).hops.length := by
    have h9 : ¬ x.hi.toNat + 1 = (curPart x).hops.length := fun e => hl ((lastOf_iff h).2 e)
    omega
  have e1 : (x.hi + 1).toNat = x.hi.toNat + 1 := by omega
  unfold walkAt
  rw [restH_cons h, List.drop_eq_getElem_cons h1]
  show _ :: wHops _ _ _ _ = _
  unfold restH restP curPart
  simp only [e1]
  have h2 : x.hi.toNat + 1 < (partAt x.path.parts x.pi.toNat).hops.length := h1
  rw [List.drop_eq_getElem_cons h2, hopAt_at h2]
  rfl
theorem walk_part {x : Pkt} (inn b : Int) (h : hasHop x = true) (hl : lastOf x = true) (he : x.pi.toNat + 1 < x.path.parts.length) : walkAt x inn = walkAt { x with pi := x.pi + 1, hi := 0, beta := b } inn := by
  obtain ⟨hp0, _, h0, hh⟩ := hasHop_iff.1 h
  have h1 := (lastOf_iff h).1 hl
  have e1 : (x.pi + 1).toNat = x.pi.toNat + 1 := by omega
  unfold walkAt
  rw [restH_cons h, List.drop_of_length_le (by omega)]
  unfold restP restH curPart
  simp only [e1]
  rw [List.drop_eq_getElem_cons he, partAt_at he]
  rfl
theorem verCur_pos (t : Topo) (x : Pkt) : (verCur t x).pi = x.pi ∧ (verCur t x).hi = x.hi ∧ (verCur t x).path = x.path ∧ (verCur t x).dst = x.dst ∧ (verCur t x).src = x.src := by
  unfold verCur; split <;> exact ⟨rfl, rfl, rfl, rfl, rfl⟩
theorem curAs_of {x : Pkt} (h : hasHop x = true) : curAs x = (curHop x).asn := by unfold curAs; rw [if_pos h]
theorem chk_hop {t : Topo} {now : Int} {x : Pkt} (h : chkCode t now x = 0) : hasHop x = true ∧ curOk t x = true ∧ curIn x now = true := by
  unfold chkCode at h
  split at h
  · rename_i h1
    split at h
    · rename_i h2
      refine ⟨?_, h1, h2⟩
      unfold curOk at h1
      simp only [Bool.and_eq_true] at h1
      exact h1.1
    · omega
  · omega
theorem asn_nn {t : Topo} {x : Pkt} (G : GoodP t x.path.parts) (h : hasHop x = true) : 0 ≤ (curHop x).asn := by
  obtain ⟨_, hp, _, hh⟩ := hasHop_iff.1 h
  exact (vh_asn (G.vh _ hp _ hh)).1
theorem atLast_iff {t : Topo} {x : Pkt} (G : GoodP t x.path.parts) (h : hasHop x = true) : atLast x = true ↔ lastOf x = true ∧ x.path.parts.length ≤ x.pi.toNat + 1 := by
  obtain ⟨h1, h2, _, _⟩ := hasHop_iff.1 h
  unfold atLast
  rw [curAs_of h]
  have := asn_nn G h
  simp only [Bool.and_eq_true, decide_eq_true_eq, beq_iff_eq]
  constructor
  · rintro ⟨⟨_, a⟩, b⟩; exact ⟨a, by omega⟩
  · rintro ⟨a, b⟩; exact ⟨⟨this, a⟩, by omega⟩
theorem adv_part {t : Topo} {x : Pkt} (G : GoodP t x.path.parts) (h : hasHop x = true) (hl : lastOf x = true) (he : ¬ atLast x = true) :
    advance x = { x with pi := x.pi + 1, hi := 0, beta := (partAt x.path.parts (x.pi.toNat + 1)).beta } ∧ x.pi.toNat + 1 < x.path.parts.length := by
  have h1 := asn_nn G h
  have h2 : ¬ (x.path.parts.length ≤ x.pi.toNat + 1) := fun e => he ((atLast_iff G h).2 ⟨hl, e⟩)
  refine ⟨?_, by omega⟩
  unfold advance
  rw [curAs_of h, if_neg (by simp only [Bool.or_eq_true, decide_eq_true_eq]; rintro (e | e); omega; exact he e), if_pos hl]
theorem adv_hop {t : Topo} {x : Pkt} (G : GoodP t x.path.parts) (h : hasHop x = true) (hl : ¬ lastOf x = true) : advance x = { x with hi := x.hi + 1 } := by
  have h1 := asn_nn G h
  unfold advance
  rw [curAs_of h, if_neg (by simp only [Bool.or_eq_true, decide_eq_true_eq]; rintro (e | e); omega; exact hl ((atLast_iff G h).1 e).1), if_neg hl]
theorem part_pos {t : Topo} {x : Pkt} (b : Int) (G : GoodP t x.path.parts) (h : hasHop x = true) (hl : lastOf x = true) (he : x.pi.toNat + 1 < x.path.parts.length) :
    hasHop { x with pi := x.pi + 1, hi := 0, beta := b } = true ∧ curAs { x with pi := x.pi + 1, hi := 0, beta := b } = curAs x := by
  obtain ⟨h0, h1, h2, h3⟩ := hasHop_iff.1 h
  have e1 : (x.pi + 1).toNat = x.pi.toNat + 1 := by omega
  have hn := G.ne _ he
  have hh : hasHop { x with pi := x.pi + 1, hi := 0, beta := b } = true := by
    rw [hasHop_iff]
    unfold curPart
    simp only [e1]
    exact ⟨by omega, he, by omega, by simpa using hn⟩
  refine ⟨hh, ?_⟩
  rw [curAs_of hh, curAs_of h]
  have hf := G.fol _ he
  have hle := (lastOf_iff h).1 hl
  unfold curHop curPart
  simp only [e1]
  unfold curPart at hle
  rw [show x.hi.toNat = (partAt x.path.parts x.pi.toNat).hops.length - 1 by omega, hf]
  rfl

theorem chk_walk {t : Topo} {now : Int} : ∀ (f : Nat) (x : Pkt), GoodP t x.path.parts → hasHop x = true → (chkAll t now f x).1 = 0 → x.path.parts.length ≤ f + x.pi.toNat + 1 →
    (chkAll t now f x).2.path = x.path ∧ (chkAll t now f x).2.dst = x.dst ∧ hasHop (chkAll t now f x).2 = true ∧ curAs (chkAll t now f x).2 = curAs x ∧ (∀ inn, walkAt (chkAll t now f x).2 inn = walkAt x inn) ∧
      (lastOf (chkAll t now f x).2 = true → atLast (chkAll t now f x).2 = true)
  | 0, x, G, hx, hc, hf => by
    obtain ⟨e1, e2, e3, e4, _⟩ := verCur_pos t x
    have hv : hasHop (verCur t x) = true := by unfold hasHop curPart; rw [e1, e2, e3]; exact hx
    refine ⟨e3, e4, hv, ?_, fun inn => ?_, fun hl => ?_⟩
    · show curAs (verCur t x) = _
      unfold curAs curHop hasHop curPart; rw [e1, e2, e3]
    · show walkAt (verCur t x) inn = _
      unfold walkAt restP restH curPart; rw [e1, e2, e3]
    · exact (atLast_iff (by rw [e3]; exact G) hv).2 ⟨hl, by rw [e3, e1]; omega⟩
  | f + 1, x, G, hx, hc, hf => by
    obtain ⟨e1, e2, e3, e4, _⟩ := verCur_pos t x
    have hv : hasHop (verCur t x) = true := by unfold hasHop curPart; rw [e1, e2, e3]; exact hx
    have hca : curAs (verCur t x) = curAs x := by unfold curAs curHop hasHop curPart; rw [e1, e2, e3]
    have hwa : ∀ inn, walkAt (verCur t x) inn = walkAt x inn := fun inn => by unfold walkAt restP restH curPart; rw [e1, e2, e3]
    have Gv : GoodP t (verCur t x).path.parts := by rw [e3]; exact G
    unfold chkAll at hc ⊢
    split at hc
    · rename_i hcond
      rw [if_pos hcond]
      simp only [Bool.and_eq_true, Bool.not_eq_true', beq_iff_eq] at hcond
      obtain ⟨⟨_, hl⟩, hna⟩ := hcond
      obtain ⟨ha, hlt⟩ := adv_part Gv hv hl (by rw [hna]; decide)
      have hp := part_pos (partAt (verCur t x).path.parts ((verCur t x).pi.toNat + 1)).beta Gv hv hl hlt
      rw [← ha] at hp
      have hpath : (advance (verCur t x)).path = x.path := by rw [ha]; exact e3
      have hdst : (advance (verCur t x)).dst = x.dst := by rw [ha]; exact e4
      have hpi : (advance (verCur t x)).pi.toNat = x.pi.toNat + 1 := by
        obtain ⟨h0, _⟩ := hasHop_iff.1 hx
        rw [ha]; show ((verCur t x).pi + 1).toNat = _; rw [e1]; omega
      obtain ⟨a1, a2, a3, a4, a5, a6⟩ := chk_walk f (advance (verCur t x)) (by rw [hpath]; exact G) hp.1 hc (by rw [hpath, hpi]; omega)
      refine ⟨a1.trans hpath, a2.trans hdst, a3, a4.trans (hp.2.trans hca), fun inn => ?_, a6⟩
      rw [a5 inn, ← hwa inn, walk_part inn _ hv hl hlt, ← ha]
    · rename_i hcond
      rw [if_neg hcond]
      refine ⟨e3, e4, hv, hca, hwa, fun hl => ?_⟩
      cases hna : atLast (verCur t x)
      · exfalso
        apply hcond
        simp only [Bool.and_eq_true, Bool.not_eq_true', beq_iff_eq]
        exact ⟨⟨hc, hl⟩, hna⟩
      · rfl

theorem chkCode_vals (t : Topo) (now : Int) (x : Pkt) : chkCode t now x = 0 ∨ chkCode t now x = 4 ∨ chkCode t now x = 5 := by
  unfold chkCode; split
  · split
    · exact .inl rfl
    · exact .inr (.inr rfl)
  · exact .inr (.inl rfl)
theorem chkAll_code (t : Topo) (now : Int) : ∀ (f : Nat) (x : Pkt), (chkAll t now f x).1 = 0 ∨ (chkAll t now f x).1 = 4 ∨ (chkAll t now f x).1 = 5
  | 0, x => chkCode_vals t now x
  | f + 1, x => by
    unfold chkAll
    split
    · exact chkAll_code t now f _
    · exact chkCode_vals t now x
theorem vp_hop {x : Pkt} (h : validPkt x = true) : hasHop x = true := by
  unfold validPkt at h
  simp only [Bool.and_eq_true] at h
  exact h.1.1.1.1.1.1.1.2
theorem good_of_simple {t : Topo} {p : Pth} (h : simple t p = true) : GoodP t p.parts := by
  unfold simple at h
  simp only [Bool.and_eq_true] at h
  exact good_of_wf h.1
theorem wantIn_hop {x : Pkt} (h : hasHop x = true) : wantIn { x with hi := x.hi + 1 } = partIn (curPart x) (x.hi + 1) := by
  obtain ⟨_, _, h0, _⟩ := hasHop_iff.1 h
  unfold wantIn
  rw [if_neg (by simp only [Bool.and_eq_true, beq_iff_eq]; omega)]
  rfl
/-- What forwarding has done if it went on, or delivered. -/
theorem fw_ok {t : Topo} {r now dead inn cd eg : Int} {x z : Pkt} (h : forward t r now dead inn x = ⟨cd, eg, z⟩) (hc : cd = 0 ∨ cd = 1) :
    validPkt x = true ∧ simple t x.path = true ∧ curAs x = r ∧ inn = wantIn x ∧ (chkAll t now x.path.parts.length x).1 = 0 ∧
      (cd = 1 → walkAt x inn = [⟨r, inn, eg⟩] ∧ x.dst = r ∧ eg = 0 ∧ z = (chkAll t now x.path.parts.length x).2 ∧ atLast (chkAll t now x.path.parts.length x).2 = true) ∧
      (cd = 0 → walkAt x inn = ⟨r, inn, eg⟩ :: walkAt z (wantIn z) ∧ remEnd t r eg = (curAs z, wantIn z) ∧ hasHop z = true ∧ z.path = x.path ∧ z.dst = x.dst ∧ stepOk t ⟨r, inn, eg⟩ = true ∧ inSet dead eg = false ∧
        z = { (chkAll t now x.path.parts.length x).2 with hi := (chkAll t now x.path.parts.length x).2.hi + 1 } ∧ eg = partEg (curPart (chkAll t now x.path.parts.length x).2) (chkAll t now x.path.parts.length x).2.hi ∧ ¬ lastOf (chkAll t now x.path.parts.length x).2 = true) := by
  unfold forward at h
  simp only at h
  split at h
  · cases h; omega
  rename_i h1
  simp only [Bool.not_eq_true', Bool.not_eq_false, Bool.and_eq_true, beq_iff_eq] at h1
  obtain ⟨⟨hv, hs⟩, hr⟩ := h1
  split at h
  · cases h; omega
  rename_i h2
  have hin : inn = wantIn x := by simpa using h2
  have G := good_of_simple hs
  have hx := vp_hop hv
  split at h
  · rename_i h3
    have h3' : ¬ (chkAll t now x.path.parts.length x).1 = 0 := by simpa using h3
    have : (chkAll t now x.path.parts.length x).1 = cd := by cases h; rfl
    have hn := chkAll_code t now x.path.parts.length x
    omega
  rename_i h3
  have hch : (chkAll t now x.path.parts.length x).1 = 0 := by simpa using h3
  obtain ⟨hy1, hy2, hy3, hy4, hy5, hy6⟩ := chk_walk x.path.parts.length x G hx hch (by omega)
  generalize hye : (chkAll t now x.path.parts.length x).2 = y at *
  have Gy : GoodP t y.path.parts := by rw [hy1]; exact G
  have hyr : (curHop y).asn = r := by rw [← curAs_of hy3, hy4, hr]
  refine ⟨hv, hs, hr, hin, hch, ?_⟩
  split at h
  · rename_i h4
    obtain ⟨hl, hf⟩ := (atLast_iff Gy hy3).1 h4
    split at h
    · rename_i h5
      cases h
      refine ⟨fun _ => ⟨?_, ?_, rfl, rfl, h4⟩, fun e => by omega⟩
      · rw [← hy5, walk_end inn hy3 hl hf, hyr]
      · rw [← hy2]; simpa using h5
    · cases h; omega
  · rename_i h4
    have hl : ¬ lastOf y = true := fun e => h4 (hy6 e)
    split at h
    · cases h; omega
    rename_i h5
    split at h
    · cases h; omega
    rename_i h6
    simp only [Vd.mk.injEq] at h
    obtain ⟨rfl, rfl, rfl⟩ := h
    refine ⟨fun e => by omega, fun _ => ?_⟩
    obtain ⟨hp0, hp1, hi0, hi1⟩ := hasHop_iff.1 hy3
    have hlt : y.hi.toNat + 1 < (curPart y).hops.length := by
      have h9 : ¬ y.hi.toNat + 1 = (curPart y).hops.length := fun e => hl ((lastOf_iff hy3).2 e)
      omega
    have e1 : (y.hi + 1).toNat = y.hi.toNat + 1 := by omega
    have hadv := adv_hop Gy hy3 hl
    have hz : hasHop { y with hi := y.hi + 1 } = true := by
      rw [hasHop_iff]
      refine ⟨hp0, hp1, by show 0 ≤ y.hi + 1; omega, ?_⟩
      show (y.hi + 1).toNat < _
      rw [e1]; exact hlt
    have heg : partEg (curPart y) y.hi = hopEg (curPart y).kind (curHop y) := by
      have := partEg_at (p := curPart y) hi1
      rw [show ((y.hi.toNat : Nat) : Int) = y.hi by omega] at this
      rw [this]; unfold curHop; rw [hopAt_at hi1]
    have hwi : wantIn { y with hi := y.hi + 1 } = hopIn (curPart y).kind (hopAt (curPart y).hops (y.hi.toNat + 1)) := by
      rw [wantIn_hop hy3]
      have := partIn_at (p := curPart y) hlt
      rw [show ((y.hi.toNat + 1 : Nat) : Int) = y.hi + 1 by omega] at this
      rw [this, hopAt_at hlt]
    have hj := Gy.join _ hp1 _ hlt
    unfold joinAt at hj
    simp only [Bool.and_eq_true, bne_iff_ne, beq_iff_eq] at hj
    obtain ⟨⟨_, hj1⟩, hj2⟩ := hj
    have hce : hopAt (partAt y.path.parts y.pi.toNat).hops y.hi.toNat = curHop y := rfl
    have hcz : curAs { y with hi := y.hi + 1 } = (hopAt (partAt y.path.parts y.pi.toNat).hops (y.hi.toNat + 1)).asn := by
      rw [curAs_of hz]; unfold curHop curPart; simp only [e1]
    rw [show ((y.hi.toNat : Nat) : Int) = y.hi by omega, hce, hyr] at hj1 hj2
    rw [hadv]
    refine ⟨?_, ?_, hz, hy1, hy2, ?_, ?_, rfl, rfl, hl⟩
    · rw [← hy5, walk_hop inn hy3 hl, hyr, ← heg, hwi]
    · refine Prod.ext ?_ ?_
      · rw [hcz]; exact hj1
      · rw [hwi]
        have h7 := partIn_at (p := curPart y) hlt
        rw [hopAt_at hlt, ← h7]
        exact hj2
    · cases hs5 : stepOk t ⟨r, inn, partEg (curPart y) y.hi⟩
      · rw [hs5] at h5; exact absurd rfl h5
      · rfl
    · cases hs6 : inSet dead (partEg (curPart y) y.hi)
      · rfl
      · rw [hs6] at h6; exact absurd rfl h6
end
end Go.Proofs.YtjmlicmloacmaaaGreat
