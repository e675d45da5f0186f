/- Contracts of putting unrevoked paths first, program and reference. No condition but the bounds that each theorem names. -/
import Derived.Test.YtpeipodehflmaaaW31p
import Derived.Test.YtpeipodehflmaaaW21c
import Derived.Test.YtpeipodehflmaaaTyPthS
import Derived.Test.YtpeipodehflmaaaAppG
namespace Go.Proofs.Ytpeipodehflmaaa
open Go.ChangeShapes Go.WideShapes Go.ChangeAt Go.RowKit Go.Deep

def goodP (rl : List Revc) (now : Int) (l : List Pth) : List Pth := l.filter (fun y => !(revoked rl y now))
def badP (rl : List Revc) (now : Int) (l : List Pth) : List Pth := l.filter (fun y => revoked rl y now)
def prefer (rl : List Revc) (l : List Pth) (now : Int) : List Pth := goodP rl now l ++ badP rl now l
theorem pth_one (x : Pth) (o : Option Addr) (n c : Nat) : ∀ u ∈ Pth.c x (.slice o n c), u.oneCell' = true := by
  intro u hu
  simp only [Pth.c, List.mem_cons, List.not_mem_nil, or_false] at hu
  rw [hu]; rfl
theorem goodP_yes {rl : List Revc} {now : Int} {l : List Pth} {k : Nat} (hk : k < l.length) (h : revoked rl l[k] now = false) : goodP rl now (l.take k) ++ [l[k]] = goodP rl now (l.take (k + 1)) := filter_pos _ hk (by simp [h])
theorem goodP_no {rl : List Revc} {now : Int} {l : List Pth} {k : Nat} (hk : k < l.length) (h : revoked rl l[k] now = true) : goodP rl now (l.take k) = goodP rl now (l.take (k + 1)) := filter_neg _ hk (by simp [h])
theorem badP_yes {rl : List Revc} {now : Int} {l : List Pth} {k : Nat} (hk : k < l.length) (h : revoked rl l[k] now = true) : badP rl now (l.take k) ++ [l[k]] = badP rl now (l.take (k + 1)) := filter_pos _ hk (by simp [h])
theorem badP_no {rl : List Revc} {now : Int} {l : List Pth} {k : Nat} (hk : k < l.length) (h : revoked rl l[k] now = false) : badP rl now (l.take k) = badP rl now (l.take (k + 1)) := filter_neg _ hk (by simp [h])
theorem goodP_len (rl : List Revc) (now : Int) (l : List Pth) (k : Nat) : (goodP rl now (l.take k)).length ≤ k := Nat.le_trans (List.length_filter_le _ _) (List.length_take_le _ _)
theorem badP_len (rl : List Revc) (now : Int) (l : List Pth) (k : Nat) : (badP rl now (l.take k)).length ≤ k := Nat.le_trans (List.length_filter_le _ _) (List.length_take_le _ _)
theorem pszN_parts (l : List Pth) (p : Pth → Bool) : pszN (l.filter p) + pszN (l.filter (fun y => !(p y))) = pszN l := by
  induction l with
  | nil => rfl
  | cons x l ih =>
    unfold pszN at *
    cases h : p x
    · rw [List.filter_cons_of_neg (by simp [h]), List.filter_cons_of_pos (by simp [h])]
      simp only [List.map_cons, List.sum_cons]; omega
    · rw [List.filter_cons_of_pos (by simp [h]), List.filter_cons_of_neg (by simp [h])]
      simp only [List.map_cons, List.sum_cons]; omega
theorem pszN_app (a b : List Pth) : pszN (a ++ b) = pszN a + pszN b := by unfold pszN; rw [List.map_append, List.sum_append]
theorem len_parts (l : List Pth) (p : Pth → Bool) : (l.filter p).length + (l.filter (fun y => !(p y))).length = l.length := by
  induction l with
  | nil => rfl
  | cons x l ih =>
    cases h : p x
    · rw [List.filter_cons_of_neg (by simp [h]), List.filter_cons_of_pos (by simp [h])]
      simp only [List.length_cons]; omega
    · rw [List.filter_cons_of_pos (by simp [h]), List.filter_cons_of_neg (by simp [h])]
      simp only [List.length_cons]; omega
theorem prefer_size (rl : List Revc) (l : List Pth) (now : Int) : pthsN (prefer rl l now) = pthsN l := by
  have h1 := pszN_parts l (fun y => revoked rl y now)
  have h2 := len_parts l (fun y => revoked rl y now)
  unfold pthsN prefer goodP badP
  rw [pszN_app, List.length_append]
  omega

set_option maxRecDepth 100000 in
set_option maxHeartbeats 4000000 in
theorem i_PreferUnrevoked (rl : List Revc) (u : Value) (ps : List Pth) (v : Value) (now : Int) (w : World) (ru : RdS Revc.rep w u rl) (rp : RdS Pth.rep w v ps) (hm : rl.length ≤ 1048576) (hl : pthsN ps ≤ 1048576) :
    Calls Try.prog 66 #[u, v, .int .i64 now] w fun e w' => ∃ v', e = .returned v' ∧ Pth.ownS.own (rng w.heap.size w'.heap.size) w' v' (prefer rl ps now) ∧ Ext w w' := by
  obtain ⟨E⟩ := elemPth
  obtain ⟨o, cap, rfl, hsm⟩ := rp.shape
  obtain ⟨ou, cu, rfl, _⟩ := ru.shape
  unfold pthsN at hl
  have hpr : prefer rl ps now = goodP rl now ps ++ badP rl now ps := rfl
  have HPR := Lib.hid hpr; clear hpr
  go_enter Try.func66, Try.ntmps66
  go_wp2
  go_loopg [7, 8, 13] ps.length (fun gk out bad i wr => ∃ (k : Nat) (S1 S2 : Nat → Prop), gk + k = ps.length ∧ i = .int .i64 k ∧ Pth.ownS.own S1 wr out (goodP rl now (ps.take k)) ∧ Pth.ownS.own S2 wr bad (badP rl now (ps.take k)) ∧ Hid ((∀ b, S1 b → w.heap.size ≤ b ∧ b < wr.heap.size) ∧ (∀ b, S2 b → w.heap.size ≤ b ∧ b < wr.heap.size) ∧ ∀ b, S1 b → ¬ S2 b) ∧ Ext w wr)
  case atStart => exact ⟨0, noB, noB, rfl, rfl, Pth.ownS.nil _, Pth.ownS.nil _, Lib.hid ⟨fun b h => h.elim, fun b h => h.elim, fun b h => h.elim⟩, Ext.refl _⟩
  case round =>
    obtain ⟨k, S1, S2, hgk, rfl, hO, hB, HS, hx⟩ := hrel
    have hgl := goodP_len rl now ps k
    have hbl := badP_len rl now ps k
    by_cases hlt : k < ps.length
    · obtain ⟨b, off, oh, ch, rfl, hc, hr⟩ := Pth.at (rp.ext hx) k hlt
      have hle := pszN_le hlt
      have hg0 : gk - 1 + (k + 1) = ps.length ∧ gk - 1 < gk := by omega
      have HG := Lib.hid hg0; clear hg0 hgk
      have hxa : Ext wr (wr.alloc (.cells #[.slice oh ps[k].parts.length ch] 47)) := (Ext.refl _).alloc _
      have HBX := Lib.hid (blk_new wr (.cells #[.slice oh ps[k].parts.length ch] 47))
      go_wp2_with fail
      refine (i_Revoked rl _ ps[k] _ now _ (ru.ext (hx.trans hxa)) (hr.ext hxa) hm (by omega)).mono ?_
      rintro e w1 ⟨rfl, h1⟩
      have hx1r := hxa.trans h1
      have hcx := blk1 (h1.block HBX.out)
      cases hrv : revoked rl ps[k] now
      · have HY := Lib.hid (goodP_yes hlt hrv)
        have HN := Lib.hid (badP_no hlt hrv)
        clear hbl
        generalize goodP rl now (ps.take k) = gl at *
        go_wp2_with fail
        refine (i_copyPath ps[k] _ _ (hr.ext hx1r) (by omega)).mono ?_
        rintro e w2 ⟨u2, rfl, o2, h2⟩
        obtain ⟨oo, co, rfl, _⟩ := (Part.ord o2).shape
        have hs2 := h2.size
        have hs1 := hx1r.size
        go_wp2_with (at_builtin; refine appG (S := S1) (w0 := w1) (c := Pth.c) (hc := Pth.clen) (sub := (·.parts)) (I := Part.own) E rfl _ _ rfl ps[k] (.slice oo ps[k].parts.length co) (rng w1.heap.size w2.heap.size) (pth_one _ _ _ _) rfl (Own.ext hO hx1r) (h2.alloc _) (Own.ext o2 ((Ext.refl _).alloc _)) (fun q hq => ⟨hq.1, by have := hq.2; simp; omega⟩) rfl (by exact blk_list (Pth.c ps[k] (.slice oo ps[k].parts.length co)) (blk_new w2 _)) (by omega) (by unfold maxLen; omega) ?_)
        intro v' w' ho' hg' hvS
        have hgs : w2.heap.size + 1 ≤ w'.heap.size := by have := hg'.size; simpa using this
        rw [HY.out] at ho'
        have hB' := Own.kept Pth.ownS (Own.ext hB (hx1r.trans (h2.alloc _))) (Chg.ofGrown (S := S1) hg' hvS) (fun b hb h => HS.out.2.2 b h hb)
        rw [HN.out] at hB'
        have hx' := ((hx.trans (hx1r.trans h2)).alloc _).grown hg' (fun q hq => (HS.out.1 q (hvS q hq)).1)
        have hsw := hx.size
        have HS' : Hid ((∀ b, (S1 b ∨ (w1.heap.size ≤ b ∧ b < w'.heap.size)) → w.heap.size ≤ b ∧ b < w'.heap.size) ∧ (∀ b, S2 b → w.heap.size ≤ b ∧ b < w'.heap.size) ∧ ∀ b, (S1 b ∨ (w1.heap.size ≤ b ∧ b < w'.heap.size)) → ¬ S2 b) := by
          refine Lib.hid ⟨fun b hb => ?_, fun b hb => ?_, fun b hb h => ?_⟩
          · rcases hb with hb | hb
            · have := HS.out.1 b hb; omega
            · omega
          · have := HS.out.2.1 b hb; omega
          · rcases hb with hb | hb
            · exact HS.out.2.2 b hb h
            · have := HS.out.2.1 b h; omega
        clear hg' hvS HS hO hB
        go_wp2_with fail
        go_roundg (gk - 1)
        case measure => exact HG.out.2
        case rel => exact ⟨k + 1, _, S2, HG.out.1, by go_num, ho', hB', HS', hx'⟩
      · have HY := Lib.hid (badP_yes hlt hrv)
        have HN := Lib.hid (goodP_no hlt hrv)
        clear hgl
        generalize badP rl now (ps.take k) = gl at *
        go_wp2_with fail
        refine (i_copyPath ps[k] _ _ (hr.ext hx1r) (by omega)).mono ?_
        rintro e w2 ⟨u2, rfl, o2, h2⟩
        obtain ⟨oo, co, rfl, _⟩ := (Part.ord o2).shape
        have hs2 := h2.size
        have hs1 := hx1r.size
        go_wp2_with (at_builtin; refine appG (S := S2) (w0 := w1) (c := Pth.c) (hc := Pth.clen) (sub := (·.parts)) (I := Part.own) E rfl _ _ rfl ps[k] (.slice oo ps[k].parts.length co) (rng w1.heap.size w2.heap.size) (pth_one _ _ _ _) rfl (Own.ext hB hx1r) (h2.alloc _) (Own.ext o2 ((Ext.refl _).alloc _)) (fun q hq => ⟨hq.1, by have := hq.2; simp; omega⟩) rfl (by exact blk_list (Pth.c ps[k] (.slice oo ps[k].parts.length co)) (blk_new w2 _)) (by omega) (by unfold maxLen; omega) ?_)
        intro v' w' ho' hg' hvS
        have hgs : w2.heap.size + 1 ≤ w'.heap.size := by have := hg'.size; simpa using this
        rw [HY.out] at ho'
        have hO' := Own.kept Pth.ownS (Own.ext hO (hx1r.trans (h2.alloc _))) (Chg.ofGrown (S := S2) hg' hvS) (fun b hb h => HS.out.2.2 b hb h)
        rw [HN.out] at hO'
        have hx' := ((hx.trans (hx1r.trans h2)).alloc _).grown hg' (fun q hq => (HS.out.2.1 q (hvS q hq)).1)
        have hsw := hx.size
        have HS' : Hid ((∀ b, S1 b → w.heap.size ≤ b ∧ b < w'.heap.size) ∧ (∀ b, (S2 b ∨ (w1.heap.size ≤ b ∧ b < w'.heap.size)) → w.heap.size ≤ b ∧ b < w'.heap.size) ∧ ∀ b, S1 b → ¬ (S2 b ∨ (w1.heap.size ≤ b ∧ b < w'.heap.size))) := by
          refine Lib.hid ⟨fun b hb => ?_, fun b hb => ?_, fun b h hb => ?_⟩
          · have := HS.out.1 b hb; omega
          · rcases hb with hb | hb
            · have := HS.out.2.1 b hb; omega
            · omega
          · rcases hb with hb | hb
            · exact HS.out.2.2 b h hb
            · have := HS.out.1 b h; omega
        clear hg' hvS HS hO hB
        go_wp2_with fail
        go_roundg (gk - 1)
        case measure => exact HG.out.2
        case rel => exact ⟨k + 1, S1, _, HG.out.1, by go_num, hO', ho', HS', hx'⟩
    · have hkl : ps.take k = ps := List.take_of_length_le (by omega)
      have hgl' := goodP_len rl now ps k
      rw [hkl] at hO hB hgl hbl
      go_wp2_with (at_builtin; refine appGS (S := S1) (S2 := S2) (c := Pth.c) (hc := Pth.clen) (sub := (·.parts)) (I := Part.own) E rfl _ _ rfl pth_one rfl hO rfl hB HS.out.2.2 (by omega) (by unfold maxLen; omega) ?_)
      intro v' w' ho' hg' hvS
      have hx' := hx.grown hg' (fun q hq => (HS.out.1 q (hvS q hq)).1)
      have hgs := hg'.size
      have hsw := hx.size
      have ho2 := Pth.ownS.mono (T := rng w.heap.size w'.heap.size) ho' (fun b hb => by
        rcases hb with (hb | hb) | hb
        · have := HS.out.1 b hb; exact ⟨this.1, by omega⟩
        · have := HS.out.2.1 b hb; exact ⟨this.1, by omega⟩
        · exact ⟨by omega, hb.2⟩)
      clear hg' ho'
      go_wp2_with fail
      go_ret
      rw [HPR.out]
      exact ⟨_, rfl, ho2, hx'⟩

set_option maxRecDepth 100000 in
set_option maxHeartbeats 4000000 in
theorem s_PreferUnrevoked (rl : List Revc) (u : Value) (ps : List Pth) (v : Value) (now : Int) (w : World) (ru : RdS Revc.rep w u rl) (rp : RdS Pth.rep w v ps) (hm : rl.length ≤ 1048576) (hl : pthsN ps ≤ 1048576) :
    Calls Try.prog 64 #[u, v, .int .i64 now] w fun e w' => ∃ v', e = .returned v' ∧ Pth.ownS.own (rng w.heap.size w'.heap.size) w' v' (prefer rl ps now) ∧ Ext w w' := by
  obtain ⟨E⟩ := elemPth
  obtain ⟨o, cap, rfl, hsm⟩ := rp.shape
  obtain ⟨ou, cu, rfl, _⟩ := ru.shape
  unfold pthsN at hl
  have hpr : prefer rl ps now = goodP rl now ps ++ badP rl now ps := rfl
  have HPR := Lib.hid hpr; clear hpr
  go_enter Try.func64, Try.ntmps64
  go_wp2
  go_loopg [7, 8] ps.length (fun gk out i wr => ∃ (k : Nat) (S1 : Nat → Prop), gk + k = ps.length ∧ i = .int .i64 k ∧ Pth.ownS.own S1 wr out (goodP rl now (ps.take k)) ∧ Hid (∀ b, S1 b → w.heap.size ≤ b ∧ b < wr.heap.size) ∧ Ext w wr)
  case atStart =>
    refine ⟨0, rng w.heap.size (w.heap.size + 1), rfl, rfl, ?_, Lib.hid (fun b h => ⟨h.1, by have := h.2; simp; omega⟩), (Ext.refl _).alloc _⟩
    exact ⟨[], rfl, OwnF.to0 (OwnF.empty (capF Pth.c) 1 w.heap.size 47 w (Nat.le_refl _)), (fun q hq => by cases hq; exact ⟨Nat.le_refl _, Nat.lt_succ_self _⟩), (fun q h => by cases h), (fun i j hi => by cases hi)⟩
  case round =>
    obtain ⟨k, S1, hgk, rfl, hO, HS, hx⟩ := hrel
    have hgl : (goodP rl now (ps.take k)).length ≤ k := goodP_len rl now ps k
    by_cases hlt : k < ps.length
    · obtain ⟨b, off, oh, ch, rfl, hc, hr⟩ := Pth.at (rp.ext hx) k hlt
      have hle := pszN_le hlt
      have hg0 : gk - 1 + (k + 1) = ps.length ∧ gk - 1 < gk := by omega
      have HG := Lib.hid hg0; clear hg0 hgk
      go_wp2_with fail
      refine (s_Revoked rl _ ps[k] _ now _ (ru.ext hx) hr hm (by omega)).mono ?_
      rintro e w1 ⟨rfl, hx1r⟩
      have hcx := hx1r.cell hc
      cases hrv : revoked rl ps[k] now
      · have HY := Lib.hid (goodP_yes hlt hrv)
        generalize hge : goodP rl now (ps.take k) = gl at *
        have HGL := Lib.hid hge; clear hge
        go_wp2_with fail
        refine (s_l22Copy ps[k] _ _ (hr.ext hx1r) (by omega)).mono ?_
        rintro e w2 ⟨u2, rfl, o2, h2⟩
        obtain ⟨oo, co, rfl, _⟩ := (Part.ord o2).shape
        have hs2 := h2.size
        have hs1 := hx1r.size
        go_wp2_with (at_builtin; refine appG (S := S1) (w0 := w1) (c := Pth.c) (hc := Pth.clen) (sub := (·.parts)) (I := Part.own) E rfl _ _ rfl ps[k] (.slice oo ps[k].parts.length co) (rng w1.heap.size w2.heap.size) (pth_one _ _ _ _) rfl (Own.ext hO hx1r) (h2.alloc _) (Own.ext o2 ((Ext.refl _).alloc _)) (fun q hq => ⟨hq.1, by have := hq.2; simp; omega⟩) rfl (by exact blk_list (Pth.c ps[k] (.slice oo ps[k].parts.length co)) (blk_new w2 _)) (by omega) (by unfold maxLen; omega) ?_)
        intro v' w' ho' hg' hvS
        have hgs : w2.heap.size + 1 ≤ w'.heap.size := by have := hg'.size; simpa using this
        rw [HY.out] at ho'
        have hx' := ((hx.trans (hx1r.trans h2)).alloc _).grown hg' (fun q hq => (HS.out q (hvS q hq)).1)
        have hsw := hx.size
        have HS' : Hid (∀ b, (S1 b ∨ (w1.heap.size ≤ b ∧ b < w'.heap.size)) → w.heap.size ≤ b ∧ b < w'.heap.size) := by
          refine Lib.hid (fun b hb => ?_)
          rcases hb with hb | hb
          · have := HS.out b hb; omega
          · omega
        clear hg' hvS HS hO
        go_wp2_with fail
        go_roundg (gk - 1)
        case measure => exact HG.out.2
        case rel => exact ⟨k + 1, _, HG.out.1, by go_num, ho', HS', hx'⟩
      · have HN := Lib.hid (goodP_no hlt hrv)
        have hO' := Own.ext hO hx1r
        rw [HN.out] at hO'
        have hs1 := hx1r.size
        have HS' : Hid (∀ b, S1 b → w.heap.size ≤ b ∧ b < w1.heap.size) := Lib.hid (fun b hb => by have := HS.out b hb; omega)
        clear hgl
        go_wp2_with fail
        go_roundg (gk - 1)
        case measure => exact HG.out.2
        case rel => exact ⟨k + 1, S1, HG.out.1, by go_num, hO', HS', hx.trans hx1r⟩
    · have hkl : ps.take k = ps := List.take_of_length_le (by omega)
      rw [hkl] at hO hgl
      have e0 : goodP rl now ps ++ badP rl now (ps.take 0) = goodP rl now ps := by rw [List.take_zero]; exact List.append_nil _
      rw [← e0] at hO
      have hO0 := hO
      clear hO e0
      go_wp2
      go_loopg [7, 9] ps.length (fun gk out i wr => ∃ (k : Nat) (S1 : Nat → Prop), gk + k = ps.length ∧ i = .int .i64 k ∧ Pth.ownS.own S1 wr out (goodP rl now ps ++ badP rl now (ps.take k)) ∧ Hid (∀ b, S1 b → w.heap.size ≤ b ∧ b < wr.heap.size) ∧ Ext w wr)
      case atStart => exact ⟨0, S1, rfl, rfl, hO0, HS, hx⟩
      case round =>
        clear hO0 HS hx hgl hkl hlt hgk
        obtain ⟨k, S1, hgk, rfl, hO, HS, hx⟩ := hrel
        have hgl : (goodP rl now ps ++ badP rl now (ps.take k)).length ≤ ps.length + k := by have h1 := badP_len rl now ps k; have h2 : (goodP rl now ps).length ≤ ps.length := List.length_filter_le _ _; rw [List.length_append]; omega
        by_cases hlt : k < ps.length
        · obtain ⟨b, off, oh, ch, rfl, hc, hr⟩ := Pth.at (rp.ext hx) k hlt
          have hle := pszN_le hlt
          have hg0 : gk - 1 + (k + 1) = ps.length ∧ gk - 1 < gk := by omega
          have HG := Lib.hid hg0; clear hg0 hgk
          go_wp2_with fail
          refine (s_Revoked rl _ ps[k] _ now _ (ru.ext hx) hr hm (by omega)).mono ?_
          rintro e w1 ⟨rfl, hx1r⟩
          have hcx := hx1r.cell hc
          cases hrv : revoked rl ps[k] now
          · have HN := Lib.hid (badP_no hlt hrv)
            have hO' := Own.ext hO hx1r
            rw [HN.out] at hO'
            have hs1 := hx1r.size
            have HS' : Hid (∀ b, S1 b → w.heap.size ≤ b ∧ b < w1.heap.size) := Lib.hid (fun b hb => by have := HS.out b hb; omega)
            clear hgl
            go_wp2_with fail
            go_roundg (gk - 1)
            case measure => exact HG.out.2
            case rel => exact ⟨k + 1, S1, HG.out.1, by go_num, hO', HS', hx.trans hx1r⟩
          · have HY := Lib.hid (badP_yes hlt hrv)
            generalize hge : goodP rl now ps ++ badP rl now (ps.take k) = gl at *
            have HGL := Lib.hid hge; clear hge
            go_wp2_with fail
            refine (s_l22Copy ps[k] _ _ (hr.ext hx1r) (by omega)).mono ?_
            rintro e w2 ⟨u2, rfl, o2, h2⟩
            obtain ⟨oo, co, rfl, _⟩ := (Part.ord o2).shape
            have hs2 := h2.size
            have hs1 := hx1r.size
            go_wp2_with (at_builtin; refine appG (S := S1) (w0 := w1) (c := Pth.c) (hc := Pth.clen) (sub := (·.parts)) (I := Part.own) E rfl _ _ rfl ps[k] (.slice oo ps[k].parts.length co) (rng w1.heap.size w2.heap.size) (pth_one _ _ _ _) rfl (Own.ext hO hx1r) (h2.alloc _) (Own.ext o2 ((Ext.refl _).alloc _)) (fun q hq => ⟨hq.1, by have := hq.2; simp; omega⟩) rfl (by exact blk_list (Pth.c ps[k] (.slice oo ps[k].parts.length co)) (blk_new w2 _)) (by omega) (by unfold maxLen; omega) ?_)
            intro v' w' ho' hg' hvS
            have hgs : w2.heap.size + 1 ≤ w'.heap.size := by have := hg'.size; simpa using this
            rw [← HGL.out, List.append_assoc, HY.out] at ho'
            have hx' := ((hx.trans (hx1r.trans h2)).alloc _).grown hg' (fun q hq => (HS.out q (hvS q hq)).1)
            have hsw := hx.size
            have HS' : Hid (∀ b, (S1 b ∨ (w1.heap.size ≤ b ∧ b < w'.heap.size)) → w.heap.size ≤ b ∧ b < w'.heap.size) := by
              refine Lib.hid (fun b hb => ?_)
              rcases hb with hb | hb
              · have := HS.out b hb; omega
              · omega
            clear hg' hvS HS hO
            go_wp2_with fail
            go_roundg (gk - 1)
            case measure => exact HG.out.2
            case rel => exact ⟨k + 1, _, HG.out.1, by go_num, ho', HS', hx'⟩
        · have hkl : ps.take k = ps := List.take_of_length_le (by omega)
          rw [hkl] at hO
          have ho2 := Pth.ownS.mono (T := rng w.heap.size wr.heap.size) hO (fun b hb => HS.out b hb)
          clear hO
          go_wp2
          go_ret
          rw [HPR.out]
          exact ⟨_, rfl, ho2, hx⟩

end Go.Proofs.Ytpeipodehflmaaa
