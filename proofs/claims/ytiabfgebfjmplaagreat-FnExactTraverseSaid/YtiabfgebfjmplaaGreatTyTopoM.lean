/- Ownership of a topology and its marks. No condition but the bounds that each theorem names. -/
import Derived.Test.YtiabfgebfjmplaaGreatTyTopo
import Derived.Test.YtiabfgebfjmplaaGreatTyPkt
namespace Go.Proofs.YtiabfgebfjmplaaGreat
open Go.ChangeShapes Go.WideShapes Go.ChangeAt Go.RowKit Go.Deep

def ASd.mk' (k : Int) : ASd := ⟨k, decide ((k + 1) % 3 = 0), k + 1 + 1⟩
theorem core_mark (k : Int) (_ : 0 ≤ k) : ((k + 1) % 3 == 0) = decide ((k + 1) % 3 = 0) := by
  by_cases e : (k + 1) % 3 = 0 <;> simp [e]
set_option maxHeartbeats 1000000 in
theorem l_markASS (l : List ASd) (v : Value) (k : Int) (base : Nat) (w : World) (hv : OwnF ASd.f 3 base 126 w v l) (h0 : 0 ≤ k) (h1 : k + 3 * l.length ≤ 4611686018427387904) :
    Calls Tryz.prog 56 #[v, .int .i64 k] w fun e w' => e = .returned (.int .i64 (k + 3 * l.length)) ∧ OwnF ASd.f 3 base 126 w' v (markL ASd.mk' 3 k l.length) ∧ w.grownBy w' v.ownBlock := by
  by_cases hl : 0 < l.length
  · obtain ⟨g, cap, rfl, hbg, hgs⟩ := hv.some_shape hl
    go_enter Tryz.func56, Tryz.ntmps56
    go_wp2
    go_loopw [1, 5] (fun kk i wr => ∃ (j : Nat) (xs : List ASd), j ≤ l.length ∧ i = .int .i64 j ∧ kk = .int .i64 (k + 3 * j) ∧ xs.length = l.length ∧ OwnF ASd.f 3 base 126 wr (.slice (some ⟨g, 0, none⟩) l.length cap) xs ∧ xs.take j = markL ASd.mk' 3 k j ∧ w.grownBy wr (some g)) (fun _ i _ => l.length - (intOf i).toNat)
    case atStart => exact ⟨0, l, Nat.zero_le _, rfl, by simp, rfl, hv, rfl, World.grownBy.refl _ _⟩
    case round =>
      obtain ⟨j, xs, hj, rfl, rfl, hxl, hown, htk, hx⟩ := hrel
      have Htk := Lib.hid htk; clear htk
      have Hxl := Lib.hid hxl; clear hxl
      by_cases hlt : j < l.length
      · have hcs := ASd.own_at hown j (by rw [Hxl.out]; exact hlt)
        have f0 := hown.free (j * 3)
        have f1 := hown.free (j * 3 + 1)
        have f2 := hown.free (j * 3 + 2)
        obtain ⟨ho3, hg3⟩ := ASd.own_set hown j (by rw [Hxl.out]; exact hlt) (ASd.mk' (k + 3 * j))
        have hx3 := hx.trans hg3
        simp only [ASd.mk'] at ho3 hx3
        generalize hcm : decide ((k + 3 * (j : Int) + 1) % 3 = 0) = cm at *
        have hcm2 : ((k + 3 * (j : Int) + 1) % 3 == 0) = cm := by rw [← hcm]; exact core_mark _ (by omega)
        have HCM := Lib.hid hcm; clear hcm
        go_wp2_with fail
        go_roundw
        case rel => exact ⟨j + 1, _, by omega, by go_num, by go_num, by simpa using Hxl.out, ho3, by rw [← HCM.out]; exact mark_snoc (mk := ASd.mk') Htk.out (by rw [Hxl.out]; exact hlt), hx3⟩
        case measure => simp [intOf]; omega
      · obtain rfl : j = l.length := by omega
        go_wp2
        go_ret
        refine ⟨rfl, ?_, hx⟩
        have := Htk.out
        rw [List.take_of_length_le (by rw [Hxl.out]; exact Nat.le_refl _)] at this
        rw [this] at hown
        have hml : (markL ASd.mk' 3 k l.length).length = l.length := by simp [markL]
        exact hown
  · have hl0 : l = [] := List.eq_nil_of_length_eq_zero (by omega)
    subst hl0
    obtain ⟨o, cap, rfl, _⟩ := (OwnF.rd (hf := ASd.flen) hv).shape
    go_enter Tryz.func56, Tryz.ntmps56
    go_wp2
    refine wp_loop_rounds 1 ?_; rw [rounds_succ]
    go_wp2
    go_ret
    exact ⟨by simp, hv, World.grownBy.refl _ _⟩
def asOwn : Own ASd := Own.flat ASd.f 3 ASd.flen 126
def lnkOwn : Own Lnk := Own.flat Lnk.f 5 Lnk.flen 124
/-- What a topology's two handles own: two sets that share no block. -/
def Topo.own (S : Nat → Prop) (w : World) (h0 h1 : Value) (x : Topo) : Prop :=
  ∃ S0 S1 : Nat → Prop, asOwn.own S0 w h0 x.ases ∧ lnkOwn.own S1 w h1 x.links ∧ (∀ b, S0 b → S b) ∧ (∀ b, S1 b → S b) ∧ ∀ b, S0 b → ¬ S1 b
theorem Topo.own_kept {S T : Nat → Prop} {w w' : World} {h0 h1 : Value} {x : Topo} (h : Topo.own S w h0 h1 x) (c : Chg T w w') (hs : ∀ b, S b → ¬ T b) : Topo.own S w' h0 h1 x := by
  obtain ⟨S0, S1, a, b, c0, c1, d⟩ := h
  exact ⟨S0, S1, asOwn.kept a c (fun k hk => hs k (c0 k hk)), lnkOwn.kept b c (fun k hk => hs k (c1 k hk)), c0, c1, d⟩
theorem Topo.own_ext {S : Nat → Prop} {w w' : World} {h0 h1 : Value} {x : Topo} (h : Topo.own S w h0 h1 x) (e : Ext w w') : Topo.own S w' h0 h1 x :=
  Topo.own_kept h (Chg.ofExt (S := noB) e) (fun _ _ h => h)
theorem Topo.own_mono {S T : Nat → Prop} {w : World} {h0 h1 : Value} {x : Topo} (h : Topo.own S w h0 h1 x) (hs : ∀ b, S b → T b) : Topo.own T w h0 h1 x := by
  obtain ⟨S0, S1, a, b, c0, c1, d⟩ := h
  exact ⟨S0, S1, a, b, fun k hk => hs k (c0 k hk), fun k hk => hs k (c1 k hk), d⟩
theorem Topo.own_rd0 {S : Nat → Prop} {w : World} {h0 h1 : Value} {x : Topo} (h : Topo.own S w h0 h1 x) : RdS ASd.rep w h0 x.ases := by
  obtain ⟨S0, S1, a, _⟩ := h; exact asOwn.rd a
theorem Topo.own_rd1 {S : Nat → Prop} {w : World} {h0 h1 : Value} {x : Topo} (h : Topo.own S w h0 h1 x) : RdS Lnk.rep w h1 x.links := by
  obtain ⟨S0, S1, _, b, _⟩ := h; exact lnkOwn.rd b
theorem Topo.own_inb {S : Nat → Prop} {w : World} {h0 h1 : Value} {x : Topo} (h : Topo.own S w h0 h1 x) : Topo.own (fun b => S b ∧ b < w.heap.size) w h0 h1 x := by
  obtain ⟨S0, S1, a, b, c0, c1, d⟩ := h
  exact ⟨_, _, asOwn.inb a, lnkOwn.inb b, fun k hk => ⟨c0 k hk.1, hk.2⟩, fun k hk => ⟨c1 k hk.1, hk.2⟩, fun k hk h2 => d k hk.1 h2.1⟩
/-- Two rows of different element types share no block. -/
theorem OwnF.apart {α β : Type} {n m : Nat} {f : α → List Value} {f' : β → List Value} {base base' : Nat} {e e' : TypeId} {w : World} {v v' : Value} {l : List α} {l' : List β} (h : OwnF f n base e w v l) (h' : OwnF f' m base' e' w v' l') (hne : e ≠ e') {b : Nat} (hb : v.ownBlock = some b) : v'.ownBlock ≠ some b := by
  rcases h.2 with ⟨rfl, _⟩ | ⟨g, cap, cur, rfl, _, hg, _⟩
  · simp [Value.ownBlock] at hb
  · have : g = b := by simpa [Value.ownBlock] using hb
    subst this
    exact OwnF.ne h' hg (fun x => hne x.symm)
theorem Topo.own_of {base : Nat} {w : World} {u1 u2 : Value} {x : Topo} (o1 : OwnF ASd.f 3 base 126 w u1 x.ases) (o2 : OwnF Lnk.f 5 base 124 w u2 x.links) : Topo.own (rng base w.heap.size) w u1 u2 x :=
  ⟨fun b => u1.ownBlock = some b, fun b => u2.ownBlock = some b, ⟨o1.to0, fun _ h => h⟩, ⟨o2.to0, fun _ h => h⟩, fun b hb => o1.block b hb, fun b hb => o2.block b hb, fun _ hb h2 => OwnF.apart o1 o2 (by decide) hb h2⟩
theorem l_toTopologyO (x : Topo) (v1 v2 : Value) (w : World) (r1 : RdS ASd.rep w v1 x.ases) (r2 : RdS Lnk.rep w v2 x.links) (hl : x.size ≤ 1048576) :
    Calls Tryz.prog 10 #[.agg #[v1, v2]] w fun e w' => ∃ u1 u2, e = .returned (.agg #[u1, u2]) ∧ Topo.own (rng w.heap.size w'.heap.size) w' u1 u2 x ∧ Ext w w' :=
  (l_toTopology x v1 v2 w r1 r2 hl).mono fun _ _ ⟨u1, u2, he, o1, o2, hx⟩ => ⟨u1, u2, he, Topo.own_of o1 o2, hx⟩
def Topo.cnt (x : Topo) : Int := 3 * x.ases.length + 5 * x.links.length
def Topo.marked (k : Int) (x : Topo) : Topo := ⟨markL ASd.mk' 3 k x.ases.length, markL Lnk.mk' 5 (k + 3 * x.ases.length) x.links.length⟩
theorem Topo.cnt_le {x : Topo} (h : x.size ≤ 1048576) : 0 ≤ x.cnt ∧ x.cnt ≤ 5242880 := by
  unfold Topo.size at h; unfold Topo.cnt; omega
set_option maxHeartbeats 1000000 in
theorem l_markTopology (x : Topo) (h0 h1 : Value) (k : Int) (S : Nat → Prop) (w : World) (o : Topo.own S w h0 h1 x) (hk : 0 ≤ k) (hm : k + x.cnt ≤ 4611686018427387904) :
    Calls Tryz.prog 18 #[.agg #[h0, h1], .int .i64 k] w fun e w' => e = .returned (.int .i64 (k + x.cnt)) ∧ Topo.own S w' h0 h1 (Topo.marked k x) ∧ Chg S w w' := by
  have hce : k + x.cnt = k + 3 * x.ases.length + 5 * x.links.length := by unfold Topo.cnt; omega
  rw [hce] at hm ⊢
  obtain ⟨S0, S1, o0, o1, c0, c1, hd⟩ := Topo.own_inb o
  have hx0 : Ext w (w.alloc (.cells #[h0, h1] 47)) := (Ext.refl _).alloc _
  have HB := Lib.hid (blk_new w (.cells #[h0, h1] 47))
  go_enter Tryz.func18, Tryz.ntmps18
  go_wp2_with fail
  refine (l_markASS x.ases _ k 0 _ (Own.ext o0 hx0).1 hk (by omega)).mono ?_
  rintro e w1 ⟨rfl, o0', g1⟩
  have d1 : Chg S0 _ w1 := Chg.ofGrown g1 o0.2
  have o1' := lnkOwn.kept (Own.ext o1 hx0) d1 (fun b hb h2 => hd b h2 hb)
  have hb1 := (d1.block _ (blk_lt HB.out) (fun h => by have := (c0 _ h).2; omega)).trans HB.out
  have hc := blk2 hb1
  clear hb1 g1
  have hp : 0 ≤ k + 3 * x.ases.length := by omega
  go_wp2_with fail
  refine (l_markLinkS x.links _ (k + 3 * x.ases.length) 0 _ o1'.1 hp hm).mono ?_
  rintro e w2 ⟨rfl, o1'', g2⟩
  have d2 : Chg S1 w1 w2 := Chg.ofGrown g2 o1'.2
  have o0'' := asOwn.kept (S := S0) ⟨o0', o0.2⟩ d2 (fun b hb h2 => hd b hb h2)
  clear g2
  go_wp2_with fail
  go_ret
  refine ⟨rfl, ⟨S0, S1, o0'', ⟨o1'', o1.2⟩, fun b hb => (c0 b hb).1, fun b hb => (c1 b hb).1, hd⟩, ?_⟩
  exact ((Chg.ofExt hx0).trans (d1.mono (fun b hb => (c0 b hb).1))).trans (d2.mono (fun b hb => (c1 b hb).1))
end Go.Proofs.YtiabfgebfjmplaaGreat
