/- What these laws need: FnNotes: When a packet that began right is delivered: exactly if every hop on its way verifies and is in time, where every AS permits. Parts as they are drawn: of segments whose hops are sealed; they verify, in both directions. The least expiry of a row of hop fields. -/
import Derived.Deep.LoopGhost
import Derived.Test.YtcpfmhgfaliemaaGreatKM13
namespace Go.Proofs.YtcpfmhgfaliemaaGreat
section
open Go.RowKit
def verAt (t : Topo) (ps : List Part) (j i : Nat) : Bool := verHop t (partAt ps j).ts (betaFor (partAt ps j) i) (hopAt (partAt ps j).hops i)
def timeAt (now : Int) (ps : List Part) (j i : Nat) : Bool := decide ((partAt ps j).ts ≤ now) && decide (now ≤ (hopAt (partAt ps j).hops i).exp)
def validAt (ps : List Part) (j i : Nat) : Prop := j < ps.length ∧ i < (partAt ps j).hops.length
def after (x : Pkt) (j i : Nat) : Prop := x.pi.toNat < j ∨ (x.pi.toNat = j ∧ x.hi.toNat ≤ i)
def betaOk (x : Pkt) : Prop := x.beta = betaTo (curPart x) x.hi.toNat
theorem betaAfter_to {x : Part} {i : Nat} (h : i ≤ x.hops.length) : betaAfter x i = betaTo x i := by
 unfold betaAfter; rw [if_pos (by omega)]; simp
theorem before_for {x : Pkt} (h : hasHop x = true) (hb : betaOk x) : curBefore x = betaFor (curPart x) x.hi.toNat := by
 obtain ⟨_, _, _, h3⟩ := hasHop_iff.1 h; unfold curBefore betaFor; rw [hb]
 split
 ·
  rename_i hr
  rw [betaAfter_to (by omega), betaTo_succ h3, if_pos hr]; unfold curHop; rw [hopAt_at h3]
 ·
  rw [betaAfter_to (by omega)]
theorem after_to {x : Pkt} (h : hasHop x = true) (hb : betaOk x) : curAfter x = betaTo (curPart x) (x.hi.toNat + 1) := by
 obtain ⟨_, _, _, h3⟩ := hasHop_iff.1 h; unfold curAfter; rw [betaTo_succ h3, ← hb]; unfold curHop; rw [hopAt_at h3]
theorem curOk_at {t : Topo} {x : Pkt} (h : hasHop x = true) (hb : betaOk x) : curOk t x = verAt t x.path.parts x.pi.toNat x.hi.toNat := by
 unfold curOk verAt; rw [h, before_for h hb]; rfl
theorem curIn_time {t : Topo} {x : Pkt} {now : Int} (G : GoodP t x.path.parts) (h : hasHop x = true) : curIn x now = timeAt now x.path.parts x.pi.toNat x.hi.toNat := by
 unfold curIn timeAt; rw [curAs_of h]; have := asn_nn G h; rw [decide_eq_true this, Bool.true_and]; rfl
theorem verCur_yes {t : Topo} {x : Pkt} (h : curOk t x = true) : verCur t x = { x with beta := curAfter x } := by unfold verCur; rw [if_pos h]
theorem chk_res {t : Topo} {now : Int} : ∀ (f : Nat) (x : Pkt), GoodP t x.path.parts → hasHop x = true → betaOk x → x.path.parts.length ≤ f + x.pi.toNat + 1 →
  ((chkAll t now f x).1 = 0 ∧ (chkAll t now f x).2.beta = betaTo (curPart (chkAll t now f x).2) ((chkAll t now f x).2.hi.toNat + 1) ∧
    (∀ j i, validAt x.path.parts j i → after x j i → (after { (chkAll t now f x).2 with hi := (chkAll t now f x).2.hi + 1 } j i ∨ (verAt t x.path.parts j i = true ∧ timeAt now x.path.parts j i = true)))) ∨
   ((chkAll t now f x).1 = 4 ∧ ∃ j i, validAt x.path.parts j i ∧ verAt t x.path.parts j i = false) ∨ ((chkAll t now f x).1 = 5 ∧ ∃ j i, validAt x.path.parts j i ∧ timeAt now x.path.parts j i = false)
 | f, x, G, hx, hb, hf => by
  obtain ⟨h0, h1, h2, h3⟩ := hasHop_iff.1 hx; have hco := curOk_at (t := t) hx hb; have hci := curIn_time (now := now) G hx
  have hva : validAt x.path.parts x.pi.toNat x.hi.toNat := ⟨h1, h3⟩
  cases ho : curOk t x
  ·
   right; left
   have hc : chkCode t now x = 4 := by unfold chkCode; rw [ho]; rfl
   have : (chkAll t now f x).1 = 4 := by
    cases f with
    | zero => exact hc
    | succ f => unfold chkAll; rw [hc]; simp
   exact ⟨this, _, _, hva, by rw [← hco, ho]⟩
  ·
   cases hi : curIn x now
   ·
    right; right
    have hc : chkCode t now x = 5 := by unfold chkCode; rw [ho, hi]; rfl
    have : (chkAll t now f x).1 = 5 := by
     cases f with
     | zero => exact hc
     | succ f => unfold chkAll; rw [hc]; simp
    exact ⟨this, _, _, hva, by rw [← hci, hi]⟩
   ·
    have hc : chkCode t now x = 0 := by unfold chkCode; rw [ho, hi]; rfl
    have hvy := verCur_yes ho
    have hgood : verAt t x.path.parts x.pi.toNat x.hi.toNat = true ∧ timeAt now x.path.parts x.pi.toNat x.hi.toNat = true := ⟨by rw [← hco, ho], by rw [← hci, hi]⟩
    have stay : (chkAll t now f x).1 = 0 → (chkAll t now f x).2 = verCur t x → ((chkAll t now f x).1 = 0 ∧ (chkAll t now f x).2.beta = betaTo (curPart (chkAll t now f x).2) ((chkAll t now f x).2.hi.toNat + 1) ∧
      (∀ j i, validAt x.path.parts j i → after x j i → (after { (chkAll t now f x).2 with hi := (chkAll t now f x).2.hi + 1 } j i ∨ (verAt t x.path.parts j i = true ∧ timeAt now x.path.parts j i = true)))) := fun e1 e2 => by
     refine ⟨e1, ?_, fun j i hv ha => ?_⟩
     ·
      rw [e2, hvy]; exact after_to hx hb
     ·
      rw [e2, hvy]
      rcases ha with ha | ⟨ha, hb2⟩
      ·
       exact .inl (.inl ha)
      ·
       rcases Nat.lt_or_ge x.hi.toNat i with h9 | h9
       ·
        exact .inl (.inr ⟨ha, by show (x.hi + 1).toNat ≤ i; omega⟩)
       ·
        obtain rfl : i = x.hi.toNat := by omega
        subst ha; exact .inr hgood
    cases f with
    | zero => exact .inl (stay hc rfl)
    | succ f =>
     by_cases hcond : (chkCode t now x == 0 && lastOf (verCur t x) && !(atLast (verCur t x))) = true
     ·
      have e : chkAll t now (f + 1) x = chkAll t now f (advance (verCur t x)) := by rw [chkAll, if_pos hcond]
      simp only [Bool.and_eq_true, Bool.not_eq_true', beq_iff_eq] at hcond; obtain ⟨⟨_, hl⟩, hna⟩ := hcond; obtain ⟨p1, p2, p3, p4, _⟩ := verCur_pos t x; have hv : hasHop (verCur t x) = true := by unfold hasHop curPart; rw [p1, p2, p3]; exact hx
      have Gv : GoodP t (verCur t x).path.parts := by rw [p3]; exact G
      obtain ⟨ha, hlt⟩ := adv_part Gv hv hl (by rw [hna]; decide); have hp := part_pos (partAt (verCur t x).path.parts ((verCur t x).pi.toNat + 1)).beta Gv hv hl hlt; rw [← ha] at hp; have hpath : (advance (verCur t x)).path = x.path := by rw [ha]; exact p3
      have hpi : (advance (verCur t x)).pi.toNat = x.pi.toNat + 1 := by rw [ha]; show ((verCur t x).pi + 1).toNat = _; rw [p1]; omega
      have hhi : (advance (verCur t x)).hi = 0 := by rw [ha]
      have hbn : betaOk (advance (verCur t x)) := by
       unfold betaOk curPart; rw [hpath, hpi, hhi, ha]
       show (partAt (verCur t x).path.parts ((verCur t x).pi.toNat + 1)).beta = _
       rw [p3, p1]; rfl
      have hle := (lastOf_iff hv).1 hl; rw [p2] at hle; have hcp : curPart (verCur t x) = partAt x.path.parts x.pi.toNat := by unfold curPart; rw [p1, p3]
      rw [hcp] at hle; have ih := chk_res (t := t) (now := now) f (advance (verCur t x)) (by rw [hpath]; exact G) hp.1 hbn (by rw [hpath, hpi]; omega); rw [e]; rw [hpath] at ih
      rcases ih with ⟨i1, i2, i3⟩ | ih | ih
      ·
       refine .inl ⟨i1, i2, fun j i hv2 ha2 => ?_⟩
       rcases ha2 with ha2 | ⟨ha2, hb2⟩
       ·
        refine i3 j i hv2 ?_; unfold after; rw [hpi, hhi]
        rcases Nat.lt_or_ge (x.pi.toNat + 1) j with h9 | h9
        ·
         exact .inl h9
        ·
         exact .inr ⟨by omega, Nat.zero_le _⟩
       ·
        subst ha2; have h9 := hv2.2; obtain rfl : i = x.hi.toNat := by omega
        exact .inr hgood
      ·
       exact .inr (.inl ih)
      ·
       exact .inr (.inr ih)
     ·
      have e : chkAll t now (f + 1) x = (chkCode t now x, verCur t x) := by rw [chkAll, if_neg hcond]
      exact .inl (stay (by rw [e]; exact hc) (by rw [e]))
theorem beta_next {y : Pkt} {n : Int} (hn : 0 ≤ y.hi) (hb : y.beta = betaTo (curPart y) (y.hi.toNat + 1)) (h : n = y.hi + 1) : betaOk { y with hi := n } := by
 unfold betaOk
 show y.beta = betaTo (curPart y) n.toNat
 rw [hb, h, show (y.hi + 1).toNat = y.hi.toNat + 1 by omega]
theorem trav_good (t : Topo) (now : Int) (dead : List Int) : ∀ (f : Nat) (r inn : Int) (x : Pkt) (l : List Step), betaOk x → (trav t now dead f r inn x l).code = 1 →
  simple t x.path = true ∧ ∀ j i, validAt x.path.parts j i → after x j i → verAt t x.path.parts j i = true ∧ timeAt now x.path.parts j i = true
 | 0, _, _, _, _, _, h => by unfold trav at h; cases h
 | f + 1, r, inn, x, l, hb, h => by
  obtain ⟨v, hv⟩ : ∃ v, forward t r now (failedIfs t dead r) inn x = v := ⟨_, rfl⟩
  obtain ⟨cd, eg, z⟩ := v
  by_cases h0 : cd = 0
  ·
   subst h0; obtain ⟨hvp, hs, _, _, hch, _, hg⟩ := fw_ok hv (.inl rfl); obtain ⟨_, _, e3, e4, _, _, _, ez, _⟩ := hg rfl; have hx := vp_hop hvp; rw [trav_go hv] at h; obtain ⟨hy1, _, hy3, _⟩ := chk_walk x.path.parts.length x (good_of_simple hs) hx hch (by omega); have hr := chk_res (t := t) (now := now) x.path.parts.length x (good_of_simple hs) hx hb (by omega); rw [hch] at hr
   rcases hr with ⟨_, r2, r3⟩ | ⟨r1, _⟩ | ⟨r1, _⟩
   ·
    have hbz : betaOk z := by rw [ez]; exact beta_next (hasHop_iff.1 hy3).2.2.1 r2 rfl
    have ih := trav_good t now dead f _ _ z _ hbz h; rw [e4] at ih; refine ⟨hs, fun j i hva ha => ?_⟩
    rcases r3 j i hva ha with h9 | h9
    ·
     exact ih.2 j i hva (by rw [ez]; exact h9)
    ·
     exact h9
   ·
    cases r1
   ·
    cases r1
  ·
   by_cases h1 : cd = 1
   ·
    subst h1; obtain ⟨hvp, hs, _, _, hch, hg, _⟩ := fw_ok hv (.inr rfl); obtain ⟨_, _, _, _, hat⟩ := hg rfl; have hx := vp_hop hvp; obtain ⟨hy1, _, hy3, _⟩ := chk_walk x.path.parts.length x (good_of_simple hs) hx hch (by omega); have hr := chk_res (t := t) (now := now) x.path.parts.length x (good_of_simple hs) hx hb (by omega); rw [hch] at hr
    rcases hr with ⟨_, r2, r3⟩ | ⟨r1, _⟩ | ⟨r1, _⟩
    ·
     refine ⟨hs, fun j i hva ha => ?_⟩
     rcases r3 j i hva ha with h9 | h9
     ·
      exfalso
      have Gy : GoodP t (chkAll t now x.path.parts.length x).2.path.parts := by rw [hy1]; exact good_of_simple hs
      obtain ⟨hl, hf⟩ := (atLast_iff Gy hy3).1 hat; have hle := (lastOf_iff hy3).1 hl; have hy0 := (hasHop_iff.1 hy3).2.2.1; unfold curPart at hle; rw [hy1] at hf hle; generalize (chkAll t now x.path.parts.length x).2 = y at *; have hj := hva.1
      rcases h9 with h9 | ⟨h9, h10⟩
      ·
       have h9' : y.pi.toNat < j := h9; omega
      ·
       have h9' : y.pi.toNat = j := h9; have h10' : (y.hi + 1).toNat ≤ i := h10; have hi := hva.2; rw [← h9'] at hi; omega
     ·
      exact h9
    ·
     cases r1
    ·
     cases r1
   ·
    rw [trav_bad hv h0 h1] at h; exact absurd h h1
theorem vp_move {x z : Pkt} (h : validPkt x = true) (e1 : z.kind = x.kind) (e2 : z.path = x.path) (e3 : z.src = x.src) (e4 : z.dst = x.dst) (e5 : z.rid = x.rid) (e6 : z.seq = x.seq) (e7 : z.pay = x.pay) (hh : hasHop z = true) (hb : isRes z.beta = true) : validPkt z = true := by
 unfold validPkt at h ⊢
 rw [e1, e2, e3, e4, e5, e6, e7, hh, hb]; simp only [Bool.and_eq_true] at h ⊢
 obtain ⟨⟨⟨⟨⟨⟨⟨⟨⟨a1, a2⟩, a3⟩, a4⟩, a5⟩, a6⟩, a7⟩, a8⟩, a9⟩, a10⟩ := h; exact ⟨⟨⟨⟨⟨⟨⟨⟨⟨a1, a2⟩, trivial⟩, trivial⟩, a5⟩, a6⟩, a7⟩, a8⟩, a9⟩, a10⟩
theorem verCur_rest (t : Topo) (x : Pkt) : (verCur t x).kind = x.kind ∧ (verCur t x).rid = x.rid ∧ (verCur t x).seq = x.seq ∧ (verCur t x).pay = x.pay := by unfold verCur; split <;> exact ⟨rfl, rfl, rfl, rfl⟩
theorem adv_rest (x : Pkt) : (advance x).kind = x.kind ∧ (advance x).rid = x.rid ∧ (advance x).seq = x.seq ∧ (advance x).pay = x.pay ∧ (advance x).src = x.src ∧ (advance x).dst = x.dst ∧ (advance x).path = x.path := by
 unfold advance; split
 ·
  exact ⟨rfl, rfl, rfl, rfl, rfl, rfl, rfl⟩
 ·
  split <;> exact ⟨rfl, rfl, rfl, rfl, rfl, rfl, rfl⟩
theorem chk_rest (t : Topo) (now : Int) : ∀ (f : Nat) (x : Pkt), (chkAll t now f x).2.kind = x.kind ∧ (chkAll t now f x).2.rid = x.rid ∧ (chkAll t now f x).2.seq = x.seq ∧ (chkAll t now f x).2.pay = x.pay ∧ (chkAll t now f x).2.src = x.src ∧ (chkAll t now f x).2.dst = x.dst
 | 0, x => by
  obtain ⟨a1, a2, a3, a4⟩ := verCur_rest t x; obtain ⟨_, _, _, b1, b2⟩ := verCur_pos t x; exact ⟨a1, a2, a3, a4, b2, b1⟩
 | f + 1, x => by
  obtain ⟨a1, a2, a3, a4⟩ := verCur_rest t x; obtain ⟨_, _, _, b1, b2⟩ := verCur_pos t x; unfold chkAll
  split
  ·
   obtain ⟨c1, c2, c3, c4, c5, c6⟩ := chk_rest t now f (advance (verCur t x)); obtain ⟨d1, d2, d3, d4, d5, d6, _⟩ := adv_rest (verCur t x); exact ⟨c1.trans (d1.trans a1), c2.trans (d2.trans a2), c3.trans (d3.trans a3), c4.trans (d4.trans a4), c5.trans (d5.trans b2), c6.trans (d6.trans b1)⟩
  ·
   exact ⟨a1, a2, a3, a4, b2, b1⟩
theorem betaTo_res {x : Part} {k : Nat} (h : k < x.hops.length) : isRes (betaTo x (k + 1)) = true := by
 rw [betaTo_succ h]; split; exact subMod_res _ _; exact addMod_res _ _
theorem trav_res (t : Topo) (now : Int) (dead : List Int) (hdead : ∀ r eg, inSet (failedIfs t dead r) eg = false) : ∀ (f : Nat) (r inn : Int) (x : Pkt) (l : List Step),
  validPkt x = true → simple t x.path = true → betaOk x → curAs x = r → inn = wantIn x → (∀ s ∈ walkAt x inn, stepOk t s = true) → (∀ s, (walkAt x inn).getLast? = some s → s.asn = x.dst) → (walkAt x inn).length ≤ f →
  ((trav t now dead f r inn x l).code = 1 ∧ (trav t now dead f r inn x l).steps = l ++ walkAt x inn ∧ (trav t now dead f r inn x l).pkt.path = x.path) ∨
   ((trav t now dead f r inn x l).code = 4 ∧ ∃ j i, validAt x.path.parts j i ∧ verAt t x.path.parts j i = false) ∨ ((trav t now dead f r inn x l).code = 5 ∧ ∃ j i, validAt x.path.parts j i ∧ timeAt now x.path.parts j i = false)
 | 0, r, inn, x, l, hvp, hs, _, _, _, _, _, hl => absurd (List.eq_nil_of_length_eq_zero (Nat.le_zero.1 hl)) (walkAt_ne _ x inn (good_of_simple hs) (vp_hop hvp) (Nat.le_add_right _ _))
 | f + 1, r, inn, x, l, hvp, hs, hb, hr, hin, hst, hdst, hl => by
  have hx := vp_hop hvp; have G := good_of_simple hs; have h1 : ¬ (!(validPkt x && simple t x.path && (curAs x == r))) = true := by rw [hvp, hs, hr]; simp
  have h2 : ¬ (inn != wantIn x) = true := by rw [hin]; simp
  have hcr := chk_res (t := t) (now := now) x.path.parts.length x G hx hb (by omega)
  have fwd : forward t r now (failedIfs t dead r) inn x = (if (chkAll t now x.path.parts.length x).1 != 0 then ⟨(chkAll t now x.path.parts.length x).1, 0, x⟩
   else if atLast (chkAll t now x.path.parts.length x).2 then (if (chkAll t now x.path.parts.length x).2.dst == r then ⟨1, 0, (chkAll t now x.path.parts.length x).2⟩ else ⟨2, 0, x⟩)
   else if !(stepOk t ⟨r, inn, partEg (curPart (chkAll t now x.path.parts.length x).2) (chkAll t now x.path.parts.length x).2.hi⟩) then ⟨6, 0, x⟩
   else if inSet (failedIfs t dead r) (partEg (curPart (chkAll t now x.path.parts.length x).2) (chkAll t now x.path.parts.length x).2.hi) then ⟨7, 0, x⟩
   else ⟨0, partEg (curPart (chkAll t now x.path.parts.length x).2) (chkAll t now x.path.parts.length x).2.hi, advance (chkAll t now x.path.parts.length x).2⟩ : Vd) := by
   unfold forward; rw [if_neg h1, if_neg h2]
  rcases hcr with ⟨r1, r2, _⟩ | ⟨r1, r2⟩ | ⟨r1, r2⟩
  ·
   obtain ⟨hy1, hy2, hy3, hy4, hy5, hy6⟩ := chk_walk x.path.parts.length x G hx r1 (by omega); obtain ⟨k1, k2, k3, k4, k5, k6⟩ := chk_rest t now x.path.parts.length x; rw [if_neg (by rw [r1]; decide)] at fwd; generalize (chkAll t now x.path.parts.length x).2 = y at *; have Gy : GoodP t y.path.parts := by rw [hy1]; exact G
   have hyr : (curHop y).asn = r := by rw [← curAs_of hy3, hy4, hr]
   by_cases hat : atLast y = true
   ·
    obtain ⟨hla, hfi⟩ := (atLast_iff Gy hy3).1 hat; have hw : walkAt x inn = [⟨r, inn, 0⟩] := by rw [← hy5, walk_end inn hy3 hla hfi, hyr]
    have hd := hdst ⟨r, inn, 0⟩ (by rw [hw]; rfl); rw [if_pos hat, if_pos (by rw [k6, beq_iff_eq]; exact hd.symm)] at fwd
    left
    rw [trav_del fwd, hw]; exact ⟨rfl, rfl, hy1⟩
   ·
    have hla : ¬ lastOf y = true := fun e => hat (hy6 e)
    have hadv := adv_hop Gy hy3 hla; obtain ⟨hp0, hp1, hi0, hi1⟩ := hasHop_iff.1 hy3
    have hlt : y.hi.toNat + 1 < (curPart y).hops.length := by
     have h9 : ¬ y.hi.toNat + 1 = (curPart y).hops.length := fun e => hla ((lastOf_iff hy3).2 e)
     omega
    have heg : partEg (curPart y) y.hi = hopEg (curPart y).kind (curHop y) := by
     have := partEg_at (p := curPart y) hi1; rw [show ((y.hi.toNat : Nat) : Int) = y.hi by omega] at this; rw [this]; unfold curHop; rw [hopAt_at hi1]
    have hw := hy5 inn; rw [walk_hop inn hy3 hla, hyr, ← heg] at hw; have hs1 := hst ⟨r, inn, partEg (curPart y) y.hi⟩ (by rw [← hw]; simp); rw [if_neg hat, hs1, hdead, hadv] at fwd; simp only [Bool.not_true, Bool.false_eq_true, if_false] at fwd; obtain ⟨_, _, _, _, _, _, hg⟩ := fw_ok fwd (.inl rfl); obtain ⟨e1, e2, e3, e4, e5, _⟩ := hg rfl; rw [trav_go fwd, e2]; rw [e1, List.length_cons] at hl; have hne : walkAt { y with hi := y.hi + 1 } (wantIn { y with hi := y.hi + 1 }) ≠ [] := walkAt_ne _ _ _ (by rw [e4]; exact G) e3 (Nat.le_add_right _ _); have hbz : betaOk { y with hi := y.hi + 1 } := beta_next hi0 r2 rfl; have hres : isRes y.beta = true := by rw [r2]; exact betaTo_res (by omega)
    have ih := trav_res t now dead hdead f (curAs { y with hi := y.hi + 1 }) (wantIn { y with hi := y.hi + 1 }) { y with hi := y.hi + 1 } (l ++ [⟨r, inn, partEg (curPart y) y.hi⟩])
     (vp_move hvp k1 hy1 k5 k6 k2 k3 k4 e3 hres) (by rw [e4]; exact hs) hbz rfl rfl (fun s hm => hst s (by rw [e1]; exact List.mem_cons_of_mem _ hm))
     (fun s he => by
      rw [e5]; refine hdst s ?_; rw [e1]
      cases hq : walkAt { y with hi := y.hi + 1 } (wantIn { y with hi := y.hi + 1 }) with
      | nil => exact absurd hq hne
      | cons a b => rw [hq] at he; rw [List.getLast?_cons_cons]; exact he) (by omega)
    have e4' := e4; generalize ({ y with hi := y.hi + 1 } : Pkt) = z at *; rw [e4'] at ih
    rcases ih with ⟨i1, i2, i3⟩ | ih | ih
    ·
     exact .inl ⟨i1, by rw [i2, e1, List.append_assoc]; rfl, i3⟩
    ·
     exact .inr (.inl ih)
    ·
     exact .inr (.inr ih)
  ·
   rw [if_pos (by rw [r1]; decide), r1] at fwd
   right; left
   rw [trav_bad fwd (by decide) (by decide)]; exact ⟨rfl, r2⟩
  ·
   rw [if_pos (by rw [r1]; decide), r1] at fwd
   right; right
   rw [trav_bad fwd (by decide) (by decide)]; exact ⟨rfl, r2⟩
end
section
open Go.RowKit
def mkPart (s : Seg) (kind : Int) (k : Nat) : Part := if isRev kind then ⟨kind, s.ts, betaAt s s.hops.length, (s.hops.drop k).reverse⟩ else ⟨kind, s.ts, betaAt s k, s.hops.drop k⟩
def makePart (s : Seg) (kind k : Int) : Part := if inR k 0 ((s.hops.length : Int) - 1) && inR kind 1 4 then mkPart s kind k.toNat else ⟨0, 0, 0, []⟩
theorem mkPart_len (s : Seg) (kind : Int) (k : Nat) : (mkPart s kind k).hops.length = s.hops.length - k := by unfold mkPart; split <;> simp
theorem makePart_len (s : Seg) (kind k : Int) : (makePart s kind k).hops.length ≤ s.hops.length := by
 unfold makePart; split
 ·
  rw [mkPart_len]; omega
 ·
  simp
structure PartDrawn (t : Topo) (x : Part) : Prop where
  how : ∃ (kd : Int) (s : Seg) (kind : Int) (k : Nat), SegDrawn t kd s ∧ (1 ≤ kind ∧ kind ≤ 4) ∧ k < s.hops.length ∧ x = mkPart s kind k
structure PthDrawn (t : Topo) (p : Pth) : Prop where
  len : p.parts.length ≤ 3
  part : ∀ x ∈ p.parts, PartDrawn t x
theorem makePart_drawn {t : Topo} {kd : Int} {s : Seg} (h : SegDrawn t kd s) {kind : Int} (hk : 1 ≤ kind ∧ kind ≤ 4) {k : Nat} (hl : k < s.hops.length) : PartDrawn t (makePart s kind k) :=
 ⟨⟨kd, s, kind, k, h, hk, hl, by unfold makePart; rw [if_pos (by simp only [Bool.and_eq_true, inR_true]; omega), Int.toNat_natCast]⟩⟩
theorem PartDrawn.len {t : Topo} {x : Part} (h : PartDrawn t x) : 1 ≤ x.hops.length ∧ x.hops.length ≤ 5 := by
 obtain ⟨kd, s, kind, k, h1, h2, h3, rfl⟩ := h.how; have := h1.len; rw [mkPart_len]; omega
theorem hopsN_all {m : Nat} : ∀ {l : List Part}, (∀ x ∈ l, x.hops.length ≤ m) → hopsN l ≤ m * l.length
 | [], _ => by simp [hopsN]
 | x :: l, h => by
  have h1 := hopsN_all (l := l) (fun y hy => h y (by simp [hy])); have h2 := h x (by simp); have h3 : hopsN (x :: l) = x.hops.length + hopsN l := by simp [hopsN, Part.size]
  rw [h3, List.length_cons, Nat.mul_succ]; omega
theorem PthDrawn.size {t : Topo} {p : Pth} (h : PthDrawn t p) : p.size ≤ 18 := by
 have h1 := hopsN_all (l := p.parts) (m := 5) (fun x hx => (h.part x hx).len.2); have := h.len; unfold Pth.size; omega
theorem PthDrawn.nil (t : Topo) : PthDrawn t ⟨[]⟩ := ⟨by simp, fun x hx => by cases hx⟩
theorem PthDrawn.snoc {t : Topo} {l : List Part} (h : PthDrawn t ⟨l⟩) (hl : l.length ≤ 2) {x : Part} (hx : PartDrawn t x) : PthDrawn t ⟨l ++ [x]⟩ :=
 ⟨by simp; omega, fun y hy => by
  rcases List.mem_append.1 hy with h1 | h1
  ·
   exact h.part y h1
  ·
   obtain rfl := List.mem_singleton.1 h1; exact hx⟩
theorem SegDrawn.valid {t : Topo} (T : TopoOk t) {kd : Int} {s : Seg} (h : SegDrawn t kd s) {i : Nat} (hi : i < s.hops.length) : validHop s.hops[i] = true := by
 have := h.ver T i hi; unfold verHop at this; simp only [Bool.and_eq_true] at this; exact this.1.1
theorem valid_mac {h : Hop} (hv : validHop h = true) : isRes h.mac = true := by unfold validHop at hv; simp only [Bool.and_eq_true] at hv; exact hv.2
theorem SegDrawn.resB {t : Topo} {kd : Int} {s : Seg} (h : SegDrawn t kd s) (i : Nat) (hi : i ≤ s.hops.length) : isRes (betaAt s i) = true := by
 rw [betaAt_nat hi]; exact chainAdd_res _ _ (isRes_of h.beta.1 h.beta.2)
theorem betaAt_succ {s : Seg} {i : Nat} (hi : i < s.hops.length) : betaAt s (i + 1 : Nat) = addMod (betaAt s i) s.hops[i].mac := by
 have h := chainAdd_snoc (b := s.beta) (l := s.hops.map (·.mac)) (k := i) (by simpa using hi); rw [betaAt_nat (by omega), betaAt_nat (by omega), List.map_take, List.map_take, h]
 simp
theorem part_beta {t : Topo} (T : TopoOk t) {kd : Int} {s : Seg} (h : SegDrawn t kd s) {kind : Int} {k : Nat} (hk : k ≤ s.hops.length) : ∀ (i : Nat), i ≤ s.hops.length - k →
  betaTo (mkPart s kind k) i = if isRev kind then betaAt s (s.hops.length - i : Nat) else betaAt s (k + i : Nat)
 | 0, _ => by
  cases hr : isRev kind
  ·
   unfold mkPart; rw [hr]; simp [betaTo]
  ·
   unfold mkPart; rw [hr]; simp [betaTo]
 | i + 1, hi => by
  have ih := part_beta T h (kind := kind) hk i (by omega); rw [betaTo_succ (by rw [mkPart_len]; omega), ih]
  cases hr : isRev kind
  ·
   have e1 : (mkPart s kind k).kind = kind := by unfold mkPart; rw [hr]; rfl
   rw [e1, hr]; simp only [Bool.false_eq_true, if_false]
   have e2 : ((mkPart s kind k).hops[i]'(by rw [mkPart_len]; omega)) = s.hops[k + i]'(by omega) := by
    simp only [mkPart, hr, Bool.false_eq_true, if_false, List.getElem_drop]
   rw [e2, ← Nat.add_assoc, betaAt_succ (by omega)]
  ·
   have e1 : (mkPart s kind k).kind = kind := by unfold mkPart; rw [hr]; rfl
   rw [e1, hr]; simp only [if_true]
   have e2 : ((mkPart s kind k).hops[i]'(by rw [mkPart_len]; omega)) = s.hops[s.hops.length - 1 - i]'(by omega) := by
    simp only [mkPart, hr, if_true, List.getElem_reverse, List.getElem_drop, List.length_drop]
    congr 1; omega
   have e3 : s.hops.length - i = (s.hops.length - (i + 1)) + 1 := by omega
   have e4 : s.hops.length - 1 - i = s.hops.length - (i + 1) := by omega
   rw [e2, e3, betaAt_succ (by omega)]; have e5 : s.hops[s.hops.length - 1 - i]'(by omega) = s.hops[s.hops.length - (i + 1)]'(by omega) := by congr 1
   rw [e5]; exact sub_add (h.resB _ (by omega)) (valid_mac (h.valid T (by omega)))
theorem mkPart_kind (s : Seg) (kind : Int) (k : Nat) : (mkPart s kind k).kind = kind ∧ (mkPart s kind k).ts = s.ts := by unfold mkPart; split <;> exact ⟨rfl, rfl⟩
def partHop (s : Seg) (kind : Int) (k i : Nat) : Nat := if isRev kind then s.hops.length - 1 - i else k + i
theorem partHop_lt {s : Seg} {kind : Int} {k i : Nat} (hi : i < s.hops.length - k) : partHop s kind k i < s.hops.length := by unfold partHop; split <;> omega
theorem part_hop {s : Seg} {kind : Int} {k i : Nat} (hi : i < s.hops.length - k) : hopAt (mkPart s kind k).hops i = s.hops[partHop s kind k i]'(partHop_lt hi) := by
 rw [hopAt_at (by rw [mkPart_len]; exact hi)]
 cases hr : isRev kind
 ·
  have : partHop s kind k i = k + i := by unfold partHop; rw [hr]; rfl
  simp only [mkPart, hr, Bool.false_eq_true, if_false, List.getElem_drop, this]
 ·
  have : partHop s kind k i = s.hops.length - 1 - i := by unfold partHop; rw [hr]; rfl
  simp only [mkPart, hr, if_true, List.getElem_reverse, List.getElem_drop, List.length_drop, this]
  congr 1; omega
theorem part_for {t : Topo} (T : TopoOk t) {kd : Int} {s : Seg} (h : SegDrawn t kd s) {kind : Int} {k i : Nat} (hi : i < s.hops.length - k) : betaFor (mkPart s kind k) i = betaAt s (partHop s kind k i) := by
 unfold betaFor; rw [(mkPart_kind s kind k).1, betaAfter_to (by rw [mkPart_len]; omega), betaAfter_to (by rw [mkPart_len]; omega), part_beta T h (by omega) _ (by omega), part_beta T h (by omega) _ (by omega)]; unfold partHop
 split
 ·
  congr 1; omega
 ·
  rfl
theorem mkPart_ver {t : Topo} (T : TopoOk t) {kd : Int} {s : Seg} (h : SegDrawn t kd s) {kind : Int} {k : Nat} : verPart t (mkPart s kind k) = true := by
 unfold verPart; rw [allTo_true]; intro i hi; rw [mkPart_len] at hi; rw [part_for T h hi, part_hop hi, (mkPart_kind s kind k).2]; exact h.ver T _ (partHop_lt hi)
theorem PartDrawn.ver {t : Topo} (T : TopoOk t) {x : Part} (h : PartDrawn t x) : verPart t x = true := by
 obtain ⟨kd, s, kind, k, h1, _, _, rfl⟩ := h.how; exact mkPart_ver T h1
theorem PthDrawn.ver {t : Topo} (T : TopoOk t) {p : Pth} (h : PthDrawn t p) : verPath t p = true := by
 unfold verPath; rw [allTo_true]; intro i hi; rw [partAt_at hi]; exact (h.part _ (List.getElem_mem _)).ver T
theorem Grown.exp {t : Topo} {kind ts beta : Int} {r inn : Int} {hs : List Hop} (h : Grown t kind ts beta r inn hs) : ∀ x ∈ hs, ts + 50 ≤ x.exp ∧ x.exp ≤ ts + 99 := by
 induction h with
 | start => intro x hx; cases hx
 | step r inn out e hs _ _ _ _ h1 h2 ih =>
  intro x hx
  rcases List.mem_append.1 hx with h | h
  ·
   exact ih x h
  ·
   obtain rfl := List.mem_singleton.1 h; exact ⟨h1, h2⟩
theorem SegDrawn.exps {t : Topo} {kd : Int} {s : Seg} (h : SegDrawn t kd s) : ∀ x ∈ s.hops, 50 ≤ x.exp ∧ x.exp ≤ 148 := by
 have h0 := h.ts
 rcases h.how with ⟨r, inn, g⟩ | h1 | ⟨r, inn, e, hs, g, _, he1, he2, h1⟩
 ·
  intro x hx; have := g.exp x hx; omega
 ·
  rw [h1]; intro x hx; cases hx
 ·
  rw [h1]; intro x hx
  rcases List.mem_append.1 hx with h | h
  ·
   have := g.exp x h; omega
  ·
   obtain rfl := List.mem_singleton.1 h
   show 50 ≤ e ∧ e ≤ 148
   omega
structure PartGood (x : Part) : Prop where
  kind : 1 ≤ x.kind ∧ x.kind ≤ 4
  ts : 0 ≤ x.ts ∧ x.ts ≤ 49
  beta : isRes x.beta = true
  len : 1 ≤ x.hops.length ∧ x.hops.length ≤ 5
  hops : ∀ h ∈ x.hops, validHop h = true ∧ 50 ≤ h.exp ∧ h.exp ≤ 148
theorem PartDrawn.good {t : Topo} (T : TopoOk t) {x : Part} (h : PartDrawn t x) : PartGood x := by
 have hl := h.len; obtain ⟨kd, s, kind, k, h1, h2, h3, rfl⟩ := h.how; obtain ⟨e1, e2⟩ := mkPart_kind s kind k; refine ⟨by rw [e1]; exact h2, by rw [e2]; exact h1.ts, ?_, hl, fun y hy => ?_⟩
 ·
  unfold mkPart; split
  ·
   exact h1.resB _ (Nat.le_refl _)
  ·
   exact h1.resB _ (by omega)
 ·
  obtain ⟨i, hi, rfl⟩ := List.getElem_of_mem hy; have hi' := hi; rw [mkPart_len] at hi'; have := part_hop (s := s) (kind := kind) (k := k) hi'; rw [hopAt_at hi] at this; rw [this]; exact ⟨h1.valid T _, h1.exps _ (List.getElem_mem _)⟩
theorem PartGood.enc {x : Part} (h : PartGood x) : encPart x = true := by
 unfold encPart hopsEnc; simp only [Bool.and_eq_true, inR_true, decide_eq_true_eq, List.all_eq_true]; exact ⟨⟨⟨h.kind, by have := h.ts; omega⟩, h.beta⟩, by have := h.len; omega, fun y hy => (h.hops y hy).1⟩
theorem PthDrawn.enc {t : Topo} (T : TopoOk t) {p : Pth} (h : PthDrawn t p) : encPath p = true := by
 unfold encPath; simp only [Bool.and_eq_true, decide_eq_true_eq, List.all_eq_true]; exact ⟨h.len, fun x hx => ((h.part x hx).good T).enc⟩
end
section
open Go.ChangeShapes Go.WideShapes Go.ChangeAt Go.RowKit Go.Deep
theorem least_snoc {l : List Hop} {k : Nat} (hk : k < l.length) : leastExp (l.take (k + 1)) = if k = 0 ∨ l[k].exp < leastExp (l.take k) then l[k].exp else leastExp (l.take k) := by
 cases l with
 | nil => simp at hk
 | cons x l =>
  cases k with
  | zero => simp [leastExp]
  | succ k =>
   have hk' : k < l.length := by simpa using hk
   simp only [List.take_succ_cons, leastExp, List.getElem_cons_succ]; rw [List.take_succ_eq_append_getElem hk', List.foldl_append]
   simp
end
end Go.Proofs.YtcpfmhgfaliemaaGreat
