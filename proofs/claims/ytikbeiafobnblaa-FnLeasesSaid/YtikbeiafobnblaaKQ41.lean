/- What these laws need: FnLeases: Contracts of chains of residues, of comparing rows of numbers, and of keys, program and reference. What reserving a path does: plain laws. A part of a segment as it is drawn: valid, it verifies, in both directions, and from any hop on. -/
import Derived.Deep.LoopGhost
import Derived.Test.YtikbeiafobnblaaKQ25
import Derived.Test.YtikbeiafobnblaaKQ36
import Derived.Test.YtikbeiafobnblaaKQ39
import Derived.Test.YtikbeiafobnblaaKQ40
namespace Go.Proofs.Ytikbeiafobnblaa
section
open Go.ChangeShapes Go.WideShapes Go.ChangeAt Go.RowKit Go.Deep
set_option maxRecDepth 100000 in
set_option maxHeartbeats 1000000 in
theorem l_sameInts (a : List Int) (va : Value) (b : List Int) (vb : Value) (w : World) (ha : RdS Rep.int w va a) (hb : RdS Rep.int w vb b) :
  Calls Try.prog 63 #[va, vb] w fun e w' => e = .returned (.bool (decide (a = b))) ∧ Ext w w' := by
 obtain ⟨oa, ca, rfl, hsa⟩ := ha.shape
 obtain ⟨ob, cb, rfl, hsb⟩ := hb.shape
 by_cases hne : a.length = b.length
 ·
  have Hne := Lib.hid hne
  have t1 : ((a.length : Int) != (b.length : Int)) = false := by simp [hne]
  clear hne
  go_enter Try.func63, Try.ntmps63
  go_wp2
  go_loopg [5] a.length (fun gk i wr => ∃ (k : Nat), gk + k = a.length ∧ i = .int .i64 k ∧ Hid (a.take k = b.take k) ∧ Ext w wr)
  case atStart => exact ⟨0, rfl, rfl, Lib.hid rfl, Ext.refl _⟩
  case round =>
   obtain ⟨k, hgk, rfl, Htk, hx⟩ := hrel
   by_cases hlt : k < a.length
   ·
    have hlb : k < b.length := by rw [← Hne.out]; exact hlt
    have hg0 : gk - 1 + (k + 1) = a.length ∧ gk - 1 < gk := by omega
    have HG := Lib.hid hg0; clear hg0 hgk
    obtain ⟨b1, off1, rfl, hc1⟩ := ints_at (ha.ext hx) k hlt
    obtain ⟨b2, off2, rfl, hc2⟩ := ints_at (hb.ext hx) k hlb
    go_wp2_with fail
    refine wp_region_ext (by kernel_rfl) (by kernel_rfl) ?_
    have q0 := ExtW.cell hc1
    have q1 := ExtW.cell hc2
    repeat (first | go_big_quiet_step (fail) | quiet_step (fail))
    refine wpQuiet_nil ?_
    intro w1 hw1
    have hz1 := ExtW.out hw1
    clear hw1 q0 q1
    by_cases he : a[k] = b[k]
    ·
     have he2 : (a[k] != b[k]) = false := by simp [he]
     have HT := Lib.hid (take_snoc2 Htk.out hlt hlb he)
     clear he
     go_wp2_with fail
     go_roundg (gk - 1)
     case measure => exact HG.out.2
     case rel => exact ⟨k + 1, HG.out.1, by go_num, HT, hx.trans hz1⟩
    ·
     have he2 : (a[k] != b[k]) = true := by simp [he]
     have HF : Hid (decide (a = b) = false) := Lib.hid (decide_eq_false (by rintro rfl; exact he rfl))
     clear he
     go_wp2_with fail
     go_ret
     exact ⟨ret_bool HF.out.symm, hx.trans hz1⟩
   ·
    have hab : decide (a = b) = true := by
     have := Htk.out
     rw [List.take_of_length_le (by omega), List.take_of_length_le (by rw [← Hne.out]; omega)] at this
     simp [this]
    have Hab := Lib.hid hab; clear hab
    go_wp2_with fail
    go_ret
    exact ⟨ret_bool Hab.out.symm, hx⟩
 ·
  have t1 : ((a.length : Int) != (b.length : Int)) = true := by simp [bne_iff_ne]; omega
  have hab : decide (a = b) = false := by
   rw [decide_eq_false_iff_not]; rintro rfl; exact hne rfl
  have Hab := Lib.hid hab; clear hab
  clear hne
  go_enter Try.func63, Try.ntmps63
  go_wp2
  go_ret
  exact ⟨ret_bool Hab.out.symm, Ext.refl _⟩
end
section
open Go.RowKit
/-- The number has rate r at the place, and no other one. -/
def holdsAt (out : List Resv) (id r now : Int) (s : Step) : Prop :=
  (∃ x ∈ out, x.id = id ∧ resvAtNow x s.asn s.eg now = true) ∧ ∀ x ∈ out, x.id = id → resvAtNow x s.asn s.eg now = true → x.rate = r
theorem holds_rate {id r now : Int} {s : Step} : ∀ {out : List Resv}, holdsAt out id r now s → resvRate out id s.asn s.eg now = r
  | [], h => by obtain ⟨⟨x, hx, _⟩, _⟩ := h; cases hx
  | y :: out, h => by
    unfold resvRate
    cases hy : (y.id == id) && resvAtNow y s.asn s.eg now
    · refine holds_rate ⟨?_, fun x hx => h.2 x (by simp [hx])⟩
      obtain ⟨⟨x, hx, h1, h2⟩, _⟩ := h
      rcases List.mem_cons.1 hx with rfl | hx
      · rw [h1, h2] at hy; simp at hy
      · exact ⟨x, hx, h1, h2⟩
    · simp only [Bool.and_eq_true, beq_iff_eq] at hy
      exact h.2 y (by simp) hy.1 hy.2
theorem holds_admit {out : List Resv} {id rate till now : Int} {s q : Step} (ht : now ≤ till) (h : holdsAt out id rate now s ∨ s.asn = q.asn ∧ s.eg = q.eg) :
    holdsAt (without ⟨id, q.asn, q.eg, rate, till⟩ out ++ [⟨id, q.asn, q.eg, rate, till⟩]) id rate now s := by
  by_cases he : s.asn = q.asn ∧ s.eg = q.eg
  · refine ⟨⟨⟨id, q.asn, q.eg, rate, till⟩, by simp, rfl, now_true.2 ⟨⟨he.1.symm, he.2.symm⟩, ht⟩⟩, fun x hx h1 h2 => ?_⟩
    rcases List.mem_append.1 hx with hx | hx
    · have := (List.mem_filter.1 hx).2
      have h3 := (now_true.1 h2).1
      rw [other_false.2 ⟨h1, h3.1.trans he.1, h3.2.trans he.2⟩] at this
      cases this
    · rw [List.mem_singleton.1 hx]
  · obtain ⟨⟨x, hx, h1, h2⟩, h3⟩ := h.resolve_right he
    have h4 := (now_true.1 h2).1
    refine ⟨⟨x, List.mem_append_left _ (List.mem_filter.2 ⟨hx, ?_⟩), h1, h2⟩, fun y hy h5 h6 => ?_⟩
    · cases ho : otherResv ⟨id, q.asn, q.eg, rate, till⟩ x
      · have := other_false.1 ho
        exact absurd ⟨h4.1.symm.trans this.2.1, h4.2.symm.trans this.2.2⟩ he
      · rfl
    · rcases List.mem_append.1 hy with hy | hy
      · exact h3 y (List.mem_filter.1 hy).1 h5 h6
      · rw [List.mem_singleton.1 hy]
theorem rsvGo_holds {id rate till c now : Int} : ∀ (ss : List Step) (out fin : List Resv) (done : List Step), (∀ s ∈ done, holdsAt out id rate now s) → rsvGo id rate till c now ss out = some fin → ∀ s, s ∈ done ∨ s ∈ ss → holdsAt fin id rate now s
  | [], out, fin, done, hd, h, s, hs => by
    cases h
    rcases hs with hs | hs
    · exact hd s hs
    · cases hs
  | q :: ss, out, fin, done, hd, h, s, hs => by
    unfold rsvGo at h
    split at h
    · rename_i hok
      obtain ⟨_, e, ht⟩ := admit_ok hok
      rw [e] at h
      refine rsvGo_holds ss _ fin (q :: done) (fun s' hs' => ?_) h s ?_
      · rcases List.mem_cons.1 hs' with rfl | hs'
        · exact holds_admit ht (.inr ⟨rfl, rfl⟩)
        · exact holds_admit ht (.inl (hd s' hs'))
      · rcases hs with hs | hs
        · exact .inl (by simp [hs])
        · rcases List.mem_cons.1 hs with rfl | hs
          · exact .inl (by simp)
          · exact .inr hs
    · cases h
theorem rsvGo_rate {id rate till c now : Int} : ∀ (ss : List Step) (out fin : List Resv), 0 < ss.length → rsvGo id rate till c now ss out = some fin → 1 ≤ rate
  | [], _, _, h, _ => by simp at h
  | q :: ss, out, fin, _, h => by
    unfold rsvGo at h
    split at h
    · rename_i hok
      obtain ⟨hr, _⟩ := admit_ok hok
      unfold refused at hr
      simp only [Bool.or_eq_false_iff, Bool.not_eq_false'] at hr
      have := hr.1.1.1
      unfold validResv at this
      simp only [Bool.and_eq_true] at this
      exact (inR_true.1 this.1.2).1
    · cases h
theorem leastTo_same {f : Step → Int} {l : List Step} {r : Int} (h : ∀ s ∈ l, f s = r) : ∀ k, 0 < k → k ≤ l.length → leastTo f l k = r
  | 0, h0, _ => absurd h0 (Nat.lt_irrefl _)
  | k + 1, _, hk => by
    have hl : k < l.length := by omega
    have e : leastTo f l (k + 1) = if k == 0 || decide (f l[k] < leastTo f l k) then f l[k] else leastTo f l k := by simp [leastTo, hl]
    rw [e, h _ (List.getElem_mem hl)]
    split
    · rfl
    · rename_i hc
      simp only [Bool.or_eq_true, beq_iff_eq, decide_eq_true_eq] at hc
      exact leastTo_same h k (by omega) (by omega)
theorem mem_insInt' {n y : Int} {l : List Int} (h : y = n ∨ y ∈ l) : y ∈ insInt n l := by
  induction l with
  | nil => rcases h with rfl | h; simp [insInt]; cases h
  | cons x l ih =>
    unfold insInt
    split
    · rcases h with rfl | h
      · exact List.mem_cons_of_mem _ (ih (.inl rfl))
      · rcases List.mem_cons.1 h with rfl | h
        · simp
        · exact List.mem_cons_of_mem _ (ih (.inr h))
    · split
      · rename_i h2
        rcases h with rfl | h
        · rw [h2]; simp
        · exact h
      · rcases h with rfl | h
        · simp
        · exact List.mem_cons_of_mem _ h
theorem mem_ids {y : Int} (l : List Resv) : y ∈ idsOf l ↔ ∃ r ∈ l, r.id = y := by
  have : ∀ (l : List Resv) (z : List Int), y ∈ l.foldl idStep z ↔ y ∈ z ∨ ∃ r ∈ l, r.id = y := by
    intro l
    induction l with
    | nil => intro z; simp
    | cons x l ih =>
      intro z
      rw [List.foldl_cons, ih]
      unfold idStep
      constructor
      · rintro (h | ⟨r, h1, h2⟩)
        · rcases mem_insInt h with h | h
          · exact .inr ⟨x, by simp, h.symm⟩
          · exact .inl h
        · exact .inr ⟨r, by simp [h1], h2⟩
      · rintro (h | ⟨r, h1, h2⟩)
        · exact .inl (mem_insInt' (.inr h))
        · rcases List.mem_cons.1 h1 with rfl | h1
          · exact .inl (mem_insInt' (.inl h2.symm))
          · exact .inr ⟨r, h1, h2⟩
  have h := this l []
  simpa [idsOf] using h
/-- A path that was reserved: at all of its interfaces, with the rate; and released, at none. -/
theorem leased {rs : List Resv} {id : Int} {y : Pth} {rate till c now : Int} (h : (reservePath rs id y rate till c now).2 = true) :
    pathResvd (reservePath rs id y rate till c now).1 id y now = true ∧ pathRate (reservePath rs id y rate till c now).1 id y now = rate ∧ id ∈ idsOf (reservePath rs id y rate till c now).1 ∧
      ¬ id ∈ idsOf (release id (reservePath rs id y rate till c now).1) ∧ pathResvd (release id (reservePath rs id y rate till c now).1) id y now = false := by
  unfold reservePath at h ⊢
  cases hg : rsvGo id rate till c now (egSteps (pathSteps y.parts)) rs with
  | none => rw [hg] at h; cases h
  | some out =>
    rw [hg] at h
    have hl : 0 < (egSteps (pathSteps y.parts)).length := by simpa using h
    have hh := rsvGo_holds _ rs out [] (fun _ h => by cases h) hg
    have hr := rsvGo_rate _ rs out hl hg
    have hrate : ∀ s ∈ egSteps (pathSteps y.parts), resvRate out id s.asn s.eg now = rate := fun s hs => holds_rate (hh s (.inr hs))
    refine ⟨?_, leastTo_same (fun s hs => hrate s hs) _ hl (Nat.le_refl _), ?_, ?_, ?_⟩
    · unfold pathResvd
      rw [Bool.and_eq_true]
      refine ⟨List.all_eq_true.2 fun s hs => ?_, by simpa using hl⟩
      rw [hrate s hs]
      simp; omega
    · obtain ⟨⟨x, hx, h1, _⟩, _⟩ := hh _ (.inr (List.getElem_mem hl))
      exact (mem_ids out).2 ⟨x, hx, h1⟩
    · intro hm
      obtain ⟨r, hr1, hr2⟩ := (mem_ids _).1 hm
      exact release_ids r hr1 hr2
    · unfold pathResvd
      rw [Bool.and_eq_false_iff]
      left
      rw [List.all_eq_false]
      exact ⟨_, List.getElem_mem hl, by rw [rate_release]; simp⟩
end
section
open Go.RowKit
/-- Each hop leads to the next one, the last to q. -/
def Led (t : Topo) (hs : List Hop) (q : Int × Int) : Prop := ∀ i (hi : i < hs.length), hs[i].eg ≠ 0 ∧ remEnd t hs[i].asn hs[i].eg = (hs.map (fun h => (h.asn, h.ing)) ++ [q])[i + 1]'(by simp; omega)
theorem Led.snoc {t : Topo} {hs : List Hop} {x : Hop} (h : Led t hs (x.asn, x.ing)) {q : Int × Int} (h1 : x.eg ≠ 0) (h2 : remEnd t x.asn x.eg = q) : Led t (hs ++ [x]) q := by
  intro i hi
  have hi' : i < hs.length + 1 := by simpa using hi
  rcases Nat.lt_or_ge i hs.length with h3 | h3
  · have h4 := h i h3
    rw [List.getElem_append_left h3]
    refine ⟨h4.1, h4.2.trans ?_⟩
    simp only [List.map_append, List.map_cons, List.map_nil]
    rw [List.getElem_append_left (show i + 1 < (List.map (fun h => (h.asn, h.ing)) hs ++ [(x.asn, x.ing)]).length by simp; omega)]
  · obtain rfl : i = hs.length := by omega
    have e : (hs ++ [x])[hs.length]'hi = x := by simp
    rw [e]
    refine ⟨h1, h2.trans ?_⟩
    simp
/-- What holds between the hops of a segment that has grown. -/
theorem Grown.led {t : Topo} (T : TopoOk t) {kind ts beta : Int} {r inn : Int} {hs : List Hop} (h : Grown t kind ts beta r inn hs) : Led t hs (r, inn) ∧ (asns hs).Nodup ∧ r ∉ asns hs := by
  induction h with
  | start r _ _ => exact ⟨fun i hi => absurd hi (by simp), by simp [asns], by simp [asns]⟩
  | step r inn out e hs _ hout hnew _ _ _ ih =>
    obtain ⟨i1, i2, i3⟩ := ih
    obtain ⟨_, d2, _, _, d5⟩ := T.door (ifsKind_mem hout).1
    have hn : (remEnd t r out).1 ∉ asns hs := fun hm => by
      simp only [hasI, List.any_eq_false, beq_iff_eq] at hnew
      exact hnew _ hm rfl
    refine ⟨Led.snoc (x := sealHop (asAt t r).key ts (betaAt ⟨ts, beta, hs⟩ hs.length) ⟨r, inn, out, e, 0⟩) i1 (by show out ≠ 0; omega) rfl, ?_, ?_⟩
    · unfold asns at *
      rw [List.map_append, List.nodup_append]
      refine ⟨i2, by simp, fun a ha b hb e => ?_⟩
      rw [e, List.mem_singleton.1 hb] at ha
      exact i3 ha
    · unfold asns at *
      rw [List.map_append]
      intro hm
      rcases List.mem_append.1 hm with h1 | h1
      · exact hn h1
      · exact d5 (List.mem_singleton.1 h1)
def Joined (t : Topo) (hs : List Hop) : Prop := ∀ i (hi : i + 1 < hs.length), hs[i].eg ≠ 0 ∧ remEnd t hs[i].asn hs[i].eg = (hs[i + 1].asn, hs[i + 1].ing)
theorem Led.joined {t : Topo} {hs : List Hop} {q : Int × Int} (hL : Led t hs q) : Joined t hs := by
  intro i hi
  have h1 := hL i (by omega)
  refine ⟨h1.1, h1.2.trans ?_⟩
  rw [List.getElem_append_left (by simpa using hi)]
  simp
theorem Led.end_joined {t : Topo} {hs : List Hop} {x : Hop} (hL : Led t hs (x.asn, x.ing)) : Joined t (hs ++ [x]) := by
  intro i hi
  have hi' : i < hs.length := by simpa using hi
  have h2 := hL i hi'
  rw [List.getElem_append_left hi']
  refine ⟨h2.1, h2.2.trans ?_⟩
  rcases Nat.lt_or_ge (i + 1) hs.length with h3 | h3
  · rw [List.getElem_append_left (by simpa using h3), List.getElem_append_left h3]
    simp
  · have e : i + 1 = hs.length := by omega
    simp only [e]
    simp
theorem SegDrawn.led {t : Topo} (T : TopoOk t) {kd : Int} {s : Seg} (h : SegDrawn t kd s) : (asns s.hops).Nodup ∧ Joined t s.hops := by
  rcases h.how with ⟨r, inn, g⟩ | h1 | ⟨r, inn, e, hs, g, _, _, _, h1⟩
  · exact ⟨(g.led T).2.1, (g.led T).1.joined⟩
  · rw [h1]; exact ⟨by simp [asns], fun i hi => absurd hi (by simp)⟩
  · obtain ⟨i1, i2, i3⟩ := g.led T
    rw [h1]
    refine ⟨?_, Led.end_joined i1⟩
    unfold asns at *
    rw [List.map_append, List.nodup_append]
    refine ⟨i2, by simp, fun a ha b hb e => ?_⟩
    rw [e, List.mem_singleton.1 hb] at ha
    exact i3 ha
theorem down_valid {t : Topo} (T : TopoOk t) {kd : Int} {s : Seg} (h : SegDrawn t kd s) {k : Nat} (hk : k < s.hops.length) : validPart t (mkPart s 4 k) = true := by
  obtain ⟨n1, n2⟩ := h.led T
  have e : mkPart s 4 k = ⟨4, s.ts, betaAt s k, s.hops.drop k⟩ := rfl
  have hl := h.len
  have hts := h.ts
  rw [e]
  unfold validPart hopsOk
  simp only [Bool.and_eq_true]
  refine ⟨⟨⟨⟨rfl, inR_true.2 (by rw [List.length_drop]; omega), ?_⟩, inR_true.2 (by omega)⟩, h.resB k (by omega)⟩, ?_⟩
  · rw [fresh_all]
    refine ⟨fun y hy => ?_, ?_⟩
    · obtain ⟨i, hi, rfl⟩ := List.getElem_of_mem (List.mem_of_mem_drop hy)
      have := h.ver T i hi
      unfold verHop at this
      simp only [Bool.and_eq_true] at this
      exact this.1
    · rw [List.map_drop]
      exact n1.sublist (List.drop_sublist _ _)
  · rw [allTo_true]
    intro i hi
    simp only [List.length_drop] at hi
    have a1 : i < (s.hops.drop k).length := by rw [List.length_drop]; omega
    have a2 : i + 1 < (s.hops.drop k).length := by rw [List.length_drop]; omega
    unfold joinAt
    have e1 : partEg ⟨4, s.ts, betaAt s k, s.hops.drop k⟩ i = s.hops[k + i].eg := by
      rw [partEg_at a1]
      show (s.hops.drop k)[i].eg = _
      rw [List.getElem_drop]
    have e2 : partIn ⟨4, s.ts, betaAt s k, s.hops.drop k⟩ (i + 1 : Nat) = s.hops[k + i + 1].ing := by
      rw [partIn_at a2]
      show (s.hops.drop k)[i + 1].ing = _
      rw [List.getElem_drop]
      rfl
    have e3 : hopAt (s.hops.drop k) i = s.hops[k + i] := by rw [hopAt_at a1, List.getElem_drop]
    have e4 : hopAt (s.hops.drop k) (i + 1) = s.hops[k + i + 1] := by rw [hopAt_at a2, List.getElem_drop]; rfl
    obtain ⟨n3, n4⟩ := n2 (k + i) (by omega)
    simp only [e1, e2, e3, e4, n4, Bool.and_eq_true, bne_iff_ne, beq_iff_eq]
    exact ⟨⟨n3, trivial⟩, trivial⟩
theorem makePart_in {s : Seg} {kind : Int} (hk : 1 ≤ kind ∧ kind ≤ 4) {k : Nat} (hl : k < s.hops.length) : makePart s kind k = mkPart s kind k := by
  unfold makePart; rw [if_pos (by simp only [Bool.and_eq_true, inR_true]; omega), Int.toNat_natCast]
theorem makePart_none {s : Seg} {kind k : Int} (h : s.hops.length = 0) : (makePart s kind k).hops = [] := by
  unfold makePart
  rw [if_neg]
  simp only [Bool.and_eq_true, inR_true]
  omega
/-- A part of a valid segment is valid and verifies, in both directions, and from any hop on. -/
theorem parts_law {t : Topo} (T : TopoOk t) {kd : Int} {s : Seg} (h : SegDrawn t kd s) {k : Nat} (hk : k < s.hops.length) :
    validPart t (makePart s 1 k) = true ∧ validPart t (makePart s 4 k) = true ∧ verPart t (makePart s 1 k) = true ∧ verPart t (makePart s 4 k) = true ∧
      betaAfter (makePart s 4 k) (makePart s 4 k).hops.length = (makePart s 1 k).beta ∧ betaAfter (makePart s 1 k) (makePart s 1 k).hops.length = (makePart s 4 k).beta := by
  rw [makePart_in (by omega) hk, makePart_in (by omega) hk]
  have l1 := mkPart_len s 1 k
  have l4 := mkPart_len s 4 k
  have b4 : betaAfter (mkPart s 4 k) (mkPart s 4 k).hops.length = betaAt s s.hops.length := by
    rw [betaAfter_to (Nat.le_refl _), part_beta T h (by omega) _ (by omega)]
    show betaAt s ((k + (mkPart s 4 k).hops.length : Nat) : Int) = _
    rw [l4]; congr 2; omega
  have b1 : betaAfter (mkPart s 1 k) (mkPart s 1 k).hops.length = betaAt s k := by
    rw [betaAfter_to (Nat.le_refl _), part_beta T h (by omega) _ (by omega)]
    show betaAt s ((s.hops.length - (mkPart s 1 k).hops.length : Nat) : Int) = _
    rw [l1]; congr 2; omega
  have e : revPart (mkPart s 4 k) = mkPart s 1 k := by
    show (⟨1, s.ts, betaAfter (mkPart s 4 k) (mkPart s 4 k).hops.length, (s.hops.drop k).reverse⟩ : Part) = ⟨1, s.ts, betaAt s s.hops.length, (s.hops.drop k).reverse⟩
    rw [b4]
  have v4 := down_valid T h hk
  exact ⟨by rw [← e]; exact rev_valid T v4, v4, mkPart_ver T h, mkPart_ver T h, b4, b1⟩
end
end Go.Proofs.Ytikbeiafobnblaa
