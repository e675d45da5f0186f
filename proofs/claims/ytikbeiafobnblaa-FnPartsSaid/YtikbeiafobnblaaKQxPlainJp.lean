/- A part of a segment as it is drawn: valid, it verifies, in both directions, and from any hop on. No program in sight. No condition. -/
import Derived.Test.YtikbeiafobnblaaKQ18
import Derived.Test.YtikbeiafobnblaaKQ25
import Derived.Test.YtikbeiafobnblaaKQ51
namespace Go.Proofs.Ytikbeiafobnblaa
open Go.RowKit

/-- Each hop leads to the next one, the last to q. -/
def Led (t : Topo) (hs : List Hop) (q : Int × Int) : Prop := ∀ i (hi : i < hs.length), hs[i].eg ≠ 0 ∧ remEnd t hs[i].asn hs[i].eg = (hs.map (fun h => (h.asn, h.ing)) ++ [q])[i + 1]'(by simp; omega)
theorem Led.snoc {t : Topo} {hs : List Hop} {x : Hop} (h : Led t hs (x.asn, x.ing)) {q : Int × Int} (h1 : x.eg ≠ 0) (h2 : remEnd t x.asn x.eg = q) : Led t (hs ++ [x]) q := by
  intro i hi
  have hi' : i < hs.length + 1 := by simpa using hi
  rcases Nat.lt_or_ge i hs.length with h3 | h3
  · have h4 := h i h3
    rw [List.getElem_append_left h3]
    refine ⟨h4.1, h4.2.trans ?_⟩
    simp only [List.map_append, List.map_cons, List.map_nil]
    rw [List.getElem_append_left (show i + 1 < (List.map (fun h => (h.asn, h.ing)) hs ++ [(x.asn, x.ing)]).length by simp; omega)]
  · obtain rfl : i = hs.length := by omega
    have e : (hs ++ [x])[hs.length]'hi = x := by simp
    rw [e]
    refine ⟨h1, h2.trans ?_⟩
    simp
/-- What holds between the hops of a segment that has grown. -/
theorem Grown.led {t : Topo} (T : TopoOk t) {kind ts beta : Int} {r inn : Int} {hs : List Hop} (h : Grown t kind ts beta r inn hs) : Led t hs (r, inn) ∧ (asns hs).Nodup ∧ r ∉ asns hs := by
  induction h with
  | start r _ _ => exact ⟨fun i hi => absurd hi (by simp), by simp [asns], by simp [asns]⟩
  | step r inn out e hs _ hout hnew _ _ _ ih =>
    obtain ⟨i1, i2, i3⟩ := ih
    obtain ⟨_, d2, _, _, d5⟩ := T.door (ifsKind_mem hout).1
    have hn : (remEnd t r out).1 ∉ asns hs := fun hm => by
      simp only [hasI, List.any_eq_false, beq_iff_eq] at hnew
      exact hnew _ hm rfl
    refine ⟨Led.snoc (x := sealHop (asAt t r).key ts (betaAt ⟨ts, beta, hs⟩ hs.length) ⟨r, inn, out, e, 0⟩) i1 (by show out ≠ 0; omega) rfl, ?_, ?_⟩
    · unfold asns at *
      rw [List.map_append, List.nodup_append]
      refine ⟨i2, by simp, fun a ha b hb e => ?_⟩
      rw [e, List.mem_singleton.1 hb] at ha
      exact i3 ha
    · unfold asns at *
      rw [List.map_append]
      intro hm
      rcases List.mem_append.1 hm with h1 | h1
      · exact hn h1
      · exact d5 (List.mem_singleton.1 h1)
def Joined (t : Topo) (hs : List Hop) : Prop := ∀ i (hi : i + 1 < hs.length), hs[i].eg ≠ 0 ∧ remEnd t hs[i].asn hs[i].eg = (hs[i + 1].asn, hs[i + 1].ing)
theorem Led.joined {t : Topo} {hs : List Hop} {q : Int × Int} (hL : Led t hs q) : Joined t hs := by
  intro i hi
  have h1 := hL i (by omega)
  refine ⟨h1.1, h1.2.trans ?_⟩
  rw [List.getElem_append_left (by simpa using hi)]
  simp
theorem Led.end_joined {t : Topo} {hs : List Hop} {x : Hop} (hL : Led t hs (x.asn, x.ing)) : Joined t (hs ++ [x]) := by
  intro i hi
  have hi' : i < hs.length := by simpa using hi
  have h2 := hL i hi'
  rw [List.getElem_append_left hi']
  refine ⟨h2.1, h2.2.trans ?_⟩
  rcases Nat.lt_or_ge (i + 1) hs.length with h3 | h3
  · rw [List.getElem_append_left (by simpa using h3), List.getElem_append_left h3]
    simp
  · have e : i + 1 = hs.length := by omega
    simp only [e]
    simp
theorem SegDrawn.led {t : Topo} (T : TopoOk t) {kd : Int} {s : Seg} (h : SegDrawn t kd s) : (asns s.hops).Nodup ∧ Joined t s.hops := by
  rcases h.how with ⟨r, inn, g⟩ | h1 | ⟨r, inn, e, hs, g, _, _, _, h1⟩
  · exact ⟨(g.led T).2.1, (g.led T).1.joined⟩
  · rw [h1]; exact ⟨by simp [asns], fun i hi => absurd hi (by simp)⟩
  · obtain ⟨i1, i2, i3⟩ := g.led T
    rw [h1]
    refine ⟨?_, Led.end_joined i1⟩
    unfold asns at *
    rw [List.map_append, List.nodup_append]
    refine ⟨i2, by simp, fun a ha b hb e => ?_⟩
    rw [e, List.mem_singleton.1 hb] at ha
    exact i3 ha
theorem down_valid {t : Topo} (T : TopoOk t) {kd : Int} {s : Seg} (h : SegDrawn t kd s) {k : Nat} (hk : k < s.hops.length) : validPart t (mkPart s 4 k) = true := by
  obtain ⟨n1, n2⟩ := h.led T
  have e : mkPart s 4 k = ⟨4, s.ts, betaAt s k, s.hops.drop k⟩ := rfl
  have hl := h.len
  have hts := h.ts
  rw [e]
  unfold validPart hopsOk
  simp only [Bool.and_eq_true]
  refine ⟨⟨⟨⟨rfl, inR_true.2 (by rw [List.length_drop]; omega), ?_⟩, inR_true.2 (by omega)⟩, h.resB k (by omega)⟩, ?_⟩
  · rw [fresh_all]
    refine ⟨fun y hy => ?_, ?_⟩
    · obtain ⟨i, hi, rfl⟩ := List.getElem_of_mem (List.mem_of_mem_drop hy)
      have := h.ver T i hi
      unfold verHop at this
      simp only [Bool.and_eq_true] at this
      exact this.1
    · rw [List.map_drop]
      exact n1.sublist (List.drop_sublist _ _)
  · rw [allTo_true]
    intro i hi
    simp only [List.length_drop] at hi
    have a1 : i < (s.hops.drop k).length := by rw [List.length_drop]; omega
    have a2 : i + 1 < (s.hops.drop k).length := by rw [List.length_drop]; omega
    unfold joinAt
    have e1 : partEg ⟨4, s.ts, betaAt s k, s.hops.drop k⟩ i = s.hops[k + i].eg := by
      rw [partEg_at a1]
      show (s.hops.drop k)[i].eg = _
      rw [List.getElem_drop]
    have e2 : partIn ⟨4, s.ts, betaAt s k, s.hops.drop k⟩ (i + 1 : Nat) = s.hops[k + i + 1].ing := by
      rw [partIn_at a2]
      show (s.hops.drop k)[i + 1].ing = _
      rw [List.getElem_drop]
      rfl
    have e3 : hopAt (s.hops.drop k) i = s.hops[k + i] := by rw [hopAt_at a1, List.getElem_drop]
    have e4 : hopAt (s.hops.drop k) (i + 1) = s.hops[k + i + 1] := by rw [hopAt_at a2, List.getElem_drop]; rfl
    obtain ⟨n3, n4⟩ := n2 (k + i) (by omega)
    simp only [e1, e2, e3, e4, n4, Bool.and_eq_true, bne_iff_ne, beq_iff_eq]
    exact ⟨⟨n3, trivial⟩, trivial⟩
theorem makePart_in {s : Seg} {kind : Int} (hk : 1 ≤ kind ∧ kind ≤ 4) {k : Nat} (hl : k < s.hops.length) : makePart s kind k = mkPart s kind k := by
  unfold makePart; rw [if_pos (by simp only [Bool.and_eq_true, inR_true]; omega), Int.toNat_natCast]
theorem makePart_none {s : Seg} {kind k : Int} (h : s.hops.length = 0) : (makePart s kind k).hops = [] := by
  unfold makePart
  rw [if_neg]
  simp only [Bool.and_eq_true, inR_true]
  omega
/-- A part of a valid segment is valid and verifies, in both directions, and from any hop on. -/
theorem parts_law {t : Topo} (T : TopoOk t) {kd : Int} {s : Seg} (h : SegDrawn t kd s) {k : Nat} (hk : k < s.hops.length) :
    validPart t (makePart s 1 k) = true ∧ validPart t (makePart s 4 k) = true ∧ verPart t (makePart s 1 k) = true ∧ verPart t (makePart s 4 k) = true ∧
      betaAfter (makePart s 4 k) (makePart s 4 k).hops.length = (makePart s 1 k).beta ∧ betaAfter (makePart s 1 k) (makePart s 1 k).hops.length = (makePart s 4 k).beta := by
  rw [makePart_in (by omega) hk, makePart_in (by omega) hk]
  have l1 := mkPart_len s 1 k
  have l4 := mkPart_len s 4 k
  have b4 : betaAfter (mkPart s 4 k) (mkPart s 4 k).hops.length = betaAt s s.hops.length := by
    rw [betaAfter_to (Nat.le_refl _), part_beta T h (by omega) _ (by omega)]
    show betaAt s ((k + (mkPart s 4 k).hops.length : Nat) : Int) = _
    rw [l4]; congr 2; omega
  have b1 : betaAfter (mkPart s 1 k) (mkPart s 1 k).hops.length = betaAt s k := by
    rw [betaAfter_to (Nat.le_refl _), part_beta T h (by omega) _ (by omega)]
    show betaAt s ((s.hops.length - (mkPart s 1 k).hops.length : Nat) : Int) = _
    rw [l1]; congr 2; omega
  have e : revPart (mkPart s 4 k) = mkPart s 1 k := by
    show (⟨1, s.ts, betaAfter (mkPart s 4 k) (mkPart s 4 k).hops.length, (s.hops.drop k).reverse⟩ : Part) = ⟨1, s.ts, betaAt s s.hops.length, (s.hops.drop k).reverse⟩
    rw [b4]
  have v4 := down_valid T h hk
  exact ⟨by rw [← e]; exact rev_valid T v4, v4, mkPart_ver T h, mkPart_ver T h, b4, b1⟩
end Go.Proofs.Ytikbeiafobnblaa
