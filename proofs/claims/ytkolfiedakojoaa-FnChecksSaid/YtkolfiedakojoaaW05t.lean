/- Contracts of links, interfaces and failed interfaces of a topology, program and reference. No condition but the bounds that each theorem names. -/
import Derived.Test.YtkolfiedakojoaaW05i
import Derived.Test.YtkolfiedakojoaaW31p
import Derived.Test.YtkolfiedakojoaaTyTopo
namespace Go.Proofs.Ytkolfiedakojoaa
open Go.ChangeShapes Go.WideShapes Go.ChangeAt Go.RowKit Go.Deep

def usesIf (x : Lnk) (r d : Int) : Bool := (x.a == r && x.ai == d) || (x.b == r && x.bi == d)
def linkFrom (r d : Int) : Nat → List Lnk → Int
  | _, [] => -1
  | k, x :: l => if usesIf x r d then k else linkFrom r d (k + 1) l
def linkIdx (l : List Lnk) (r d : Int) : Int := linkFrom r d 0 l
theorem linkFrom_no {r d : Int} {l : List Lnk} {k : Nat} (hk : k < l.length) (h : usesIf l[k] r d = false) : linkFrom r d k (l.drop k) = linkFrom r d (k + 1) (l.drop (k + 1)) := by
  rw [List.drop_eq_getElem_cons hk]
  show (if _ then _ else _) = _
  rw [h]; simp
theorem linkFrom_yes {r d : Int} {l : List Lnk} {k : Nat} (hk : k < l.length) (h : usesIf l[k] r d = true) : linkFrom r d k (l.drop k) = k := by
  rw [List.drop_eq_getElem_cons hk]
  show (if _ then _ else _) = _
  rw [h]; simp
def ifStep (r : Int) (out : List Int) (x : Lnk) : List Int := if x.b == r then insInt x.bi (if x.a == r then insInt x.ai out else out) else (if x.a == r then insInt x.ai out else out)
def topoIfs (l : List Lnk) (r : Int) : List Int := l.foldl (ifStep r) []
theorem foldl_snoc {α β : Type} (f : β → α → β) (z : β) {l : List α} {k : Nat} (hk : k < l.length) : (l.take (k + 1)).foldl f z = f ((l.take k).foldl f z) l[k] := by
  rw [List.take_succ_eq_append_getElem hk, List.foldl_append]; rfl
theorem ifStep_len (r : Int) (out : List Int) (x : Lnk) : (ifStep r out x).length ≤ out.length + 2 := by
  unfold ifStep
  have h1 := insInt_len x.ai out
  have h2 := insInt_len x.bi out
  have h3 := insInt_len x.bi (insInt x.ai out)
  split <;> split <;> omega
theorem topoIfs_len (l : List Lnk) (r : Int) : (topoIfs l r).length ≤ 2 * l.length := by
  have : ∀ (l : List Lnk) (z : List Int), (l.foldl (ifStep r) z).length ≤ z.length + 2 * l.length := by
    intro l
    induction l with
    | nil => intro z; simp
    | cons x l ih => intro z; have := ih (ifStep r z x); have := ifStep_len r z x; simp only [List.foldl_cons, List.length_cons]; omega
  simpa [topoIfs] using this l []
def orI (a b : Int) : Int := IntKind.wrap .i64 ((BitVec.ofInt 64 a ||| BitVec.ofInt 64 b).toNat : Int)
def addEl (s i : Int) : Int := if inR s 0 65535 && inR i 0 15 then orI s (2 ^ i.toNat) else s
theorem addEl_no1 {s i : Int} (h : inR s 0 65535 = false) : addEl s i = s := by simp [addEl, h]
theorem addEl_no2 {s i : Int} (h : inR i 0 15 = false) : addEl s i = s := by simp [addEl, h]
theorem addEl_yes {s i : Int} (h : inR s 0 65535 = true) (h2 : inR i 0 15 = true) : addEl s i = orI s (2 ^ i.toNat) := by simp [addEl, h, h2]
def failStep (t : Topo) (dead : List Int) (r : Int) (s x : Int) : Int := if hasI dead (linkIdx t.links r x) then addEl s x else s
def failedIfs (t : Topo) (dead : List Int) (r : Int) : Int := (topoIfs t.links r).foldl (failStep t dead r) 0

set_option maxHeartbeats 1000000 in
theorem i_usesInterface (x : Lnk) (r d : Int) (w : World) :
    Calls Try.prog 204 #[.agg #[.int .i64 x.a, .int .i64 x.ai, .int .i64 x.b, .int .i64 x.bi, .int .i64 x.kind], .int .i64 r, .int .i64 d] w fun e w' => e = .returned (.bool (usesIf x r d)) ∧ Ext w w' := by
  go_enter Try.func204, Try.ntmps204
  cases h1 : (x.a == r) <;> cases h2 : (x.ai == d) <;> cases h3 : (x.b == r) <;> cases h4 : (x.bi == d)
  all_goals
    go_wp2
    go_ret
    exact ⟨ret_bool (by unfold usesIf; rw [h1, h2, h3, h4]; rfl), (Ext.refl _).alloc _⟩

set_option maxHeartbeats 1000000 in
theorem s_l5Ends (x : Lnk) (r d : Int) (w : World) :
    Calls Try.prog 205 #[.agg #[.int .i64 x.a, .int .i64 x.ai, .int .i64 x.b, .int .i64 x.bi, .int .i64 x.kind], .int .i64 r, .int .i64 d] w fun e w' => e = .returned (.bool (usesIf x r d)) ∧ Ext w w' := by
  go_enter Try.func205, Try.ntmps205
  cases h1 : (x.a == r) <;> cases h2 : (x.ai == d) <;> cases h3 : (x.b == r) <;> cases h4 : (x.bi == d)
  all_goals
    go_wp2
    go_ret
    exact ⟨ret_bool (by unfold usesIf; rw [h1, h2, h3, h4]; rfl), (Ext.refl _).alloc _⟩

set_option maxHeartbeats 1000000 in
theorem i_LinkIndex (t : Topo) (v1 v2 : Value) (r d : Int) (w : World) (h2 : RdS Lnk.rep w v2 t.links) :
    Calls Try.prog 185 #[.agg #[v1, v2], .int .i64 r, .int .i64 d] w fun e w' => e = .returned (.int .i64 (linkIdx t.links r d)) ∧ Ext w w' := by
  obtain ⟨o, cap, rfl, hsm⟩ := h2.shape
  have hx0 : Ext w (w.alloc (.cells #[v1, .slice o t.links.length cap] 59)) := (Ext.refl _).alloc _
  have hB := blk_new w (.cells #[v1, .slice o t.links.length cap] 59)
  have HB := Lib.hid hB; clear hB
  have hv := h2.ext hx0
  have hLI : linkIdx t.links r d = linkFrom r d 0 t.links := rfl
  have HLI := Lib.hid hLI; clear hLI
  generalize t.links = l at *
  go_enter Try.func185, Try.ntmps185
  go_wp2
  go_loopg [12] l.length (fun gk i wr => ∃ k : Nat, gk + k = l.length ∧ i = .int .i64 k ∧ Hid (linkFrom r d k (l.drop k) = linkFrom r d 0 l) ∧ Ext (w.alloc (.cells #[v1, .slice o l.length cap] 59)) wr)
  case atStart => exact ⟨0, rfl, rfl, Lib.hid rfl, Ext.refl _⟩
  case round =>
    obtain ⟨k, hgk, rfl, HK, hx⟩ := hrel
    have hc0 := blk2 (Ext.block hx HB.out)
    by_cases hlt : k < l.length
    · obtain ⟨b, off, rfl, hc⟩ := Lnk.at (hv.ext hx) k hlt
      have hg' : gk - 1 + (k + 1) = l.length ∧ gk - 1 < gk := by omega
      have HG := Lib.hid hg'; clear hg' hgk
      go_wp2_with fail
      refine (i_usesInterface l[k] r d _).mono ?_
      rintro e w2 ⟨rfl, k2⟩
      have hx2 := (hx.alloc _).trans k2
      cases hu : usesIf l[k] r d
      · have HK2 := Lib.hid ((linkFrom_no hlt hu).symm.trans HK.out)
        go_wp2_with fail
        go_roundg (gk - 1)
        case measure => exact HG.out.2
        case rel => exact ⟨k + 1, HG.out.1, by go_num, HK2, hx2⟩
      · have HY := Lib.hid ((HLI.out.trans HK.out.symm).trans (linkFrom_yes hlt hu))
        go_wp2_with fail
        go_ret
        exact ⟨ret_int HY.out.symm, hx0.trans hx2⟩
    · have HY := Lib.hid (HLI.out.trans (HK.out.symm.trans (show _ = (-1 : Int) by rw [List.drop_of_length_le (by omega)]; rfl)))
      go_wp2
      go_ret
      exact ⟨ret_int HY.out.symm, hx0.trans hx⟩

set_option maxHeartbeats 1000000 in
theorem s_LinkIndex (t : Topo) (v1 v2 : Value) (r d : Int) (w : World) (h2 : RdS Lnk.rep w v2 t.links) :
    Calls Try.prog 186 #[.agg #[v1, v2], .int .i64 r, .int .i64 d] w fun e w' => e = .returned (.int .i64 (linkIdx t.links r d)) ∧ Ext w w' := by
  obtain ⟨o, cap, rfl, hsm⟩ := h2.shape
  have hx0 : Ext w (w.alloc (.cells #[v1, .slice o t.links.length cap] 59)) := (Ext.refl _).alloc _
  have hB := blk_new w (.cells #[v1, .slice o t.links.length cap] 59)
  have HB := Lib.hid hB; clear hB
  have hv := h2.ext hx0
  have hLI : linkIdx t.links r d = linkFrom r d 0 t.links := rfl
  have HLI := Lib.hid hLI; clear hLI
  generalize t.links = l at *
  go_enter Try.func186, Try.ntmps186
  go_wp2
  go_loopg [7] l.length (fun gk i wr => ∃ k : Nat, gk + k = l.length ∧ i = .int .i64 k ∧ Hid (linkFrom r d k (l.drop k) = linkFrom r d 0 l) ∧ Ext (w.alloc (.cells #[v1, .slice o l.length cap] 59)) wr)
  case atStart => exact ⟨0, rfl, rfl, Lib.hid rfl, Ext.refl _⟩
  case round =>
    obtain ⟨k, hgk, rfl, HK, hx⟩ := hrel
    have hc0 := blk2 (Ext.block hx HB.out)
    by_cases hlt : k < l.length
    · obtain ⟨b, off, rfl, hc⟩ := Lnk.at (hv.ext hx) k hlt
      have hg' : gk - 1 + (k + 1) = l.length ∧ gk - 1 < gk := by omega
      have HG := Lib.hid hg'; clear hg' hgk
      go_wp2_with fail
      refine (s_l5Ends l[k] r d _).mono ?_
      rintro e w2 ⟨rfl, k2⟩
      have hx2 := (hx).trans k2
      cases hu : usesIf l[k] r d
      · have HK2 := Lib.hid ((linkFrom_no hlt hu).symm.trans HK.out)
        go_wp2_with fail
        go_roundg (gk - 1)
        case measure => exact HG.out.2
        case rel => exact ⟨k + 1, HG.out.1, by go_num, HK2, hx2⟩
      · have HY := Lib.hid ((HLI.out.trans HK.out.symm).trans (linkFrom_yes hlt hu))
        go_wp2_with fail
        go_ret
        exact ⟨ret_int HY.out.symm, hx0.trans hx2⟩
    · have HY := Lib.hid (HLI.out.trans (HK.out.symm.trans (show _ = (-1 : Int) by rw [List.drop_of_length_le (by omega)]; rfl)))
      go_wp2
      go_ret
      exact ⟨ret_int HY.out.symm, hx0.trans hx⟩


set_option maxRecDepth 100000 in
set_option maxHeartbeats 2000000 in
theorem s_Interfaces (t : Topo) (v1 v2 : Value) (r : Int) (w : World) (h2 : RdS Lnk.rep w v2 t.links) (hl : t.links.length ≤ 1048576) :
    Calls Try.prog 201 #[.agg #[v1, v2], .int .i64 r] w fun e w' => ∃ v', e = .returned v' ∧ OwnF intF 1 w.heap.size 3 w' v' (topoIfs t.links r) ∧ Ext w w' := by
  obtain ⟨o, cap, rfl, hsm⟩ := h2.shape
  have hx0 : Ext w ((w.alloc (.cells #[v1, .slice o t.links.length cap] 59)).alloc (.cells #[] 3)) := ((Ext.refl _).alloc _).alloc _
  have hB := Ext.block ((Ext.refl _).alloc (.cells #[] 3)) (blk_new w (.cells #[v1, .slice o t.links.length cap] 59))
  have ho0 := (OwnF.empty intF 1 (w.alloc (.cells #[v1, .slice o t.links.length cap] 59)).heap.size 3 (w.alloc (.cells #[v1, .slice o t.links.length cap] 59)) (Nat.le_refl _)).mono (base' := w.heap.size) (by simp)
  simp only [nblk_alloc] at ho0
  have HB := Lib.hid hB; clear hB
  have hv := h2.ext hx0
  have hTI : topoIfs t.links r = t.links.foldl (ifStep r) [] := rfl
  have HTI := Lib.hid hTI; clear hTI
  generalize t.links = l at *
  go_enter Try.func201, Try.ntmps201
  go_wp2
  go_loopg [5, 6] l.length (fun gk out i wr => ∃ (k : Nat) (xs : List Int), gk + k = l.length ∧ i = .int .i64 k ∧ Hid (xs = (l.take k).foldl (ifStep r) []) ∧ xs.length ≤ 2 * k ∧ OwnF intF 1 w.heap.size 3 wr out xs ∧ Ext ((w.alloc (.cells #[v1, .slice o l.length cap] 59)).alloc (.cells #[] 3)) wr)
  case atStart => exact ⟨0, [], rfl, rfl, Lib.hid rfl, Nat.le_refl _, ho0, Ext.refl _⟩
  case round =>
    obtain ⟨k, xs, hgk, rfl, HX, hxl, hown, hx⟩ := hrel
    have hc0 := blk2 (Ext.block hx HB.out)
    obtain ⟨oo, co, rfl, _⟩ := (ints_rep hown).shape
    have hsz := hown
    by_cases hlt : k < l.length
    · obtain ⟨b, off, rfl, hc⟩ := Lnk.at (hv.ext hx) k hlt
      have hg' : gk - 1 + (k + 1) = l.length ∧ gk - 1 < gk := by omega
      have HG := Lib.hid hg'; clear hg' hgk
      have hst : (l.take (k + 1)).foldl (ifStep r) [] = ifStep r xs l[k] := by rw [foldl_snoc _ _ hlt, HX.out]
      have HST := Lib.hid hst; clear hst
      have hwr : w.heap.size ≤ wr.heap.size := (hx0.trans hx).size
      have hi1 := insInt_len l[k].ai xs
      have hi2 := insInt_len l[k].bi xs
      have hi3 := insInt_len l[k].bi (insInt l[k].ai xs)
      have hxa : Ext wr wr := Ext.refl _
      have hoa := hown.ext hxa
      clear hsz hown
      cases ha : (l[k].a == r)
      · cases hb : (l[k].b == r)
        · have hes : ifStep r xs l[k] = xs := by unfold ifStep; rw [ha, hb]; rfl
          have HE := Lib.hid (hes.symm.trans HST.out.symm); clear hes
          go_wp2_with fail
          go_roundg (gk - 1)
          case measure => exact HG.out.2
          case rel => exact ⟨k + 1, _, HG.out.1, by go_num, HE, by omega, hoa, hx.trans hxa⟩
        · have hes : ifStep r xs l[k] = insInt l[k].bi xs := by unfold ifStep; rw [ha, hb]; rfl
          have HE := Lib.hid (hes.symm.trans HST.out.symm); clear hes
          go_wp2_with fail
          refine (s_l5Put xs _ l[k].bi w.heap.size _ hoa (Nat.le_trans hwr hxa.size) (by omega)).mono ?_
          rintro e w2 ⟨v2, rfl, o2, k2⟩
          go_wp2_with fail
          go_roundg (gk - 1)
          case measure => exact HG.out.2
          case rel => exact ⟨k + 1, _, HG.out.1, by go_num, HE, by omega, o2, (hx.trans hxa).trans k2⟩
      · go_wp2_with fail
        refine (s_l5Put xs _ l[k].ai w.heap.size _ hoa (Nat.le_trans hwr hxa.size) (by omega)).mono ?_
        rintro e w2 ⟨v2, rfl, o2, k2⟩
        obtain ⟨oo2, co2, rfl, _⟩ := (ints_rep o2).shape
        have hcb := blk2 (Ext.block (hx.trans (hxa.trans k2)) HB.out)
        have hcc := Lnk.at_ext (hxa.trans k2) hc
        cases hb : (l[k].b == r)
        · have hes : ifStep r xs l[k] = insInt l[k].ai xs := by unfold ifStep; rw [ha, hb]; rfl
          have HE := Lib.hid (hes.symm.trans HST.out.symm); clear hes
          go_wp2_with fail
          go_roundg (gk - 1)
          case measure => exact HG.out.2
          case rel => exact ⟨k + 1, _, HG.out.1, by go_num, HE, by omega, o2, (hx.trans hxa).trans k2⟩
        · have hes : ifStep r xs l[k] = insInt l[k].bi (insInt l[k].ai xs) := by unfold ifStep; rw [ha, hb]; rfl
          have HE := Lib.hid (hes.symm.trans HST.out.symm); clear hes
          go_wp2_with fail
          refine (s_l5Put _ _ l[k].bi w.heap.size _ o2 (Nat.le_trans hwr (hxa.trans k2).size) (by omega)).mono ?_
          rintro e w3 ⟨v3, rfl, o3, k3⟩
          go_wp2_with fail
          go_roundg (gk - 1)
          case measure => exact HG.out.2
          case rel => exact ⟨k + 1, _, HG.out.1, by go_num, HE, by omega, o3, ((hx.trans hxa).trans k2).trans k3⟩
    · have hxs : xs = topoIfs l r := by
        have := HX.out
        rw [List.take_of_length_le (by omega)] at this
        exact this
      have HXS := Lib.hid hxs; clear hxs
      go_wp2
      go_ret
      rw [← HXS.out]
      exact ⟨_, rfl, hown, hx0.trans hx⟩

set_option maxHeartbeats 400000 in
theorem i_ValidSet (n : Int) (w : World) : Calls Try.prog 206 #[.int .i64 n] w fun e w' => e = .returned (.bool (inR n 0 65535)) ∧ w = w' := by
  go_enter Try.func206, Try.ntmps206
  go_wp2_with fail
  refine (i_InRange _ _ _ _).mono ?_
  rintro e w1 ⟨rfl, rfl⟩
  go_wp2_with fail
  go_ret
  exact ⟨rfl, rfl⟩


set_option maxHeartbeats 400000 in
theorem s_ValidSet (n : Int) (w : World) : Calls Try.prog 208 #[.int .i64 n] w fun e w' => e = .returned (.bool (inR n 0 65535)) ∧ w = w' := by
  go_enter Try.func208, Try.ntmps208
  go_wp2_with fail
  refine (s_l1In _ _ _ _).mono ?_
  rintro e w1 ⟨rfl, rfl⟩
  go_wp2_with fail
  go_ret
  exact ⟨rfl, rfl⟩

set_option maxHeartbeats 400000 in
theorem s_l4One (n : Int) (w : World) : Calls Try.prog 209 #[.int .i64 n] w fun e w' => e = .returned (.bool (inR n 0 15)) ∧ w = w' := by
  go_enter Try.func209, Try.ntmps209
  go_wp2_with fail
  refine (s_l1In _ _ _ _).mono ?_
  rintro e w1 ⟨rfl, rfl⟩
  go_wp2_with fail
  go_ret
  exact ⟨rfl, rfl⟩




end Go.Proofs.Ytkolfiedakojoaa
