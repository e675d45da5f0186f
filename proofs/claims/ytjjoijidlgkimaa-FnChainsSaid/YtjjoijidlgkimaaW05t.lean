/- Contracts of links, interfaces and failed interfaces of a topology, program and reference. No condition but the bounds that each theorem names. -/
import Derived.Test.YtjjoijidlgkimaaW05i
import Derived.Test.YtjjoijidlgkimaaW31p
import Derived.Test.YtjjoijidlgkimaaTyTopo
namespace Go.Proofs.Ytjjoijidlgkimaa
open Go.ChangeShapes Go.WideShapes Go.ChangeAt Go.RowKit Go.Deep

def usesIf (x : Lnk) (r d : Int) : Bool := (x.a == r && x.ai == d) || (x.b == r && x.bi == d)
def linkFrom (r d : Int) : Nat → List Lnk → Int
  | _, [] => -1
  | k, x :: l => if usesIf x r d then k else linkFrom r d (k + 1) l
def linkIdx (l : List Lnk) (r d : Int) : Int := linkFrom r d 0 l
theorem linkFrom_no {r d : Int} {l : List Lnk} {k : Nat} (hk : k < l.length) (h : usesIf l[k] r d = false) : linkFrom r d k (l.drop k) = linkFrom r d (k + 1) (l.drop (k + 1)) := by
  rw [List.drop_eq_getElem_cons hk]
  show (if _ then _ else _) = _
  rw [h]; simp
theorem linkFrom_yes {r d : Int} {l : List Lnk} {k : Nat} (hk : k < l.length) (h : usesIf l[k] r d = true) : linkFrom r d k (l.drop k) = k := by
  rw [List.drop_eq_getElem_cons hk]
  show (if _ then _ else _) = _
  rw [h]; simp
def ifStep (r : Int) (out : List Int) (x : Lnk) : List Int := if x.b == r then insInt x.bi (if x.a == r then insInt x.ai out else out) else (if x.a == r then insInt x.ai out else out)
def topoIfs (l : List Lnk) (r : Int) : List Int := l.foldl (ifStep r) []
theorem foldl_snoc {α β : Type} (f : β → α → β) (z : β) {l : List α} {k : Nat} (hk : k < l.length) : (l.take (k + 1)).foldl f z = f ((l.take k).foldl f z) l[k] := by
  rw [List.take_succ_eq_append_getElem hk, List.foldl_append]; rfl
theorem ifStep_len (r : Int) (out : List Int) (x : Lnk) : (ifStep r out x).length ≤ out.length + 2 := by
  unfold ifStep
  have h1 := insInt_len x.ai out
  have h2 := insInt_len x.bi out
  have h3 := insInt_len x.bi (insInt x.ai out)
  split <;> split <;> omega
theorem topoIfs_len (l : List Lnk) (r : Int) : (topoIfs l r).length ≤ 2 * l.length := by
  have : ∀ (l : List Lnk) (z : List Int), (l.foldl (ifStep r) z).length ≤ z.length + 2 * l.length := by
    intro l
    induction l with
    | nil => intro z; simp
    | cons x l ih => intro z; have := ih (ifStep r z x); have := ifStep_len r z x; simp only [List.foldl_cons, List.length_cons]; omega
  simpa [topoIfs] using this l []
def orI (a b : Int) : Int := IntKind.wrap .i64 ((BitVec.ofInt 64 a ||| BitVec.ofInt 64 b).toNat : Int)
def addEl (s i : Int) : Int := if inR s 0 65535 && inR i 0 15 then orI s (2 ^ i.toNat) else s
theorem addEl_no1 {s i : Int} (h : inR s 0 65535 = false) : addEl s i = s := by simp [addEl, h]
theorem addEl_no2 {s i : Int} (h : inR i 0 15 = false) : addEl s i = s := by simp [addEl, h]
theorem addEl_yes {s i : Int} (h : inR s 0 65535 = true) (h2 : inR i 0 15 = true) : addEl s i = orI s (2 ^ i.toNat) := by simp [addEl, h, h2]
def failStep (t : Topo) (dead : List Int) (r : Int) (s x : Int) : Int := if hasI dead (linkIdx t.links r x) then addEl s x else s
def failedIfs (t : Topo) (dead : List Int) (r : Int) : Int := (topoIfs t.links r).foldl (failStep t dead r) 0

set_option maxHeartbeats 1000000 in
theorem i_usesInterface (x : Lnk) (r d : Int) (w : World) :
    Calls Try.prog 205 #[.agg #[.int .i64 x.a, .int .i64 x.ai, .int .i64 x.b, .int .i64 x.bi, .int .i64 x.kind], .int .i64 r, .int .i64 d] w fun e w' => e = .returned (.bool (usesIf x r d)) ∧ Ext w w' := by
  go_enter Try.func205, Try.ntmps205
  cases h1 : (x.a == r) <;> cases h2 : (x.ai == d) <;> cases h3 : (x.b == r) <;> cases h4 : (x.bi == d)
  all_goals
    go_wp2
    go_ret
    exact ⟨ret_bool (by unfold usesIf; rw [h1, h2, h3, h4]; rfl), (Ext.refl _).alloc _⟩

set_option maxHeartbeats 1000000 in
theorem s_l5Ends (x : Lnk) (r d : Int) (w : World) :
    Calls Try.prog 204 #[.agg #[.int .i64 x.a, .int .i64 x.ai, .int .i64 x.b, .int .i64 x.bi, .int .i64 x.kind], .int .i64 r, .int .i64 d] w fun e w' => e = .returned (.bool (usesIf x r d)) ∧ Ext w w' := by
  go_enter Try.func204, Try.ntmps204
  cases h1 : (x.a == r) <;> cases h2 : (x.ai == d) <;> cases h3 : (x.b == r) <;> cases h4 : (x.bi == d)
  all_goals
    go_wp2
    go_ret
    exact ⟨ret_bool (by unfold usesIf; rw [h1, h2, h3, h4]; rfl), (Ext.refl _).alloc _⟩

set_option maxHeartbeats 1000000 in
theorem i_LinkIndex (t : Topo) (v1 v2 : Value) (r d : Int) (w : World) (h2 : RdS Lnk.rep w v2 t.links) :
    Calls Try.prog 203 #[.agg #[v1, v2], .int .i64 r, .int .i64 d] w fun e w' => e = .returned (.int .i64 (linkIdx t.links r d)) ∧ Ext w w' := by
  obtain ⟨o, cap, rfl, hsm⟩ := h2.shape
  have hx0 : Ext w (w.alloc (.cells #[v1, .slice o t.links.length cap] 71)) := (Ext.refl _).alloc _
  have hB := blk_new w (.cells #[v1, .slice o t.links.length cap] 71)
  have HB := Lib.hid hB; clear hB
  have hv := h2.ext hx0
  have hLI : linkIdx t.links r d = linkFrom r d 0 t.links := rfl
  have HLI := Lib.hid hLI; clear hLI
  generalize t.links = l at *
  go_enter Try.func203, Try.ntmps203
  go_wp2
  go_loopg [12] l.length (fun gk i wr => ∃ k : Nat, gk + k = l.length ∧ i = .int .i64 k ∧ Hid (linkFrom r d k (l.drop k) = linkFrom r d 0 l) ∧ Ext (w.alloc (.cells #[v1, .slice o l.length cap] 71)) wr)
  case atStart => exact ⟨0, rfl, rfl, Lib.hid rfl, Ext.refl _⟩
  case round =>
    obtain ⟨k, hgk, rfl, HK, hx⟩ := hrel
    have hc0 := blk2 (Ext.block hx HB.out)
    by_cases hlt : k < l.length
    · obtain ⟨b, off, rfl, hc⟩ := Lnk.at (hv.ext hx) k hlt
      have hg' : gk - 1 + (k + 1) = l.length ∧ gk - 1 < gk := by omega
      have HG := Lib.hid hg'; clear hg' hgk
      go_wp2_with fail
      refine (i_usesInterface l[k] r d _).mono ?_
      rintro e w2 ⟨rfl, k2⟩
      have hx2 := (hx.alloc _).trans k2
      cases hu : usesIf l[k] r d
      · have HK2 := Lib.hid ((linkFrom_no hlt hu).symm.trans HK.out)
        go_wp2_with fail
        go_roundg (gk - 1)
        case measure => exact HG.out.2
        case rel => exact ⟨k + 1, HG.out.1, by go_num, HK2, hx2⟩
      · have HY := Lib.hid ((HLI.out.trans HK.out.symm).trans (linkFrom_yes hlt hu))
        go_wp2_with fail
        go_ret
        exact ⟨ret_int HY.out.symm, hx0.trans hx2⟩
    · have HY := Lib.hid (HLI.out.trans (HK.out.symm.trans (show _ = (-1 : Int) by rw [List.drop_of_length_le (by omega)]; rfl)))
      go_wp2
      go_ret
      exact ⟨ret_int HY.out.symm, hx0.trans hx⟩

set_option maxHeartbeats 1000000 in
theorem s_LinkIndex (t : Topo) (v1 v2 : Value) (r d : Int) (w : World) (h2 : RdS Lnk.rep w v2 t.links) :
    Calls Try.prog 202 #[.agg #[v1, v2], .int .i64 r, .int .i64 d] w fun e w' => e = .returned (.int .i64 (linkIdx t.links r d)) ∧ Ext w w' := by
  obtain ⟨o, cap, rfl, hsm⟩ := h2.shape
  have hx0 : Ext w (w.alloc (.cells #[v1, .slice o t.links.length cap] 71)) := (Ext.refl _).alloc _
  have hB := blk_new w (.cells #[v1, .slice o t.links.length cap] 71)
  have HB := Lib.hid hB; clear hB
  have hv := h2.ext hx0
  have hLI : linkIdx t.links r d = linkFrom r d 0 t.links := rfl
  have HLI := Lib.hid hLI; clear hLI
  generalize t.links = l at *
  go_enter Try.func202, Try.ntmps202
  go_wp2
  go_loopg [7] l.length (fun gk i wr => ∃ k : Nat, gk + k = l.length ∧ i = .int .i64 k ∧ Hid (linkFrom r d k (l.drop k) = linkFrom r d 0 l) ∧ Ext (w.alloc (.cells #[v1, .slice o l.length cap] 71)) wr)
  case atStart => exact ⟨0, rfl, rfl, Lib.hid rfl, Ext.refl _⟩
  case round =>
    obtain ⟨k, hgk, rfl, HK, hx⟩ := hrel
    have hc0 := blk2 (Ext.block hx HB.out)
    by_cases hlt : k < l.length
    · obtain ⟨b, off, rfl, hc⟩ := Lnk.at (hv.ext hx) k hlt
      have hg' : gk - 1 + (k + 1) = l.length ∧ gk - 1 < gk := by omega
      have HG := Lib.hid hg'; clear hg' hgk
      go_wp2_with fail
      refine (s_l5Ends l[k] r d _).mono ?_
      rintro e w2 ⟨rfl, k2⟩
      have hx2 := (hx).trans k2
      cases hu : usesIf l[k] r d
      · have HK2 := Lib.hid ((linkFrom_no hlt hu).symm.trans HK.out)
        go_wp2_with fail
        go_roundg (gk - 1)
        case measure => exact HG.out.2
        case rel => exact ⟨k + 1, HG.out.1, by go_num, HK2, hx2⟩
      · have HY := Lib.hid ((HLI.out.trans HK.out.symm).trans (linkFrom_yes hlt hu))
        go_wp2_with fail
        go_ret
        exact ⟨ret_int HY.out.symm, hx0.trans hx2⟩
    · have HY := Lib.hid (HLI.out.trans (HK.out.symm.trans (show _ = (-1 : Int) by rw [List.drop_of_length_le (by omega)]; rfl)))
      go_wp2
      go_ret
      exact ⟨ret_int HY.out.symm, hx0.trans hx⟩










end Go.Proofs.Ytjjoijidlgkimaa
