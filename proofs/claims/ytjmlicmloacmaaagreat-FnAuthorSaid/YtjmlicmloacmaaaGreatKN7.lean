/- Part 7 of 28 of what the laws FnNoDoorTwice and FnAuthor need: Contracts of the interfaces that paths use and of what revocations affect, program and reference. No condition but the bounds that each theorem names. The data of the struct AS (ASd), how a slice of it reads, and the contracts of the laws' helper functions over it. No condition but the bounds that each theorem names. The data of the struct Link (Lnk), how a slice of it reads, and the contracts of the laws' helper functions over it. No condition but the bounds that each theorem names. The data of the struct Topology, how it reads, and the contracts of the laws' helper functions over it. No condition but the bounds that each theorem names. Contracts of links, interfaces and failed interfaces of a topology, program and reference. No condition but the bounds that each theorem names. Contracts of the arithmetic modulo the prime, program and reference. No condition but the bounds that each theorem names. Contracts of the functions on steps and on kinds of parts, program and reference, and of the laws over them. No condition but the bounds that each theorem names. Contracts of turning parts around, program and reference. No condition but the bounds that each theorem names. -/
import Derived.Test.YtjmlicmloacmaaaGreatKN6
import Derived.Test.YtjmlicmloacmaaaGreatKN1
import Derived.Test.YtjmlicmloacmaaaGreatKN4
import Derived.Test.YtjmlicmloacmaaaGreatKN5
namespace Go.Proofs.YtjmlicmloacmaaaGreat
section
open Go.ChangeShapes Go.WideShapes Go.ChangeAt Go.RowKit Go.Deep

def hasI (l : List Int) (n : Int) : Bool := l.any (fun x => x == n)
theorem any_snoc {α : Type} (p : α → Bool) {l : List α} {k : Nat} (hk : k < l.length) : (l.take (k + 1)).any p = ((l.take k).any p || p l[k]) := by
  rw [List.take_succ_eq_append_getElem hk, List.any_append]; simp
theorem any_hit {α : Type} (p : α → Bool) {l : List α} {k : Nat} (hk : k < l.length) (h : p l[k] = true) : l.any p = true := List.any_eq_true.2 ⟨l[k], List.getElem_mem _, h⟩
def ifNum (a d : Int) : Int := wrap64 (wrap64 (8 * a) + d)
def stepIfs (s : Step) : List Int := (if s.ing != 0 then [ifNum s.asn s.ing] else []) ++ (if s.eg != 0 then [ifNum s.asn s.eg] else [])
def usedIfs (l : List Step) : List Int := l.flatMap stepIfs
theorem stepIfs_len (s : Step) : (stepIfs s).length ≤ 2 := by unfold stepIfs; split <;> split <;> simp
theorem usedIfs_snoc {l : List Step} {k : Nat} (hk : k < l.length) : usedIfs (l.take (k + 1)) = usedIfs (l.take k) ++ stepIfs l[k] := by
  unfold usedIfs; rw [List.take_succ_eq_append_getElem hk, List.flatMap_append]; simp
theorem usedIfs_len (l : List Step) : (usedIfs l).length ≤ 2 * l.length := by
  induction l with
  | nil => simp [usedIfs]
  | cons a l ih =>
    have := stepIfs_len a
    unfold usedIfs at *
    rw [List.flatMap_cons, List.length_append, List.length_cons]; omega
theorem stepIfs_11 {s : Step} (h1 : (s.ing != 0) = true) (h2 : (s.eg != 0) = true) : stepIfs s = [ifNum s.asn s.ing] ++ [ifNum s.asn s.eg] := by simp [stepIfs, h1, h2]
theorem stepIfs_10 {s : Step} (h1 : (s.ing != 0) = true) (h2 : (s.eg != 0) = false) : stepIfs s = [ifNum s.asn s.ing] := by simp [stepIfs, h1, h2]
theorem stepIfs_01 {s : Step} (h1 : (s.ing != 0) = false) (h2 : (s.eg != 0) = true) : stepIfs s = [ifNum s.asn s.eg] := by simp [stepIfs, h1, h2]
theorem stepIfs_00 {s : Step} (h1 : (s.ing != 0) = false) (h2 : (s.eg != 0) = false) : stepIfs s = [] := by simp [stepIfs, h1, h2]
def affects (p : Pth) (x : Revc) : Bool := validRev x && hasI (usedIfs (pathSteps p.parts)) (ifNum x.asn x.iface)
def revoked (l : List Revc) (p : Pth) (now : Int) : Bool := (activeRevs now l).any (affects p)

set_option maxHeartbeats 400000 in
theorem i_hasInt (l : List Int) (v : Value) (n : Int) (w : World) (hv : RdS Rep.int w v l) :
    Calls Tryz.prog 191 #[v, .int .i64 n] w fun e w' => e = .returned (.bool (hasI l n)) ∧ w = w' := by
  obtain ⟨o, cap, rfl, hsm⟩ := hv.shape
  go_enter Tryz.func191, Tryz.ntmps191
  go_wp2
  go_loop [9] (fun i => ∃ k : Nat, k ≤ l.length ∧ i = .int .i64 k ∧ hasI (l.take k) n = false) (fun i => l.length - (intOf i).toNat)
  case atStart => exact ⟨0, Nat.zero_le _, rfl, rfl⟩
  case round =>
    obtain ⟨k, hk, rfl, hno⟩ := hrel
    have HN := Lib.hid hno; clear hno
    by_cases hlt : k < l.length
    · obtain ⟨b, off, rfl, hc⟩ := ints_at hv k hlt
      cases he : (l[k] == n)
      · go_wp2
        go_round
        case rel => exact ⟨k + 1, by omega, by go_num, by unfold hasI; rw [any_snoc _ hlt, he, Bool.or_false]; exact HN.out⟩
        case measure => simp [intOf]; omega
      · have hy : hasI l n = true := any_hit _ hlt he
        have HY := Lib.hid hy; clear hy
        go_wp2
        go_ret
        exact ⟨ret_bool HY.out.symm, rfl⟩
    · have hy : hasI l n = false := by rw [← HN.out, List.take_of_length_le (by omega)]
      have HY := Lib.hid hy; clear hy
      go_wp2
      go_ret
      exact ⟨ret_bool HY.out.symm, rfl⟩

set_option maxHeartbeats 400000 in
theorem s_l9Has (l : List Int) (v : Value) (n : Int) (w : World) (hv : RdS Rep.int w v l) :
    Calls Tryz.prog 193 #[v, .int .i64 n] w fun e w' => e = .returned (.bool (hasI l n)) ∧ w = w' := by
  obtain ⟨o, cap, rfl, hsm⟩ := hv.shape
  go_enter Tryz.func193, Tryz.ntmps193
  go_wp2
  go_loop [5] (fun i => ∃ k : Nat, k ≤ l.length ∧ i = .int .i64 k ∧ hasI (l.take k) n = false) (fun i => l.length - (intOf i).toNat)
  case atStart => exact ⟨0, Nat.zero_le _, rfl, rfl⟩
  case round =>
    obtain ⟨k, hk, rfl, hno⟩ := hrel
    have HN := Lib.hid hno; clear hno
    by_cases hlt : k < l.length
    · obtain ⟨b, off, rfl, hc⟩ := ints_at hv k hlt
      cases he : (l[k] == n)
      · go_wp2
        go_round
        case rel => exact ⟨k + 1, by omega, by go_num, by unfold hasI; rw [any_snoc _ hlt, he, Bool.or_false]; exact HN.out⟩
        case measure => simp [intOf]; omega
      · have hy : hasI l n = true := any_hit _ hlt he
        have HY := Lib.hid hy; clear hy
        go_wp2
        go_ret
        exact ⟨ret_bool HY.out.symm, rfl⟩
    · have hy : hasI l n = false := by rw [← HN.out, List.take_of_length_le (by omega)]
      have HY := Lib.hid hy; clear hy
      go_wp2
      go_ret
      exact ⟨ret_bool HY.out.symm, rfl⟩

set_option maxHeartbeats 4000000 in
theorem i_numbered (l : List Step) (v : Value) (w : World) (hv : RdS Step.rep w v l) (hl : l.length ≤ 1048576) :
    Calls Tryz.prog 152 #[v] w fun e w' => ∃ v', e = .returned v' ∧ OwnF intF 1 w.heap.size 3 w' v' (usedIfs l) ∧ Ext w w' := by
  obtain ⟨o, cap, rfl, hsm⟩ := hv.shape
  obtain ⟨E⟩ := elemInt
  go_enter Tryz.func152, Tryz.ntmps152
  go_wp2
  go_loopg [3, 8] l.length (fun gk out i wr => ∃ k : Nat, gk + k = l.length ∧ i = .int .i64 k ∧ OwnF intF 1 w.heap.size 3 wr out (usedIfs (l.take k)) ∧ Ext w wr)
  case atStart => exact ⟨0, rfl, rfl, OwnF.nil _ _ _ _ _, Ext.refl _⟩
  case round =>
    obtain ⟨k, hgk, rfl, hown, hx⟩ := hrel
    have hln : (usedIfs (l.take k)).length ≤ 2 * k := Nat.le_trans (usedIfs_len _) (by have := List.length_take_le k l; omega)
    by_cases hlt : k < l.length
    · obtain ⟨b, off, rfl, hc⟩ := Step.at (hv.ext hx) k hlt
      have hg' : gk - 1 + (k + 1) = l.length ∧ gk - 1 < gk := by omega
      have HG := Lib.hid hg'; clear hg' hgk
      have HS := Lib.hid (usedIfs_snoc hlt)
      generalize usedIfs (l.take k) = out at *
      have hB := blk_new wr (.cells #[.int .i64 l[k].asn, .int .i64 l[k].ing, .int .i64 l[k].eg] 59)
      have HB := Lib.hid hB; clear hB
      have hxa : Ext w (wr.alloc (.cells #[.int .i64 l[k].asn, .int .i64 l[k].ing, .int .i64 l[k].eg] 59)) := hx.alloc _
      have hoa := hown.ext ((Ext.refl wr).alloc (.cells #[.int .i64 l[k].asn, .int .i64 l[k].ing, .int .i64 l[k].eg] 59))
      cases h1 : (l[k].ing != 0)
      · cases h2 : (l[k].eg != 0)
        · have HE := Lib.hid (HS.out.trans (by rw [stepIfs_00 h1 h2, List.append_nil]))
          go_wp2_with fail
          go_roundg (gk - 1)
          case measure => exact HG.out.2
          case rel => exact ⟨k + 1, HG.out.1, by go_num, by rw [HE.out]; exact hoa, hxa⟩
        · have HE := Lib.hid (HS.out.trans (by rw [stepIfs_01 h1 h2]))
          go_wp2_with (at_builtin; refine app1 E intFlen intOne rfl _ _ rfl (ifNum l[k].asn l[k].eg) rfl (OwnF.ext hown (((Ext.refl _).alloc _).alloc _)) rfl (by exact blk_list (intF (ifNum l[k].asn l[k].eg)) (blk_new2 wr _ _)) (by omega) (by unfold maxLen; omega) (by exact (hxa.alloc _).size) ?_)
          intro v1 w1 ho1 hg1
          have hx1 := Ext.app (hxa.alloc _) hg1 hown (Nat.le_refl _)
          clear hg1
          rw [← HE.out] at ho1
          go_wp2_with fail
          go_roundg (gk - 1)
          case measure => exact HG.out.2
          case rel => exact ⟨k + 1, HG.out.1, by go_num, ho1, hx1⟩

      · cases h2 : (l[k].eg != 0)
        · have HE := Lib.hid (HS.out.trans (by rw [stepIfs_10 h1 h2]))
          go_wp2_with (at_builtin; refine app1 E intFlen intOne rfl _ _ rfl (ifNum l[k].asn l[k].ing) rfl (OwnF.ext hown (((Ext.refl _).alloc _).alloc _)) rfl (by exact blk_list (intF (ifNum l[k].asn l[k].ing)) (blk_new2 wr _ _)) (by omega) (by unfold maxLen; omega) (by exact (hxa.alloc _).size) ?_)
          intro v1 w1 ho1 hg1
          have hx1 := Ext.app (hxa.alloc _) hg1 hown (Nat.le_refl _)
          have hs1 := blk3 (own_ne (OwnF.ext hown (((Ext.refl _).alloc _).alloc _)) (Ext.block ((Ext.refl _).alloc _) HB.out) (by decide) hg1)
          clear hg1
          rw [← HE.out] at ho1
          go_wp2_with fail
          go_roundg (gk - 1)
          case measure => exact HG.out.2
          case rel => exact ⟨k + 1, HG.out.1, by go_num, ho1, hx1⟩

        · have HE := Lib.hid (show usedIfs (l.take (k + 1)) = out ++ [ifNum l[k].asn l[k].ing, ifNum l[k].asn l[k].eg] from HS.out.trans (by rw [stepIfs_11 h1 h2]; rfl))
          go_wp2_with (at_builtin; refine app1 E intFlen intOne rfl _ _ rfl (ifNum l[k].asn l[k].ing) rfl (OwnF.ext hown (((Ext.refl _).alloc _).alloc _)) rfl (by exact blk_list (intF (ifNum l[k].asn l[k].ing)) (blk_new2 wr _ _)) (by omega) (by unfold maxLen; omega) (by exact (hxa.alloc _).size) ?_)
          intro v1 w1 ho1 hg1
          have hx1 := Ext.app (hxa.alloc _) hg1 hown (Nat.le_refl _)
          have hs1 := blk3 (own_ne (OwnF.ext hown (((Ext.refl _).alloc _).alloc _)) (Ext.block ((Ext.refl _).alloc _) HB.out) (by decide) hg1)
          clear hg1
          have hl1 : (out ++ [ifNum l[k].asn l[k].ing]).length = out.length + 1 := by simp
          go_wp2_with (at_builtin; refine app1 E intFlen intOne rfl _ _ rfl (ifNum l[k].asn l[k].eg) rfl (OwnF.ext ho1 ((Ext.refl _).alloc _)) rfl (by exact blk_list (intF (ifNum l[k].asn l[k].eg)) (blk_new w1 _)) (by omega) (by unfold maxLen; omega) (by exact (hx1.alloc _).size) ?_)
          intro v2 w2 ho2 hg2
          have hx2 := Ext.app (hx1.alloc _) hg2 ho1 (Nat.le_refl _)
          clear hg2
          rw [← HE.out] at ho2
          go_wp2_with fail
          go_roundg (gk - 1)
          case measure => exact HG.out.2
          case rel => exact ⟨k + 1, HG.out.1, by go_num, ho2, hx2⟩

    · rw [List.take_of_length_le (by omega)] at hown
      go_wp2
      go_ret
      exact ⟨_, rfl, hown, hx⟩
set_option maxHeartbeats 400000 in
theorem i_InterfacesUsed (x : Pth) (v : Value) (w : World) (r : RdS Part.rep w v x.parts) (hl : x.size ≤ 1048576) :
    Calls Tryz.prog 192 #[.agg #[v]] w fun e w' => ∃ v', e = .returned v' ∧ OwnF intF 1 w.heap.size 3 w' v' (usedIfs (pathSteps x.parts)) ∧ Ext w w' := by
  have hx0 : Ext w (w.alloc (.cells #[v] 26)) := (Ext.refl _).alloc _
  have hps := pathSteps_len x.parts
  go_enter Tryz.func192, Tryz.ntmps192
  go_wp2_with fail
  refine (i_PathSteps x _ _ (r.ext hx0) hl).mono ?_
  rintro e w1 ⟨v1, rfl, o1, h1⟩
  have hx1 := hx0.trans h1
  go_wp2_with fail
  refine (i_numbered _ _ _ (OwnF.rd (hf := Step.flen) o1) (by unfold Pth.size at hl; omega)).mono ?_
  rintro e w2 ⟨v2, rfl, o2, h2⟩
  go_wp2_with fail
  go_ret
  exact ⟨_, rfl, o2.mono hx1.size, hx1.trans h2⟩




theorem activeRevs_len (now : Int) (l : List Revc) : (activeRevs now l).length ≤ l.length := List.length_filter_le _ _



end
section
open Go.ChangeShapes Go.WideShapes Go.ChangeAt Go.RowKit Go.Deep

structure ASd where
  isd : Int
  core : Bool
  key : Int
  deriving DecidableEq
def ASd.f (x : ASd) : List Value := [.int .i64 x.isd, .bool x.core, .int .i64 x.key]
theorem ASd.flen (x : ASd) : x.f.length = 3 := rfl
def ASd.rep : Rep ASd := Rep.flat 3 ASd.f ASd.flen
theorem ASd.one (x : ASd) : ∀ u ∈ x.f, u.oneCell' = true := by
  intro u hu
  simp only [ASd.f, List.mem_cons, List.not_mem_nil, or_false] at hu
  rcases hu with rfl | rfl | rfl <;> rfl
theorem ASd.at {w : World} {o : Option Addr} {m cap : Nat} {l : List ASd} (h : RdS ASd.rep w (.slice o m cap) l) (k : Nat) (hk : k < l.length) :
    ∃ b off, o = some ⟨b, off, none⟩ ∧ w.cell? ⟨b, off + k * 3, none⟩ = some (.int .i64 l[k].isd) ∧ w.cell? ⟨b, off + k * 3 + 1, none⟩ = some (.bool l[k].core) ∧ w.cell? ⟨b, off + k * 3 + 2, none⟩ = some (.int .i64 l[k].key) := by
  obtain ⟨b, off, ho, hc⟩ := RdS.at_flat h k hk
  exact ⟨b, off, ho, by simpa using hc 0 _ rfl, by simpa using hc 1 _ rfl, by simpa using hc 2 _ rfl⟩
theorem ASd.at_ext {w w' : World} {b off k : Nat} {l : List ASd} {hk : k < l.length} (x : Ext w w') (h : w.cell? ⟨b, off + k * 3, none⟩ = some (.int .i64 l[k].isd) ∧ w.cell? ⟨b, off + k * 3 + 1, none⟩ = some (.bool l[k].core) ∧ w.cell? ⟨b, off + k * 3 + 2, none⟩ = some (.int .i64 l[k].key)) :
    w'.cell? ⟨b, off + k * 3, none⟩ = some (.int .i64 l[k].isd) ∧ w'.cell? ⟨b, off + k * 3 + 1, none⟩ = some (.bool l[k].core) ∧ w'.cell? ⟨b, off + k * 3 + 2, none⟩ = some (.int .i64 l[k].key) := by
  obtain ⟨h0, h1, h2⟩ := h
  exact ⟨x.cell h0, x.cell h1, x.cell h2⟩
theorem ASd.own_at {base : Nat} {e : TypeId} {w : World} {g m cap : Nat} {l : List ASd} (h : OwnF ASd.f 3 base e w (.slice (some ⟨g, 0, none⟩) m cap) l) (k : Nat) (hk : k < l.length) :
    w.cell? ⟨g, k * 3, none⟩ = some (.int .i64 l[k].isd) ∧ w.cell? ⟨g, k * 3 + 1, none⟩ = some (.bool l[k].core) ∧ w.cell? ⟨g, k * 3 + 2, none⟩ = some (.int .i64 l[k].key) := by
  have hc := OwnF.cells_flat ASd.flen h k hk
  exact ⟨by simpa using hc 0 _ rfl, by simpa using hc 1 _ rfl, by simpa using hc 2 _ rfl⟩
theorem Tryz.infoASd : (Tryz.prog.info? 157).map (fun i => (i.zero, i.size, i.bytes)) = some (some (.agg #[.int .i64 0, .bool false, .int .i64 0]), 3, 24) := by kernel_rfl
theorem ASd.sets {l : List ASd} {k : Nat} (hk : k < l.length) (x : ASd) : ((((l.flatMap ASd.f).set (k * 3) (.int .i64 x.isd)).set (k * 3 + 1) (.bool x.core)).set (k * 3 + 2) (.int .i64 x.key)) = (l.set k x).flatMap ASd.f := by
  induction l generalizing k with
  | nil => simp at hk
  | cons a l ih =>
    cases k with
    | zero => rfl
    | succ k =>
      have := ih (k := k) (by simpa using hk)
      simp only [List.flatMap_cons, List.set_cons_succ, ← this, ASd.f]
      rw [show (k + 1) * 3 = k * 3 + 1 + 1 + 1 from by omega]
      rfl
theorem ASd.own_set {base : Nat} {e : TypeId} {w : World} {g m cap : Nat} {l : List ASd} (h : OwnF ASd.f 3 base e w (.slice (some ⟨g, 0, none⟩) m cap) l) (k : Nat) (hk : k < l.length) (x : ASd) :
    OwnF ASd.f 3 base e (((w.setCell ⟨g, k * 3, none⟩ (.int .i64 x.isd)).setCell ⟨g, k * 3 + 1, none⟩ (.bool x.core)).setCell ⟨g, k * 3 + 2, none⟩ (.int .i64 x.key)) (.slice (some ⟨g, 0, none⟩) m cap) (l.set k x) ∧
      w.grownBy (((w.setCell ⟨g, k * 3, none⟩ (.int .i64 x.isd)).setCell ⟨g, k * 3 + 1, none⟩ (.bool x.core)).setCell ⟨g, k * 3 + 2, none⟩ (.int .i64 x.key)) (some g) := by
  obtain rfl := h.len
  obtain ⟨h0, g0⟩ := World.ownsRow.stored h (k * 3) (.int .i64 x.isd)
  obtain ⟨h1, g1⟩ := World.ownsRow.stored h0 (k * 3 + 1) (.bool x.core)
  obtain ⟨h2, g2⟩ := World.ownsRow.stored h1 (k * 3 + 2) (.int .i64 x.key)
  rw [ASd.sets hk] at h2
  refine ⟨?_, ((g0.trans g1).trans g2)⟩
  unfold OwnF
  rw [List.length_set]
  exact h2


theorem ASd.ext' {x y : ASd} (h0 : x.isd = y.isd) (h1 : x.core = y.core) (h2 : x.key = y.key) : x = y := by
  cases x; cases y; simp_all
theorem ASd.eq_iff (x y : ASd) : (decide (x = y) : Bool) = (!(x.isd != y.isd) && !(x.core != y.core) && !(x.key != y.key)) := by
  cases x; cases y; simp only [nbne, ASd.mk.injEq, Bool.decide_and, Bool.and_assoc]

def ASd.ok (x : ASd) : Prop := I64 x.isd ∧ I64 x.key

end
section
open Go.ChangeShapes Go.WideShapes Go.ChangeAt Go.RowKit Go.Deep

structure Lnk where
  a : Int
  ai : Int
  b : Int
  bi : Int
  kind : Int
  deriving DecidableEq
def Lnk.f (x : Lnk) : List Value := [.int .i64 x.a, .int .i64 x.ai, .int .i64 x.b, .int .i64 x.bi, .int .i64 x.kind]
theorem Lnk.flen (x : Lnk) : x.f.length = 5 := rfl
def Lnk.rep : Rep Lnk := Rep.flat 5 Lnk.f Lnk.flen
theorem Lnk.one (x : Lnk) : ∀ u ∈ x.f, u.oneCell' = true := by
  intro u hu
  simp only [Lnk.f, List.mem_cons, List.not_mem_nil, or_false] at hu
  rcases hu with rfl | rfl | rfl | rfl | rfl <;> rfl
theorem Lnk.at {w : World} {o : Option Addr} {m cap : Nat} {l : List Lnk} (h : RdS Lnk.rep w (.slice o m cap) l) (k : Nat) (hk : k < l.length) :
    ∃ b off, o = some ⟨b, off, none⟩ ∧ w.cell? ⟨b, off + k * 5, none⟩ = some (.int .i64 l[k].a) ∧ w.cell? ⟨b, off + k * 5 + 1, none⟩ = some (.int .i64 l[k].ai) ∧ w.cell? ⟨b, off + k * 5 + 2, none⟩ = some (.int .i64 l[k].b) ∧ w.cell? ⟨b, off + k * 5 + 3, none⟩ = some (.int .i64 l[k].bi) ∧ w.cell? ⟨b, off + k * 5 + 4, none⟩ = some (.int .i64 l[k].kind) := by
  obtain ⟨b, off, ho, hc⟩ := RdS.at_flat h k hk
  exact ⟨b, off, ho, by simpa using hc 0 _ rfl, by simpa using hc 1 _ rfl, by simpa using hc 2 _ rfl, by simpa using hc 3 _ rfl, by simpa using hc 4 _ rfl⟩
theorem Lnk.at_ext {w w' : World} {b off k : Nat} {l : List Lnk} {hk : k < l.length} (x : Ext w w') (h : w.cell? ⟨b, off + k * 5, none⟩ = some (.int .i64 l[k].a) ∧ w.cell? ⟨b, off + k * 5 + 1, none⟩ = some (.int .i64 l[k].ai) ∧ w.cell? ⟨b, off + k * 5 + 2, none⟩ = some (.int .i64 l[k].b) ∧ w.cell? ⟨b, off + k * 5 + 3, none⟩ = some (.int .i64 l[k].bi) ∧ w.cell? ⟨b, off + k * 5 + 4, none⟩ = some (.int .i64 l[k].kind)) :
    w'.cell? ⟨b, off + k * 5, none⟩ = some (.int .i64 l[k].a) ∧ w'.cell? ⟨b, off + k * 5 + 1, none⟩ = some (.int .i64 l[k].ai) ∧ w'.cell? ⟨b, off + k * 5 + 2, none⟩ = some (.int .i64 l[k].b) ∧ w'.cell? ⟨b, off + k * 5 + 3, none⟩ = some (.int .i64 l[k].bi) ∧ w'.cell? ⟨b, off + k * 5 + 4, none⟩ = some (.int .i64 l[k].kind) := by
  obtain ⟨h0, h1, h2, h3, h4⟩ := h
  exact ⟨x.cell h0, x.cell h1, x.cell h2, x.cell h3, x.cell h4⟩
theorem Lnk.own_at {base : Nat} {e : TypeId} {w : World} {g m cap : Nat} {l : List Lnk} (h : OwnF Lnk.f 5 base e w (.slice (some ⟨g, 0, none⟩) m cap) l) (k : Nat) (hk : k < l.length) :
    w.cell? ⟨g, k * 5, none⟩ = some (.int .i64 l[k].a) ∧ w.cell? ⟨g, k * 5 + 1, none⟩ = some (.int .i64 l[k].ai) ∧ w.cell? ⟨g, k * 5 + 2, none⟩ = some (.int .i64 l[k].b) ∧ w.cell? ⟨g, k * 5 + 3, none⟩ = some (.int .i64 l[k].bi) ∧ w.cell? ⟨g, k * 5 + 4, none⟩ = some (.int .i64 l[k].kind) := by
  have hc := OwnF.cells_flat Lnk.flen h k hk
  exact ⟨by simpa using hc 0 _ rfl, by simpa using hc 1 _ rfl, by simpa using hc 2 _ rfl, by simpa using hc 3 _ rfl, by simpa using hc 4 _ rfl⟩
theorem Tryz.infoLnk : (Tryz.prog.info? 195).map (fun i => (i.zero, i.size, i.bytes)) = some (some (.agg #[.int .i64 0, .int .i64 0, .int .i64 0, .int .i64 0, .int .i64 0]), 5, 40) := by kernel_rfl
theorem Lnk.sets {l : List Lnk} {k : Nat} (hk : k < l.length) (x : Lnk) : ((((((l.flatMap Lnk.f).set (k * 5) (.int .i64 x.a)).set (k * 5 + 1) (.int .i64 x.ai)).set (k * 5 + 2) (.int .i64 x.b)).set (k * 5 + 3) (.int .i64 x.bi)).set (k * 5 + 4) (.int .i64 x.kind)) = (l.set k x).flatMap Lnk.f := by
  induction l generalizing k with
  | nil => simp at hk
  | cons a l ih =>
    cases k with
    | zero => rfl
    | succ k =>
      have := ih (k := k) (by simpa using hk)
      simp only [List.flatMap_cons, List.set_cons_succ, ← this, Lnk.f]
      rw [show (k + 1) * 5 = k * 5 + 1 + 1 + 1 + 1 + 1 from by omega]
      rfl
theorem Lnk.own_set {base : Nat} {e : TypeId} {w : World} {g m cap : Nat} {l : List Lnk} (h : OwnF Lnk.f 5 base e w (.slice (some ⟨g, 0, none⟩) m cap) l) (k : Nat) (hk : k < l.length) (x : Lnk) :
    OwnF Lnk.f 5 base e (((((w.setCell ⟨g, k * 5, none⟩ (.int .i64 x.a)).setCell ⟨g, k * 5 + 1, none⟩ (.int .i64 x.ai)).setCell ⟨g, k * 5 + 2, none⟩ (.int .i64 x.b)).setCell ⟨g, k * 5 + 3, none⟩ (.int .i64 x.bi)).setCell ⟨g, k * 5 + 4, none⟩ (.int .i64 x.kind)) (.slice (some ⟨g, 0, none⟩) m cap) (l.set k x) ∧
      w.grownBy (((((w.setCell ⟨g, k * 5, none⟩ (.int .i64 x.a)).setCell ⟨g, k * 5 + 1, none⟩ (.int .i64 x.ai)).setCell ⟨g, k * 5 + 2, none⟩ (.int .i64 x.b)).setCell ⟨g, k * 5 + 3, none⟩ (.int .i64 x.bi)).setCell ⟨g, k * 5 + 4, none⟩ (.int .i64 x.kind)) (some g) := by
  obtain rfl := h.len
  obtain ⟨h0, g0⟩ := World.ownsRow.stored h (k * 5) (.int .i64 x.a)
  obtain ⟨h1, g1⟩ := World.ownsRow.stored h0 (k * 5 + 1) (.int .i64 x.ai)
  obtain ⟨h2, g2⟩ := World.ownsRow.stored h1 (k * 5 + 2) (.int .i64 x.b)
  obtain ⟨h3, g3⟩ := World.ownsRow.stored h2 (k * 5 + 3) (.int .i64 x.bi)
  obtain ⟨h4, g4⟩ := World.ownsRow.stored h3 (k * 5 + 4) (.int .i64 x.kind)
  rw [Lnk.sets hk] at h4
  refine ⟨?_, ((((g0.trans g1).trans g2).trans g3).trans g4)⟩
  unfold OwnF
  rw [List.length_set]
  exact h4


theorem Lnk.ext' {x y : Lnk} (h0 : x.a = y.a) (h1 : x.ai = y.ai) (h2 : x.b = y.b) (h3 : x.bi = y.bi) (h4 : x.kind = y.kind) : x = y := by
  cases x; cases y; simp_all
theorem Lnk.eq_iff (x y : Lnk) : (decide (x = y) : Bool) = (!(x.a != y.a) && !(x.ai != y.ai) && !(x.b != y.b) && !(x.bi != y.bi) && !(x.kind != y.kind)) := by
  cases x; cases y; simp only [nbne, Lnk.mk.injEq, Bool.decide_and, Bool.and_assoc]

def Lnk.mk' (k : Int) : Lnk := ⟨k, k + 1, k + 1 + 1, k + 1 + 1 + 1, k + 1 + 1 + 1 + 1⟩

def Lnk.ok (x : Lnk) : Prop := I64 x.a ∧ I64 x.ai ∧ I64 x.b ∧ I64 x.bi ∧ I64 x.kind

end
section
open Go.ChangeShapes Go.WideShapes Go.ChangeAt Go.RowKit Go.Deep

structure Topo where
  ases : List ASd
  links : List Lnk
  deriving DecidableEq
def Topo.size (x : Topo) : Nat := x.ases.length + x.links.length
def Topo.rep : Rep Topo where
  cells := 2
  rd w cs x := ∃ v1 v2, cs = [v1, v2] ∧ RdS ASd.rep w v1 x.ases ∧ RdS Lnk.rep w v2 x.links
  len := by rintro w cs a ⟨v1, v2, rfl, _⟩; rfl
  ext := by rintro w w' cs a e ⟨v1, v2, rfl, h1, h2⟩; exact ⟨v1, v2, rfl, h1.ext e, h2.ext e⟩
def Topo.ok (x : Topo) : Prop := (∀ y ∈ x.ases, ASd.ok y) ∧ ∀ y ∈ x.links, Lnk.ok y
theorem szL_addT {left : Int} {n m : Nat} (_ : ¬ left - n < 0) : szL (left - n) m = szL left (n + m) := by
  unfold szL
  by_cases h2 : left - n - m < 0
  · rw [if_pos h2, if_pos (by omega)]
  · rw [if_neg h2, if_neg (by omega)]; omega
end
section
open Go.ChangeShapes Go.WideShapes Go.ChangeAt Go.RowKit Go.Deep

def usesIf (x : Lnk) (r d : Int) : Bool := (x.a == r && x.ai == d) || (x.b == r && x.bi == d)
def linkFrom (r d : Int) : Nat → List Lnk → Int
  | _, [] => -1
  | k, x :: l => if usesIf x r d then k else linkFrom r d (k + 1) l
def linkIdx (l : List Lnk) (r d : Int) : Int := linkFrom r d 0 l
theorem linkFrom_no {r d : Int} {l : List Lnk} {k : Nat} (hk : k < l.length) (h : usesIf l[k] r d = false) : linkFrom r d k (l.drop k) = linkFrom r d (k + 1) (l.drop (k + 1)) := by
  rw [List.drop_eq_getElem_cons hk]
  show (if _ then _ else _) = _
  rw [h]; simp
theorem linkFrom_yes {r d : Int} {l : List Lnk} {k : Nat} (hk : k < l.length) (h : usesIf l[k] r d = true) : linkFrom r d k (l.drop k) = k := by
  rw [List.drop_eq_getElem_cons hk]
  show (if _ then _ else _) = _
  rw [h]; simp
def ifStep (r : Int) (out : List Int) (x : Lnk) : List Int := if x.b == r then insInt x.bi (if x.a == r then insInt x.ai out else out) else (if x.a == r then insInt x.ai out else out)
def topoIfs (l : List Lnk) (r : Int) : List Int := l.foldl (ifStep r) []
theorem foldl_snoc {α β : Type} (f : β → α → β) (z : β) {l : List α} {k : Nat} (hk : k < l.length) : (l.take (k + 1)).foldl f z = f ((l.take k).foldl f z) l[k] := by
  rw [List.take_succ_eq_append_getElem hk, List.foldl_append]; rfl
theorem ifStep_len (r : Int) (out : List Int) (x : Lnk) : (ifStep r out x).length ≤ out.length + 2 := by
  unfold ifStep
  have h1 := insInt_len x.ai out
  have h2 := insInt_len x.bi out
  have h3 := insInt_len x.bi (insInt x.ai out)
  split <;> split <;> omega
theorem topoIfs_len (l : List Lnk) (r : Int) : (topoIfs l r).length ≤ 2 * l.length := by
  have : ∀ (l : List Lnk) (z : List Int), (l.foldl (ifStep r) z).length ≤ z.length + 2 * l.length := by
    intro l
    induction l with
    | nil => intro z; simp
    | cons x l ih => intro z; have := ih (ifStep r z x); have := ifStep_len r z x; simp only [List.foldl_cons, List.length_cons]; omega
  simpa [topoIfs] using this l []
def orI (a b : Int) : Int := IntKind.wrap .i64 ((BitVec.ofInt 64 a ||| BitVec.ofInt 64 b).toNat : Int)
def addEl (s i : Int) : Int := if inR s 0 65535 && inR i 0 15 then orI s (2 ^ i.toNat) else s
theorem addEl_no1 {s i : Int} (h : inR s 0 65535 = false) : addEl s i = s := by simp [addEl, h]
theorem addEl_no2 {s i : Int} (h : inR i 0 15 = false) : addEl s i = s := by simp [addEl, h]
theorem addEl_yes {s i : Int} (h : inR s 0 65535 = true) (h2 : inR i 0 15 = true) : addEl s i = orI s (2 ^ i.toNat) := by simp [addEl, h, h2]
def failStep (t : Topo) (dead : List Int) (r : Int) (s x : Int) : Int := if hasI dead (linkIdx t.links r x) then addEl s x else s
def failedIfs (t : Topo) (dead : List Int) (r : Int) : Int := (topoIfs t.links r).foldl (failStep t dead r) 0

set_option maxHeartbeats 1000000 in
theorem i_usesInterface (x : Lnk) (r d : Int) (w : World) :
    Calls Tryz.prog 261 #[.agg #[.int .i64 x.a, .int .i64 x.ai, .int .i64 x.b, .int .i64 x.bi, .int .i64 x.kind], .int .i64 r, .int .i64 d] w fun e w' => e = .returned (.bool (usesIf x r d)) ∧ Ext w w' := by
  go_enter Tryz.func261, Tryz.ntmps261
  cases h1 : (x.a == r) <;> cases h2 : (x.ai == d) <;> cases h3 : (x.b == r) <;> cases h4 : (x.bi == d)
  all_goals
    go_wp2
    go_ret
    exact ⟨ret_bool (by unfold usesIf; rw [h1, h2, h3, h4]; rfl), (Ext.refl _).alloc _⟩

set_option maxHeartbeats 1000000 in
theorem s_l5Ends (x : Lnk) (r d : Int) (w : World) :
    Calls Tryz.prog 264 #[.agg #[.int .i64 x.a, .int .i64 x.ai, .int .i64 x.b, .int .i64 x.bi, .int .i64 x.kind], .int .i64 r, .int .i64 d] w fun e w' => e = .returned (.bool (usesIf x r d)) ∧ Ext w w' := by
  go_enter Tryz.func264, Tryz.ntmps264
  cases h1 : (x.a == r) <;> cases h2 : (x.ai == d) <;> cases h3 : (x.b == r) <;> cases h4 : (x.bi == d)
  all_goals
    go_wp2
    go_ret
    exact ⟨ret_bool (by unfold usesIf; rw [h1, h2, h3, h4]; rfl), (Ext.refl _).alloc _⟩

set_option maxHeartbeats 1000000 in
theorem i_LinkIndex (t : Topo) (v1 v2 : Value) (r d : Int) (w : World) (h2 : RdS Lnk.rep w v2 t.links) :
    Calls Tryz.prog 206 #[.agg #[v1, v2], .int .i64 r, .int .i64 d] w fun e w' => e = .returned (.int .i64 (linkIdx t.links r d)) ∧ Ext w w' := by
  obtain ⟨o, cap, rfl, hsm⟩ := h2.shape
  have hx0 : Ext w (w.alloc (.cells #[v1, .slice o t.links.length cap] 33)) := (Ext.refl _).alloc _
  have hB := blk_new w (.cells #[v1, .slice o t.links.length cap] 33)
  have HB := Lib.hid hB; clear hB
  have hv := h2.ext hx0
  have hLI : linkIdx t.links r d = linkFrom r d 0 t.links := rfl
  have HLI := Lib.hid hLI; clear hLI
  generalize t.links = l at *
  go_enter Tryz.func206, Tryz.ntmps206
  go_wp2
  go_loopg [12] l.length (fun gk i wr => ∃ k : Nat, gk + k = l.length ∧ i = .int .i64 k ∧ Hid (linkFrom r d k (l.drop k) = linkFrom r d 0 l) ∧ Ext (w.alloc (.cells #[v1, .slice o l.length cap] 33)) wr)
  case atStart => exact ⟨0, rfl, rfl, Lib.hid rfl, Ext.refl _⟩
  case round =>
    obtain ⟨k, hgk, rfl, HK, hx⟩ := hrel
    have hc0 := blk2 (Ext.block hx HB.out)
    by_cases hlt : k < l.length
    · obtain ⟨b, off, rfl, hc⟩ := Lnk.at (hv.ext hx) k hlt
      have hg' : gk - 1 + (k + 1) = l.length ∧ gk - 1 < gk := by omega
      have HG := Lib.hid hg'; clear hg' hgk
      go_wp2_with fail
      refine (i_usesInterface l[k] r d _).mono ?_
      rintro e w2 ⟨rfl, k2⟩
      have hx2 := (hx.alloc _).trans k2
      cases hu : usesIf l[k] r d
      · have HK2 := Lib.hid ((linkFrom_no hlt hu).symm.trans HK.out)
        go_wp2_with fail
        go_roundg (gk - 1)
        case measure => exact HG.out.2
        case rel => exact ⟨k + 1, HG.out.1, by go_num, HK2, hx2⟩
      · have HY := Lib.hid ((HLI.out.trans HK.out.symm).trans (linkFrom_yes hlt hu))
        go_wp2_with fail
        go_ret
        exact ⟨ret_int HY.out.symm, hx0.trans hx2⟩
    · have HY := Lib.hid (HLI.out.trans (HK.out.symm.trans (show _ = (-1 : Int) by rw [List.drop_of_length_le (by omega)]; rfl)))
      go_wp2
      go_ret
      exact ⟨ret_int HY.out.symm, hx0.trans hx⟩

set_option maxHeartbeats 1000000 in
theorem s_LinkIndex (t : Topo) (v1 v2 : Value) (r d : Int) (w : World) (h2 : RdS Lnk.rep w v2 t.links) :
    Calls Tryz.prog 214 #[.agg #[v1, v2], .int .i64 r, .int .i64 d] w fun e w' => e = .returned (.int .i64 (linkIdx t.links r d)) ∧ Ext w w' := by
  obtain ⟨o, cap, rfl, hsm⟩ := h2.shape
  have hx0 : Ext w (w.alloc (.cells #[v1, .slice o t.links.length cap] 33)) := (Ext.refl _).alloc _
  have hB := blk_new w (.cells #[v1, .slice o t.links.length cap] 33)
  have HB := Lib.hid hB; clear hB
  have hv := h2.ext hx0
  have hLI : linkIdx t.links r d = linkFrom r d 0 t.links := rfl
  have HLI := Lib.hid hLI; clear hLI
  generalize t.links = l at *
  go_enter Tryz.func214, Tryz.ntmps214
  go_wp2
  go_loopg [7] l.length (fun gk i wr => ∃ k : Nat, gk + k = l.length ∧ i = .int .i64 k ∧ Hid (linkFrom r d k (l.drop k) = linkFrom r d 0 l) ∧ Ext (w.alloc (.cells #[v1, .slice o l.length cap] 33)) wr)
  case atStart => exact ⟨0, rfl, rfl, Lib.hid rfl, Ext.refl _⟩
  case round =>
    obtain ⟨k, hgk, rfl, HK, hx⟩ := hrel
    have hc0 := blk2 (Ext.block hx HB.out)
    by_cases hlt : k < l.length
    · obtain ⟨b, off, rfl, hc⟩ := Lnk.at (hv.ext hx) k hlt
      have hg' : gk - 1 + (k + 1) = l.length ∧ gk - 1 < gk := by omega
      have HG := Lib.hid hg'; clear hg' hgk
      go_wp2_with fail
      refine (s_l5Ends l[k] r d _).mono ?_
      rintro e w2 ⟨rfl, k2⟩
      have hx2 := (hx).trans k2
      cases hu : usesIf l[k] r d
      · have HK2 := Lib.hid ((linkFrom_no hlt hu).symm.trans HK.out)
        go_wp2_with fail
        go_roundg (gk - 1)
        case measure => exact HG.out.2
        case rel => exact ⟨k + 1, HG.out.1, by go_num, HK2, hx2⟩
      · have HY := Lib.hid ((HLI.out.trans HK.out.symm).trans (linkFrom_yes hlt hu))
        go_wp2_with fail
        go_ret
        exact ⟨ret_int HY.out.symm, hx0.trans hx2⟩
    · have HY := Lib.hid (HLI.out.trans (HK.out.symm.trans (show _ = (-1 : Int) by rw [List.drop_of_length_le (by omega)]; rfl)))
      go_wp2
      go_ret
      exact ⟨ret_int HY.out.symm, hx0.trans hx⟩

set_option maxRecDepth 100000 in
set_option maxHeartbeats 2000000 in
theorem i_Interfaces (t : Topo) (v1 v2 : Value) (r : Int) (w : World) (h2 : RdS Lnk.rep w v2 t.links) (hl : t.links.length ≤ 1048576) :
    Calls Tryz.prog 211 #[.agg #[v1, v2], .int .i64 r] w fun e w' => ∃ v', e = .returned v' ∧ OwnF intF 1 w.heap.size 3 w' v' (topoIfs t.links r) ∧ Ext w w' := by
  obtain ⟨o, cap, rfl, hsm⟩ := h2.shape
  have hx0 : Ext w (w.alloc (.cells #[v1, .slice o t.links.length cap] 33)) := (Ext.refl _).alloc _
  have hB := blk_new w (.cells #[v1, .slice o t.links.length cap] 33)
  have ho0 := OwnF.nil intF 1 w.heap.size 3 (w.alloc (.cells #[v1, .slice o t.links.length cap] 33))
  have HB := Lib.hid hB; clear hB
  have hv := h2.ext hx0
  have hTI : topoIfs t.links r = t.links.foldl (ifStep r) [] := rfl
  have HTI := Lib.hid hTI; clear hTI
  generalize t.links = l at *
  go_enter Tryz.func211, Tryz.ntmps211
  go_wp2
  go_loopg [5, 11] l.length (fun gk out i wr => ∃ (k : Nat) (xs : List Int), gk + k = l.length ∧ i = .int .i64 k ∧ Hid (xs = (l.take k).foldl (ifStep r) []) ∧ xs.length ≤ 2 * k ∧ OwnF intF 1 w.heap.size 3 wr out xs ∧ Ext (w.alloc (.cells #[v1, .slice o l.length cap] 33)) wr)
  case atStart => exact ⟨0, [], rfl, rfl, Lib.hid rfl, Nat.le_refl _, ho0, Ext.refl _⟩
  case round =>
    obtain ⟨k, xs, hgk, rfl, HX, hxl, hown, hx⟩ := hrel
    have hc0 := blk2 (Ext.block hx HB.out)
    obtain ⟨oo, co, rfl, _⟩ := (ints_rep hown).shape
    have hsz := hown
    by_cases hlt : k < l.length
    · obtain ⟨b, off, rfl, hc⟩ := Lnk.at (hv.ext hx) k hlt
      have hg' : gk - 1 + (k + 1) = l.length ∧ gk - 1 < gk := by omega
      have HG := Lib.hid hg'; clear hg' hgk
      have hst : (l.take (k + 1)).foldl (ifStep r) [] = ifStep r xs l[k] := by rw [foldl_snoc _ _ hlt, HX.out]
      have HST := Lib.hid hst; clear hst
      have hwr : w.heap.size ≤ wr.heap.size := (hx0.trans hx).size
      have hi1 := insInt_len l[k].ai xs
      have hi2 := insInt_len l[k].bi xs
      have hi3 := insInt_len l[k].bi (insInt l[k].ai xs)
      have hxa : Ext wr (wr.alloc (.cells #[.int .i64 l[k].a, .int .i64 l[k].ai, .int .i64 l[k].b, .int .i64 l[k].bi, .int .i64 l[k].kind] 195)) := (Ext.refl _).alloc _
      have hBk := blk_new wr (.cells #[.int .i64 l[k].a, .int .i64 l[k].ai, .int .i64 l[k].b, .int .i64 l[k].bi, .int .i64 l[k].kind] 195)
      have HBK := Lib.hid hBk; clear hBk
      have hoa := hown.ext hxa
      clear hsz hown
      cases ha : (l[k].a == r)
      · cases hb : (l[k].b == r)
        · have hes : ifStep r xs l[k] = xs := by unfold ifStep; rw [ha, hb]; rfl
          have HE := Lib.hid (hes.symm.trans HST.out.symm); clear hes
          go_wp2_with fail
          go_roundg (gk - 1)
          case measure => exact HG.out.2
          case rel => exact ⟨k + 1, _, HG.out.1, by go_num, HE, by omega, hoa, hx.trans hxa⟩
        · have hes : ifStep r xs l[k] = insInt l[k].bi xs := by unfold ifStep; rw [ha, hb]; rfl
          have HE := Lib.hid (hes.symm.trans HST.out.symm); clear hes
          go_wp2_with fail
          refine (i_insertInt xs _ l[k].bi w.heap.size _ hoa (Nat.le_trans hwr hxa.size) (by omega)).mono ?_
          rintro e w2 ⟨v2, rfl, o2, k2⟩
          go_wp2_with fail
          go_roundg (gk - 1)
          case measure => exact HG.out.2
          case rel => exact ⟨k + 1, _, HG.out.1, by go_num, HE, by omega, o2, (hx.trans hxa).trans k2⟩
      · go_wp2_with fail
        refine (i_insertInt xs _ l[k].ai w.heap.size _ hoa (Nat.le_trans hwr hxa.size) (by omega)).mono ?_
        rintro e w2 ⟨v2, rfl, o2, k2⟩
        obtain ⟨oo2, co2, rfl, _⟩ := (ints_rep o2).shape
        have hcb := blk5 (Ext.block k2 HBK.out)
        cases hb : (l[k].b == r)
        · have hes : ifStep r xs l[k] = insInt l[k].ai xs := by unfold ifStep; rw [ha, hb]; rfl
          have HE := Lib.hid (hes.symm.trans HST.out.symm); clear hes
          go_wp2_with fail
          go_roundg (gk - 1)
          case measure => exact HG.out.2
          case rel => exact ⟨k + 1, _, HG.out.1, by go_num, HE, by omega, o2, (hx.trans hxa).trans k2⟩
        · have hes : ifStep r xs l[k] = insInt l[k].bi (insInt l[k].ai xs) := by unfold ifStep; rw [ha, hb]; rfl
          have HE := Lib.hid (hes.symm.trans HST.out.symm); clear hes
          go_wp2_with fail
          refine (i_insertInt _ _ l[k].bi w.heap.size _ o2 (Nat.le_trans hwr (hxa.trans k2).size) (by omega)).mono ?_
          rintro e w3 ⟨v3, rfl, o3, k3⟩
          go_wp2_with fail
          go_roundg (gk - 1)
          case measure => exact HG.out.2
          case rel => exact ⟨k + 1, _, HG.out.1, by go_num, HE, by omega, o3, ((hx.trans hxa).trans k2).trans k3⟩
    · have hxs : xs = topoIfs l r := by
        have := HX.out
        rw [List.take_of_length_le (by omega)] at this
        exact this
      have HXS := Lib.hid hxs; clear hxs
      go_wp2
      go_ret
      rw [← HXS.out]
      exact ⟨_, rfl, hown, hx0.trans hx⟩

set_option maxRecDepth 100000 in
set_option maxHeartbeats 2000000 in
theorem s_Interfaces (t : Topo) (v1 v2 : Value) (r : Int) (w : World) (h2 : RdS Lnk.rep w v2 t.links) (hl : t.links.length ≤ 1048576) :
    Calls Tryz.prog 213 #[.agg #[v1, v2], .int .i64 r] w fun e w' => ∃ v', e = .returned v' ∧ OwnF intF 1 w.heap.size 3 w' v' (topoIfs t.links r) ∧ Ext w w' := by
  obtain ⟨o, cap, rfl, hsm⟩ := h2.shape
  have hx0 : Ext w ((w.alloc (.cells #[v1, .slice o t.links.length cap] 33)).alloc (.cells #[] 3)) := ((Ext.refl _).alloc _).alloc _
  have hB := Ext.block ((Ext.refl _).alloc (.cells #[] 3)) (blk_new w (.cells #[v1, .slice o t.links.length cap] 33))
  have ho0 := (OwnF.empty intF 1 (w.alloc (.cells #[v1, .slice o t.links.length cap] 33)).heap.size 3 (w.alloc (.cells #[v1, .slice o t.links.length cap] 33)) (Nat.le_refl _)).mono (base' := w.heap.size) (by simp)
  simp only [nblk_alloc] at ho0
  have HB := Lib.hid hB; clear hB
  have hv := h2.ext hx0
  have hTI : topoIfs t.links r = t.links.foldl (ifStep r) [] := rfl
  have HTI := Lib.hid hTI; clear hTI
  generalize t.links = l at *
  go_enter Tryz.func213, Tryz.ntmps213
  go_wp2
  go_loopg [5, 6] l.length (fun gk out i wr => ∃ (k : Nat) (xs : List Int), gk + k = l.length ∧ i = .int .i64 k ∧ Hid (xs = (l.take k).foldl (ifStep r) []) ∧ xs.length ≤ 2 * k ∧ OwnF intF 1 w.heap.size 3 wr out xs ∧ Ext ((w.alloc (.cells #[v1, .slice o l.length cap] 33)).alloc (.cells #[] 3)) wr)
  case atStart => exact ⟨0, [], rfl, rfl, Lib.hid rfl, Nat.le_refl _, ho0, Ext.refl _⟩
  case round =>
    obtain ⟨k, xs, hgk, rfl, HX, hxl, hown, hx⟩ := hrel
    have hc0 := blk2 (Ext.block hx HB.out)
    obtain ⟨oo, co, rfl, _⟩ := (ints_rep hown).shape
    have hsz := hown
    by_cases hlt : k < l.length
    · obtain ⟨b, off, rfl, hc⟩ := Lnk.at (hv.ext hx) k hlt
      have hg' : gk - 1 + (k + 1) = l.length ∧ gk - 1 < gk := by omega
      have HG := Lib.hid hg'; clear hg' hgk
      have hst : (l.take (k + 1)).foldl (ifStep r) [] = ifStep r xs l[k] := by rw [foldl_snoc _ _ hlt, HX.out]
      have HST := Lib.hid hst; clear hst
      have hwr : w.heap.size ≤ wr.heap.size := (hx0.trans hx).size
      have hi1 := insInt_len l[k].ai xs
      have hi2 := insInt_len l[k].bi xs
      have hi3 := insInt_len l[k].bi (insInt l[k].ai xs)
      have hxa : Ext wr wr := Ext.refl _
      have hoa := hown.ext hxa
      clear hsz hown
      cases ha : (l[k].a == r)
      · cases hb : (l[k].b == r)
        · have hes : ifStep r xs l[k] = xs := by unfold ifStep; rw [ha, hb]; rfl
          have HE := Lib.hid (hes.symm.trans HST.out.symm); clear hes
          go_wp2_with fail
          go_roundg (gk - 1)
          case measure => exact HG.out.2
          case rel => exact ⟨k + 1, _, HG.out.1, by go_num, HE, by omega, hoa, hx.trans hxa⟩
        · have hes : ifStep r xs l[k] = insInt l[k].bi xs := by unfold ifStep; rw [ha, hb]; rfl
          have HE := Lib.hid (hes.symm.trans HST.out.symm); clear hes
          go_wp2_with fail
          refine (s_l5Put xs _ l[k].bi w.heap.size _ hoa (Nat.le_trans hwr hxa.size) (by omega)).mono ?_
          rintro e w2 ⟨v2, rfl, o2, k2⟩
          go_wp2_with fail
          go_roundg (gk - 1)
          case measure => exact HG.out.2
          case rel => exact ⟨k + 1, _, HG.out.1, by go_num, HE, by omega, o2, (hx.trans hxa).trans k2⟩
      · go_wp2_with fail
        refine (s_l5Put xs _ l[k].ai w.heap.size _ hoa (Nat.le_trans hwr hxa.size) (by omega)).mono ?_
        rintro e w2 ⟨v2, rfl, o2, k2⟩
        obtain ⟨oo2, co2, rfl, _⟩ := (ints_rep o2).shape
        have hcb := blk2 (Ext.block (hx.trans (hxa.trans k2)) HB.out)
        have hcc := Lnk.at_ext (hxa.trans k2) hc
        cases hb : (l[k].b == r)
        · have hes : ifStep r xs l[k] = insInt l[k].ai xs := by unfold ifStep; rw [ha, hb]; rfl
          have HE := Lib.hid (hes.symm.trans HST.out.symm); clear hes
          go_wp2_with fail
          go_roundg (gk - 1)
          case measure => exact HG.out.2
          case rel => exact ⟨k + 1, _, HG.out.1, by go_num, HE, by omega, o2, (hx.trans hxa).trans k2⟩
        · have hes : ifStep r xs l[k] = insInt l[k].bi (insInt l[k].ai xs) := by unfold ifStep; rw [ha, hb]; rfl
          have HE := Lib.hid (hes.symm.trans HST.out.symm); clear hes
          go_wp2_with fail
          refine (s_l5Put _ _ l[k].bi w.heap.size _ o2 (Nat.le_trans hwr (hxa.trans k2).size) (by omega)).mono ?_
          rintro e w3 ⟨v3, rfl, o3, k3⟩
          go_wp2_with fail
          go_roundg (gk - 1)
          case measure => exact HG.out.2
          case rel => exact ⟨k + 1, _, HG.out.1, by go_num, HE, by omega, o3, ((hx.trans hxa).trans k2).trans k3⟩
    · have hxs : xs = topoIfs l r := by
        have := HX.out
        rw [List.take_of_length_le (by omega)] at this
        exact this
      have HXS := Lib.hid hxs; clear hxs
      go_wp2
      go_ret
      rw [← HXS.out]
      exact ⟨_, rfl, hown, hx0.trans hx⟩

set_option maxHeartbeats 400000 in
theorem i_ValidSet (n : Int) (w : World) : Calls Tryz.prog 207 #[.int .i64 n] w fun e w' => e = .returned (.bool (inR n 0 65535)) ∧ w = w' := by
  go_enter Tryz.func207, Tryz.ntmps207
  go_wp2_with fail
  refine (i_InRange _ _ _ _).mono ?_
  rintro e w1 ⟨rfl, rfl⟩
  go_wp2_with fail
  go_ret
  exact ⟨rfl, rfl⟩

set_option maxHeartbeats 4000000 in
theorem i_AddElement (s i : Int) (w : World) : Calls Tryz.prog 212 #[.int .i64 s, .int .i64 i] w fun e w' => e = .returned (.int .i64 (addEl s i)) ∧ w = w' := by
  go_enter Tryz.func212, Tryz.ntmps212
  go_wp2_with fail
  refine (i_ValidSet _ _).mono ?_
  rintro e w1 ⟨rfl, rfl⟩
  cases h1 : inR s 0 65535
  · have HE := Lib.hid (addEl_no1 (i := i) h1)
    go_wp2_with fail
    go_ret
    exact ⟨ret_int HE.out.symm, rfl⟩
  · go_wp2_with fail
    refine (i_InRange _ _ _ _).mono ?_
    rintro e w1 ⟨rfl, rfl⟩
    cases h2 : inR i 0 15
    · have HE := Lib.hid (addEl_no2 (s := s) h2)
      go_wp2_with fail
      go_ret
      exact ⟨ret_int HE.out.symm, rfl⟩
    · have HE := Lib.hid (addEl_yes h1 h2)
      obtain ⟨a3, a4⟩ := inR_true.1 h2
      clear h2
      have hi : i = 0 ∨ i = 1 ∨ i = 2 ∨ i = 3 ∨ i = 4 ∨ i = 5 ∨ i = 6 ∨ i = 7 ∨ i = 8 ∨ i = 9 ∨ i = 10 ∨ i = 11 ∨ i = 12 ∨ i = 13 ∨ i = 14 ∨ i = 15 := by omega
      clear a3 a4
      rcases hi with rfl | rfl | rfl | rfl | rfl | rfl | rfl | rfl | rfl | rfl | rfl | rfl | rfl | rfl | rfl | rfl
      all_goals
        go_wp2_with fail
        go_ret
        exact ⟨ret_int (HE.out.trans rfl).symm, rfl⟩




set_option maxRecDepth 100000 in
set_option maxHeartbeats 2000000 in
theorem i_FailedInterfaces (t : Topo) (v1 v2 : Value) (dead : List Int) (vd : Value) (r : Int) (w : World) (_ : RdS ASd.rep w v1 t.ases) (h2 : RdS Lnk.rep w v2 t.links) (hd : RdS Rep.int w vd dead) (hlt : t.size ≤ 1048576) :
    Calls Tryz.prog 113 #[.agg #[v1, v2], vd, .int .i64 r] w fun e w' => e = .returned (.int .i64 (failedIfs t dead r)) ∧ Ext w w' := by
  have hl : t.links.length ≤ 1048576 := by unfold Topo.size at hlt; omega
  clear hlt
  have hx0 : Ext w (w.alloc (.cells #[v1, v2] 33)) := (Ext.refl _).alloc _
  have hB := blk_new w (.cells #[v1, v2] 33)
  have HB := Lib.hid hB; clear hB
  go_enter Tryz.func113, Tryz.ntmps113
  go_wp2_with fail
  refine (i_Interfaces t _ _ r _ (h2.ext hx0) hl).mono ?_
  rintro e w1 ⟨u1, rfl, o1, hx1⟩
  have hFI : failedIfs t dead r = (topoIfs t.links r).foldl (failStep t dead r) 0 := rfl
  have HFI := Lib.hid hFI; clear hFI
  have htl := topoIfs_len t.links r
  generalize topoIfs t.links r = l at *
  obtain ⟨oa, ca, rfl, hsa⟩ := (ints_rep o1).shape
  go_wp2
  go_loopg [7, 14] l.length (fun gk s i wr => ∃ (k : Nat), gk + k = l.length ∧ i = .int .i64 k ∧ s = .int .i64 ((l.take k).foldl (failStep t dead r) 0) ∧ Ext w1 wr)
  case atStart => exact ⟨0, rfl, rfl, rfl, Ext.refl _⟩
  case round =>
    obtain ⟨k, hgk, rfl, rfl, hx⟩ := hrel
    have hc0 := blk2 (Ext.block (hx1.trans hx) HB.out)
    by_cases hlt : k < l.length
    · obtain ⟨b, off, rfl, hc⟩ := ints_at ((ints_rep o1).ext hx) k hlt
      have hg' : gk - 1 + (k + 1) = l.length ∧ gk - 1 < gk := by omega
      have HG := Lib.hid hg'; clear hg' hgk
      have HS := Lib.hid (foldl_snoc (failStep t dead r) 0 hlt)
      generalize (l.take k).foldl (failStep t dead r) 0 = s at *
      have hX := (hx0.trans hx1).trans hx
      go_wp2_with fail
      refine (i_LinkIndex t _ _ r l[k] _ (h2.ext hX)).mono ?_
      rintro e w2 ⟨rfl, k2⟩
      go_wp2_with fail
      refine (i_hasInt dead _ _ _ (hd.ext (hX.trans k2))).mono ?_
      rintro e w3 ⟨rfl, rfl⟩
      have hx2 : Ext wr w2 := k2
      cases hh : hasI dead (linkIdx t.links r l[k])
      · have hes : failStep t dead r s l[k] = s := by unfold failStep; rw [hh]; rfl
        have HE := Lib.hid (HS.out.trans hes); clear hes
        go_wp2_with fail
        go_roundg (gk - 1)
        case measure => exact HG.out.2
        case rel => exact ⟨k + 1, HG.out.1, by go_num, by rw [HE.out], hx.trans hx2⟩
      · have hes : failStep t dead r s l[k] = addEl s l[k] := by unfold failStep; rw [hh]; rfl
        have HE := Lib.hid (HS.out.trans hes); clear hes
        have hc2 := hx2.cell hc
        go_wp2_with fail
        refine (i_AddElement _ _ _).mono ?_
        rintro e w4 ⟨rfl, rfl⟩
        go_wp2_with fail
        go_roundg (gk - 1)
        case measure => exact HG.out.2
        case rel => exact ⟨k + 1, HG.out.1, by go_num, by rw [HE.out], hx.trans hx2⟩
    · have hy : failedIfs t dead r = (l.take k).foldl (failStep t dead r) 0 := by rw [HFI.out, List.take_of_length_le (by omega)]
      have HY := Lib.hid hy; clear hy
      generalize (l.take k).foldl (failStep t dead r) 0 = s at *
      go_wp2
      go_ret
      exact ⟨ret_int HY.out.symm, (hx0.trans hx1).trans hx⟩


end
section
open Go.ChangeShapes Go.WideShapes Go.ChangeAt Go.RowKit Go.Deep

def isRes (n : Int) : Bool := inR n 0 2147483646
def addMod (b s : Int) : Int := if isRes b && isRes s then (b + s) % 2147483647 else 0
def subMod (b s : Int) : Int := if isRes b && isRes s then (b - s + 2147483647) % 2147483647 else 0
theorem isRes_true {n : Int} : isRes n = true ↔ 0 ≤ n ∧ n ≤ 2147483646 := inR_true
theorem addMod_no1 {b s : Int} (h : isRes b = false) : addMod b s = 0 := by simp [addMod, h]
theorem addMod_no2 {b s : Int} (h : isRes s = false) : addMod b s = 0 := by simp [addMod, h]
theorem addMod_yes {b s : Int} (h : isRes b = true) (h2 : isRes s = true) : addMod b s = (b + s) % 2147483647 := by simp [addMod, h, h2]
theorem subMod_no1 {b s : Int} (h : isRes b = false) : subMod b s = 0 := by simp [subMod, h]
theorem subMod_no2 {b s : Int} (h : isRes s = false) : subMod b s = 0 := by simp [subMod, h]
theorem subMod_yes {b s : Int} (h : isRes b = true) (h2 : isRes s = true) : subMod b s = (b - s + 2147483647) % 2147483647 := by simp [subMod, h, h2]
theorem addMod_res (b s : Int) : isRes (addMod b s) = true := by
  rw [isRes_true]; unfold addMod; split <;> omega
theorem subMod_res (b s : Int) : isRes (subMod b s) = true := by
  rw [isRes_true]; unfold subMod; split <;> omega

set_option maxHeartbeats 400000 in
theorem i_isResidue (n : Int) (w : World) : Calls Tryz.prog 142 #[.int .i64 n] w fun e w' => e = .returned (.bool (isRes n)) ∧ w = w' := by
  go_enter Tryz.func142, Tryz.ntmps142
  go_wp2_with fail
  refine (i_InRange _ _ _ _).mono ?_
  rintro e w1 ⟨rfl, rfl⟩
  go_wp2_with fail
  go_ret
  exact ⟨rfl, rfl⟩

set_option maxHeartbeats 400000 in
theorem i_AddMod (b s : Int) (w : World) : Calls Tryz.prog 27 #[.int .i64 b, .int .i64 s] w fun e w' => e = .returned (.int .i64 (addMod b s)) ∧ w = w' := by
  go_enter Tryz.func27, Tryz.ntmps27
  go_wp2_with fail
  refine (i_isResidue _ _).mono ?_
  rintro e w1 ⟨rfl, rfl⟩
  cases h1 : isRes b
  · have HE := Lib.hid (addMod_no1 (s := s) h1)
    go_wp2_with fail
    go_ret
    exact ⟨ret_int HE.out.symm, rfl⟩
  · go_wp2_with fail
    refine (i_isResidue _ _).mono ?_
    rintro e w1 ⟨rfl, rfl⟩
    cases h2 : isRes s
    · have HE := Lib.hid (addMod_no2 (b := b) h2)
      go_wp2_with fail
      go_ret
      exact ⟨ret_int HE.out.symm, rfl⟩
    · have HE := Lib.hid (addMod_yes h1 h2)
      obtain ⟨a1, a2⟩ := isRes_true.1 h1
      obtain ⟨a3, a4⟩ := isRes_true.1 h2
      go_wp2_with fail
      go_ret
      exact ⟨ret_int HE.out.symm, rfl⟩

set_option maxHeartbeats 400000 in
theorem i_SubMod (b s : Int) (w : World) : Calls Tryz.prog 25 #[.int .i64 b, .int .i64 s] w fun e w' => e = .returned (.int .i64 (subMod b s)) ∧ w = w' := by
  go_enter Tryz.func25, Tryz.ntmps25
  go_wp2_with fail
  refine (i_isResidue _ _).mono ?_
  rintro e w1 ⟨rfl, rfl⟩
  cases h1 : isRes b
  · have HE := Lib.hid (subMod_no1 (s := s) h1)
    go_wp2_with fail
    go_ret
    exact ⟨ret_int HE.out.symm, rfl⟩
  · go_wp2_with fail
    refine (i_isResidue _ _).mono ?_
    rintro e w1 ⟨rfl, rfl⟩
    cases h2 : isRes s
    · have HE := Lib.hid (subMod_no2 (b := b) h2)
      go_wp2_with fail
      go_ret
      exact ⟨ret_int HE.out.symm, rfl⟩
    · have HE := Lib.hid (subMod_yes h1 h2)
      obtain ⟨a1, a2⟩ := isRes_true.1 h1
      obtain ⟨a3, a4⟩ := isRes_true.1 h2
      go_wp2_with fail
      go_ret
      exact ⟨ret_int HE.out.symm, rfl⟩

set_option maxHeartbeats 400000 in
theorem s_l3Ok (n : Int) (w : World) : Calls Tryz.prog 227 #[.int .i64 n] w fun e w' => e = .returned (.bool (isRes n)) ∧ w = w' := by
  go_enter Tryz.func227, Tryz.ntmps227
  go_wp2_with fail
  refine (s_l1In _ _ _ _).mono ?_
  rintro e w1 ⟨rfl, rfl⟩
  go_wp2_with fail
  go_ret
  exact ⟨rfl, rfl⟩

set_option maxHeartbeats 400000 in
theorem s_AddMod (b s : Int) (w : World) : Calls Tryz.prog 136 #[.int .i64 b, .int .i64 s] w fun e w' => e = .returned (.int .i64 (addMod b s)) ∧ w = w' := by
  go_enter Tryz.func136, Tryz.ntmps136
  go_wp2_with fail
  refine (s_l3Ok _ _).mono ?_
  rintro e w1 ⟨rfl, rfl⟩
  cases h1 : isRes b
  · have HE := Lib.hid (addMod_no1 (s := s) h1)
    go_wp2_with fail
    go_ret
    exact ⟨ret_int HE.out.symm, rfl⟩
  · go_wp2_with fail
    refine (s_l3Ok _ _).mono ?_
    rintro e w1 ⟨rfl, rfl⟩
    cases h2 : isRes s
    · have HE := Lib.hid (addMod_no2 (b := b) h2)
      go_wp2_with fail
      go_ret
      exact ⟨ret_int HE.out.symm, rfl⟩
    · have HE := Lib.hid (addMod_yes h1 h2)
      obtain ⟨a1, a2⟩ := isRes_true.1 h1
      obtain ⟨a3, a4⟩ := isRes_true.1 h2
      go_wp2_with fail
      go_ret
      exact ⟨ret_int HE.out.symm, rfl⟩


end
section
open Go.ChangeShapes Go.WideShapes Go.ChangeAt Go.RowKit Go.Deep

def revKind (k : Int) : Int := if k == 1 then 4 else if k == 4 then 1 else if k == 2 then 3 else if k == 3 then 2 else k





def revStep (x : Step) : Step := ⟨x.asn, x.eg, x.ing⟩
def revSteps (l : List Step) : List Step := l.reverse.map revStep
theorem elemStep : Nonempty (Elem Tryz.prog 54 59 3 24) := Elem.mk' Tryz.underlying54 Tryz.infoStep rfl (by decide)
theorem revSteps_drop {l : List Step} {k : Nat} (hk : k < l.length) : revSteps (l.drop (k + 1)) ++ [revStep l[k]] = revSteps (l.drop k) := by
  rw [List.drop_eq_getElem_cons hk]; simp only [revSteps, List.reverse_cons, List.map_append, List.map_cons, List.map_nil]



end
section
open Go.ChangeShapes Go.WideShapes Go.ChangeAt Go.RowKit Go.Deep

def betaTo (x : Part) : Nat → Int
  | 0 => x.beta
  | k + 1 => match x.hops[k]? with
    | some h => if isRev x.kind then subMod (betaTo x k) h.mac else addMod (betaTo x k) h.mac
    | none => betaTo x k
theorem betaTo_succ {x : Part} {k : Nat} (h : k < x.hops.length) : betaTo x (k + 1) = if isRev x.kind then subMod (betaTo x k) x.hops[k].mac else addMod (betaTo x k) x.hops[k].mac := by simp [betaTo, h]
def betaAfter (x : Part) (i : Int) : Int := if 0 ≤ i ∧ i ≤ x.hops.length then betaTo x i.toNat else 0
def revPart (x : Part) : Part := ⟨revKind x.kind, x.ts, betaAfter x x.hops.length, x.hops.reverse⟩
theorem elemHop : Nonempty (Elem Tryz.prog 45 44 5 40) := Elem.mk' Tryz.underlying45 Tryz.infoHop rfl (by decide)
theorem rev_drop {α : Type} {l : List α} {k : Nat} (hk : k < l.length) : (l.drop (k + 1)).reverse ++ [l[k]] = (l.drop k).reverse := by
  rw [List.drop_eq_getElem_cons hk, List.reverse_cons]
theorem RdS.upto {α : Type} {r : Rep α} {w : World} {o : Option Addr} {m cap : Nat} {l : List α} (h : RdS r w (.slice o m cap) l) (k : Nat) (hk : k ≤ l.length) : RdS r w (.slice o k cap) (l.take k) := by
  obtain ⟨o', cap', hv, h1, h2, hn, h3⟩ := h
  cases hv
  have hl : (l.take k).length = k := by simp; omega
  refine ⟨o, cap, by rw [hl], by omega, h2, hn, fun i hi => ?_⟩
  obtain ⟨b, off, cs, a1, a2, a3⟩ := h3 i (by omega)
  exact ⟨b, off, cs, a1, a2, by simpa using a3⟩





end
end Go.Proofs.YtjmlicmloacmaaaGreat
