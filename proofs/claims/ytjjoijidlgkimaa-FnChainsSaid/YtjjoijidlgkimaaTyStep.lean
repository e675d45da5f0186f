/- The data of the struct Step (Step), how a slice of it reads, and the contracts of the laws' helper functions over it. No condition but the bounds that each theorem names. -/
import Derived.Test.YtjjoijidlgkimaaOpen
namespace Go.Proofs.Ytjjoijidlgkimaa
open Go.ChangeShapes Go.WideShapes Go.ChangeAt Go.RowKit Go.Deep

structure Step where
  asn : Int
  ing : Int
  eg : Int
  deriving DecidableEq
def Step.f (x : Step) : List Value := [.int .i64 x.asn, .int .i64 x.ing, .int .i64 x.eg]
theorem Step.flen (x : Step) : x.f.length = 3 := rfl
def Step.rep : Rep Step := Rep.flat 3 Step.f Step.flen
theorem Step.one (x : Step) : ∀ u ∈ x.f, u.oneCell' = true := by
  intro u hu
  simp only [Step.f, List.mem_cons, List.not_mem_nil, or_false] at hu
  rcases hu with rfl | rfl | rfl <;> rfl
theorem Step.at {w : World} {o : Option Addr} {m cap : Nat} {l : List Step} (h : RdS Step.rep w (.slice o m cap) l) (k : Nat) (hk : k < l.length) :
    ∃ b off, o = some ⟨b, off, none⟩ ∧ w.cell? ⟨b, off + k * 3, none⟩ = some (.int .i64 l[k].asn) ∧ w.cell? ⟨b, off + k * 3 + 1, none⟩ = some (.int .i64 l[k].ing) ∧ w.cell? ⟨b, off + k * 3 + 2, none⟩ = some (.int .i64 l[k].eg) := by
  obtain ⟨b, off, ho, hc⟩ := RdS.at_flat h k hk
  exact ⟨b, off, ho, by simpa using hc 0 _ rfl, by simpa using hc 1 _ rfl, by simpa using hc 2 _ rfl⟩
theorem Step.at_ext {w w' : World} {b off k : Nat} {l : List Step} {hk : k < l.length} (x : Ext w w') (h : w.cell? ⟨b, off + k * 3, none⟩ = some (.int .i64 l[k].asn) ∧ w.cell? ⟨b, off + k * 3 + 1, none⟩ = some (.int .i64 l[k].ing) ∧ w.cell? ⟨b, off + k * 3 + 2, none⟩ = some (.int .i64 l[k].eg)) :
    w'.cell? ⟨b, off + k * 3, none⟩ = some (.int .i64 l[k].asn) ∧ w'.cell? ⟨b, off + k * 3 + 1, none⟩ = some (.int .i64 l[k].ing) ∧ w'.cell? ⟨b, off + k * 3 + 2, none⟩ = some (.int .i64 l[k].eg) := by
  obtain ⟨h0, h1, h2⟩ := h
  exact ⟨x.cell h0, x.cell h1, x.cell h2⟩
theorem Step.own_at {base : Nat} {e : TypeId} {w : World} {g m cap : Nat} {l : List Step} (h : OwnF Step.f 3 base e w (.slice (some ⟨g, 0, none⟩) m cap) l) (k : Nat) (hk : k < l.length) :
    w.cell? ⟨g, k * 3, none⟩ = some (.int .i64 l[k].asn) ∧ w.cell? ⟨g, k * 3 + 1, none⟩ = some (.int .i64 l[k].ing) ∧ w.cell? ⟨g, k * 3 + 2, none⟩ = some (.int .i64 l[k].eg) := by
  have hc := OwnF.cells_flat Step.flen h k hk
  exact ⟨by simpa using hc 0 _ rfl, by simpa using hc 1 _ rfl, by simpa using hc 2 _ rfl⟩
theorem Try.infoStep : (Try.prog.info? 119).map (fun i => (i.zero, i.size, i.bytes)) = some (some (.agg #[.int .i64 0, .int .i64 0, .int .i64 0]), 3, 24) := by kernel_rfl
theorem Step.sets {l : List Step} {k : Nat} (hk : k < l.length) (x : Step) : ((((l.flatMap Step.f).set (k * 3) (.int .i64 x.asn)).set (k * 3 + 1) (.int .i64 x.ing)).set (k * 3 + 2) (.int .i64 x.eg)) = (l.set k x).flatMap Step.f := by
  induction l generalizing k with
  | nil => simp at hk
  | cons a l ih =>
    cases k with
    | zero => rfl
    | succ k =>
      have := ih (k := k) (by simpa using hk)
      simp only [List.flatMap_cons, List.set_cons_succ, ← this, Step.f]
      rw [show (k + 1) * 3 = k * 3 + 1 + 1 + 1 from by omega]
      rfl
theorem Step.own_set {base : Nat} {e : TypeId} {w : World} {g m cap : Nat} {l : List Step} (h : OwnF Step.f 3 base e w (.slice (some ⟨g, 0, none⟩) m cap) l) (k : Nat) (hk : k < l.length) (x : Step) :
    OwnF Step.f 3 base e (((w.setCell ⟨g, k * 3, none⟩ (.int .i64 x.asn)).setCell ⟨g, k * 3 + 1, none⟩ (.int .i64 x.ing)).setCell ⟨g, k * 3 + 2, none⟩ (.int .i64 x.eg)) (.slice (some ⟨g, 0, none⟩) m cap) (l.set k x) ∧
      w.grownBy (((w.setCell ⟨g, k * 3, none⟩ (.int .i64 x.asn)).setCell ⟨g, k * 3 + 1, none⟩ (.int .i64 x.ing)).setCell ⟨g, k * 3 + 2, none⟩ (.int .i64 x.eg)) (some g) := by
  obtain rfl := h.len
  obtain ⟨h0, g0⟩ := World.ownsRow.stored h (k * 3) (.int .i64 x.asn)
  obtain ⟨h1, g1⟩ := World.ownsRow.stored h0 (k * 3 + 1) (.int .i64 x.ing)
  obtain ⟨h2, g2⟩ := World.ownsRow.stored h1 (k * 3 + 2) (.int .i64 x.eg)
  rw [Step.sets hk] at h2
  refine ⟨?_, ((g0.trans g1).trans g2)⟩
  unfold OwnF
  rw [List.length_set]
  exact h2

set_option maxHeartbeats 400000 in
theorem l_toStep (x : Step) (w : World) :
    Calls Try.prog 136 #[.agg #[.int .i64 x.asn, .int .i64 x.ing, .int .i64 x.eg]] w fun e w' => e = .returned (.agg #[.int .i64 x.asn, .int .i64 x.ing, .int .i64 x.eg]) ∧ Ext w w' := by
  go_enter Try.func136, Try.ntmps136
  go_wp2
  exact bodyPost_ret (v := .agg #[.int .i64 x.asn, .int .i64 x.ing, .int .i64 x.eg]) (by simp [results, Try.results136, go_sem]) rfl ⟨rfl, by repeat (first | exact Ext.refl _ | apply Ext.alloc | (refine Ext.setCell ?_ (by simp) _))⟩
set_option maxHeartbeats 400000 in
theorem l_toStepS (l : List Step) (v : Value) (w : World) (hv : RdS Step.rep w v l) (hl : l.length ≤ 1048576) :
    Calls Try.prog 94 #[v] w fun e w' => ∃ v', e = .returned v' ∧ OwnF Step.f 3 w.heap.size 119 w' v' l ∧ Ext w w' := by
  obtain ⟨o, cap, rfl, hsm⟩ := hv.shape
  obtain ⟨i0, hi, hz0, hz1, hz2⟩ := info_parts Try.infoStep
  have Hi := Lib.hid hi; clear hi
  go_enter Try.func94, Try.ntmps94
  go_wp2_with (with_reducible refine wpList_make_full _ rfl _ _ 73 rfl w.heap.size 119 i0 _ 3 Try.underlying73 Hi.out hz0 hz1 .i64 .i64 _ _ l.length rfl rfl rfl rfl ?_ ?_ ?_ ?_)
  · rw [hz2]; omega
  · unfold maxLen; omega
  · exact Nat.le_refl _
  intro w1 hown hg
  have hx1 : Ext w w1 := (Ext.refl w).grownNone hg
  have hown1 : OwnF Step.f 3 w.heap.size 119 w1 (.slice (some ⟨w.heap.size, 0, none⟩) l.length l.length) (List.replicate l.length ⟨0, 0, 0⟩) := by
    have := madeCells_flat Step.flen (by decide) ⟨0, 0, 0⟩ l.length
    unfold OwnF
    rw [← this, List.length_replicate]
    exact hown
  clear hown hg
  go_wp2
  go_loopw [4] (fun i wr => ∃ (k : Nat) (xs : List Step), k ≤ l.length ∧ i = .int .i64 k ∧ xs.length = l.length ∧ OwnF Step.f 3 w.heap.size 119 wr (.slice (some ⟨w.heap.size, 0, none⟩) l.length l.length) xs ∧ xs.take k = l.take k ∧ Ext w wr) (fun i _ => l.length - (intOf i).toNat)
  case atStart => exact ⟨0, _, Nat.zero_le _, rfl, by simp, hown1, rfl, hx1⟩
  case round =>
    obtain ⟨k, xs, hk, rfl, hxl, hown, htk, hx⟩ := hrel
    have Htk := Lib.hid htk; clear htk
    have Hxl := Lib.hid hxl; clear hxl
    by_cases hlt : k < l.length
    · obtain ⟨b, off, rfl, hcc⟩ := Step.at (hv.ext hx) k hlt
      go_wp2_with fail
      refine (l_toStep l[k] _).mono ?_
      rintro e w2 ⟨rfl, h2⟩
      have hx2 := hx.trans h2
      have hown2 := hown.ext h2
      have hcs := Step.own_at hown2 k (by rw [Hxl.out]; exact hlt)
      have f0 := hown2.free (k * 3)
      have f1 := hown2.free (k * 3 + 1)
      have f2 := hown2.free (k * 3 + 2)
      obtain ⟨ho3, hg3⟩ := Step.own_set hown2 k (by rw [Hxl.out]; exact hlt) l[k]
      have hx3 := hx2.grown hg3 (fun _ e => by cases e; exact Nat.le_refl _)
      go_wp2_with fail
      go_roundw
      case rel => exact ⟨k + 1, _, by omega, by go_num, by simpa using Hxl.out, ho3, take_set_snoc Htk.out Hxl.out hlt, hx3⟩
      case measure => simp [intOf]; omega
    · go_wp2
      go_ret
      refine ⟨_, rfl, ?_, hx⟩
      obtain rfl : xs = l := by
        have := Htk.out
        rwa [List.take_of_length_le (by rw [Hxl.out]; omega), List.take_of_length_le (by omega)] at this
      exact hown

theorem Step.ext' {x y : Step} (h0 : x.asn = y.asn) (h1 : x.ing = y.ing) (h2 : x.eg = y.eg) : x = y := by
  cases x; cases y; simp_all
theorem Step.eq_iff (x y : Step) : (decide (x = y) : Bool) = (!(x.asn != y.asn) && !(x.ing != y.ing) && !(x.eg != y.eg)) := by
  cases x; cases y; simp only [nbne, Step.mk.injEq, Bool.decide_and, Bool.and_assoc]
set_option maxHeartbeats 400000 in
theorem l_eqStep (x y : Step) (w : World) :
    Calls Try.prog 141 #[.agg #[.int .i64 x.asn, .int .i64 x.ing, .int .i64 x.eg], .agg #[.int .i64 y.asn, .int .i64 y.ing, .int .i64 y.eg]] w fun e w' => e = .returned (.bool (decide (x = y))) ∧ Ext w w' := by
  rw [Step.eq_iff]
  go_enter Try.func141, Try.ntmps141
  go_wp2
  all_goals
    go_ret
    refine ⟨ret_bool ?_, ((Ext.refl _).alloc _).alloc _⟩
    simp only [*, Bool.not_true, Bool.not_false, Bool.and_true, Bool.and_false, Bool.false_and]
set_option maxRecDepth 100000 in
set_option maxHeartbeats 400000 in
theorem l_eqStepS (a b : List Step) (va vb : Value) (w : World) (ha : RdS Step.rep w va a) (hb : RdS Step.rep w vb b) :
    Calls Try.prog 100 #[va, vb] w fun e w' => e = .returned (.bool (decide (a = b))) ∧ Ext w w' := by
  obtain ⟨oa, ca, rfl, hsa⟩ := ha.shape
  obtain ⟨ob, cb, rfl, hsb⟩ := hb.shape
  by_cases hne : a.length = b.length
  · have Hne := Lib.hid hne
    have t1 : ((a.length : Int) != (b.length : Int)) = false := by simp [hne]
    clear hne
    go_enter Try.func100, Try.ntmps100
    go_wp2
    go_loopw [5] (fun i wr => ∃ (k : Nat), k ≤ a.length ∧ i = .int .i64 k ∧ a.take k = b.take k ∧ Ext w wr) (fun i _ => a.length - (intOf i).toNat)
    case atStart => exact ⟨0, Nat.zero_le _, rfl, rfl, Ext.refl _⟩
    case round =>
      obtain ⟨k, hk, rfl, htk, hx⟩ := hrel
      have Htk := Lib.hid htk; clear htk
      by_cases hlt : k < a.length
      · have hlb : k < b.length := by rw [← Hne.out]; exact hlt
        obtain ⟨b1, off1, rfl, hc1⟩ := Step.at (ha.ext hx) k hlt
        obtain ⟨b2, off2, rfl, hc2⟩ := Step.at (hb.ext hx) k hlb
        go_wp2
        go_still_tail 8, (by kernel_rfl)
        go_wp2_with fail
        refine (l_eqStep a[k] b[k] _).mono ?_
        rintro e w2 ⟨rfl, h2⟩
        have hx2 := hx.trans (Ext.trans (by repeat (first | exact Ext.refl _ | apply Ext.drew | apply Ext.drewN)) h2)
        by_cases heq : a[k] = b[k]
        · have t2 : decide (a[k] = b[k]) = true := by simp [heq]
          have Heq := Lib.hid heq; clear heq
          go_wp2_with fail
          go_roundw
          case rel => exact ⟨k + 1, by omega, by go_num, take_snoc2 Htk.out hlt hlb Heq.out, hx2⟩
          case measure => simp [intOf]; omega
        · have t2 : decide (a[k] = b[k]) = false := by simp [heq]
          have hab : decide (a = b) = false := by
            rw [decide_eq_false_iff_not]; rintro rfl; exact heq rfl
          have Hab := Lib.hid hab; clear hab
          clear heq
          go_wp2_with fail
          go_ret
          exact ⟨ret_bool Hab.out.symm, hx2⟩
      · have hab : decide (a = b) = true := by
          have := Htk.out
          rw [List.take_of_length_le (by omega), List.take_of_length_le (by rw [← Hne.out]; omega)] at this
          simp [this]
        have Hab := Lib.hid hab; clear hab
        go_wp2
        go_ret
        exact ⟨ret_bool Hab.out.symm, hx⟩
  · have t1 : ((a.length : Int) != (b.length : Int)) = true := by simp [bne_iff_ne]; omega
    have hab : decide (a = b) = false := by
      rw [decide_eq_false_iff_not]; rintro rfl; exact hne rfl
    have Hab := Lib.hid hab; clear hab
    clear hne
    go_enter Try.func100, Try.ntmps100
    go_wp2
    go_ret
    exact ⟨ret_bool Hab.out.symm, Ext.refl _⟩
set_option maxHeartbeats 400000 in
theorem l_szStepS (l : List Step) (v : Value) (left : Int) (w : World) (hv : RdS Step.rep w v l) (h0 : 0 ≤ left) (h1 : left ≤ 1048576) :
    Calls Try.prog 88 #[v, .int .i64 left] w fun e w' => e = .returned (.int .i64 (szL left l.length)) ∧ Ext w w' := by
  obtain ⟨o, cap, rfl, hsm⟩ := hv.shape
  by_cases hlt : left - l.length < 0
  · have hz : szL left l.length = -1 := by unfold szL; rw [if_pos hlt]
    rw [hz]
    go_enter Try.func88, Try.ntmps88
    go_wp2
    go_ret
    exact ⟨rfl, Ext.refl _⟩
  · have hz : szL left l.length = left - l.length := by unfold szL; rw [if_neg hlt]
    rw [hz]
    go_enter Try.func88, Try.ntmps88
    go_wp2
    go_ret
    exact ⟨rfl, Ext.refl _⟩

def Step.mk' (k : Int) : Step := ⟨k, k + 1, k + 1 + 1⟩

def Step.ok (x : Step) : Prop := I64 x.asn ∧ I64 x.ing ∧ I64 x.eg
theorem Step.opens : Opens Try.prog 163 Step.rep Step.ok := by
  intro H enc w base spare held fuel cs x h
  obtain ⟨xs, n, _, _, hcl, hxl, hf⟩ := DataW.trod_struct Try.underlying163 h
  have hC : Try.prog.cellsOf 163 = 3 := by kernel_rfl
  have hi1 : Try.prog.cellsOf 3 = 1 := by kernel_rfl
  have hb1 : Try.prog.cellsOf 4 = 1 := by kernel_rfl
  obtain ⟨c0, c1, c2, rfl⟩ := len3 (hcl.trans hC)
  obtain ⟨y0, y1, y2, rfl⟩ := len3 hxl
  have h0 := hf 0 _ rfl
  simp [hi1] at h0
  obtain ⟨n0, r0, k0⟩ := opens_int Try.underlying3 h0
  cases r0
  have h1 := hf 1 _ rfl
  simp [hi1] at h1
  obtain ⟨n1, r1, k1⟩ := opens_int Try.underlying3 h1
  cases r1
  have h2 := hf 2 _ rfl
  simp [hi1] at h2
  obtain ⟨n2, r2, k2⟩ := opens_int Try.underlying3 h2
  cases r2
  exact ⟨⟨n0, n1, n2⟩, rfl, k0, k1, k2⟩
theorem Step.opensS : Opens Try.prog 57 Step.rep.slice (fun l => ∀ x ∈ l, Step.ok x) := opens_slice Try.underlying57 (by kernel_rfl) (by decide) Step.opens

end Go.Proofs.Ytjjoijidlgkimaa
