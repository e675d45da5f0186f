/- What the law's last text needs besides its walk. No condition. -/
import Derived.Test.YteodlcpeoaggbaaGreatRows
import Derived.WalkKit
import Derived.WalkSpells
import Derived.WalkLawsBesides
import Derived.ProofKit
import Derived.OpenShut
import Derived.Lib.Hide
import Derived.Deep.Slices
import Derived.Deep.Heap
import Derived.Lib.SmallJoins
import Derived.Deep.QuietTactic
import Derived.BigQuiet
import Derived.StillTailTactics
import Derived.Deep.RegionHeld3
import Derived.Deep.AppendLies
import Derived.Laws.AppendOwnNone
import Derived.Test.YteodlcpeoaggbaaGreatKVxLWk
namespace Go.Proofs.YteodlcpeoaggbaaGreat
section
open Go.ChangeShapes Go.WideShapes Go.ChangeAt Go.RowKit Go.Deep
theorem own_knob : ownKnob Tryz.prog.godebug = none := by kernel_rfl
theorem laid_out : laidOutB Tryz.prog = true := by kernel_rfl
section
variable {H : Type} {enc : TypeId × Value → H} {P : Program}
theorem trodAll_below (hl : laidOutB P = true) {W W' : World} (hb : Below W.heap.size W W') (sp : Nat → Bool) :
    ∀ {ts : List TypeId} {vs : List Value} {ds : List (DataW H)} {ps : List MemPlace}, (∀ t ∈ ts, P.readableRec t = true ∧ t < P.types.size) →
      DataW.TrodAll enc P W 0 (fun _ => true) true ts vs ds ps → (∀ x ∈ ps, x.block < W.heap.size) → (∀ x ∈ ps, sp x.block = true) → DataW.TrodAll enc P W' 0 sp true ts vs ds ps
  | [], _, _, _, _, h, _, _ => by
    obtain ⟨rfl, rfl, rfl⟩ := trodAll_nil h
    exact trodAll_mk0
  | t :: ts, vs, ds, ps, hr, h, hlt, hsp => by
    obtain ⟨v, vs', d, ds', p, q, rfl, rfl, rfl, h1, h2⟩ := trodAll_cons h
    refine trodAll_cons_mk (WideElems.Trod_stays hl (hr t (by simp)).1 (hr t (by simp)).2 h1 (fun x hx => hb.same (hlt x (by simp [hx]))) (fun x hx => hsp x (by simp [hx]))) ?_
    exact trodAll_below hl hb sp (fun t ht => hr t (by simp [ht])) h2 (fun x hx => hlt x (by simp [hx])) (fun x hx => hsp x (by simp [hx]))
/-- What a law's call owes: it answered true, and below the old heap's end nothing has turned. -/
theorem post_law {f : Func} {s : ChangeSpec} {apart fresh handsOn again : Bool} {W W' : World} {args : Array Value} {ds gs : List (DataW H)} {before : List MemPlace} {tb : TypeId}
    (hl : laidOutB P = true) (hpar : ∀ t ∈ f.params.toList, P.readableRec t = true ∧ t < P.types.size) (hrt : f.resultTypes = #[tb]) (htb : P.underlying tb = some .bool)
    (hv : s.vars = []) (hfn : ∀ ds' : List (DataW H), ds'.length = f.params.toList.length → s.fn H ds' = { results := [.lit (.bool true)], args := ds' })
    (hW : DataW.Whole enc P f.params.toList s.vars apart W args.toList ds gs before) (hb : Below W.heap.size W W') :
    s.post enc P f apart fresh handsOn again W args (.bool true) W' := by
  have hlt : ∀ p ∈ before, p.block < W.heap.size := fun p hp => hW.lt p hp
  have hold : ∀ p ∈ before, (fun b => decide (b < W.heap.size)) p.block = true := fun p hp => by simpa using hlt p hp
  have hW' := hW
  obtain ⟨pa, q, hA, hV, rfl, hz, hn⟩ := hW'
  rw [hv] at hV
  obtain ⟨rfl, rfl⟩ := trodVars_none hV
  have hlen : ds.length = f.params.toList.length := by
    clear hW hz hn hlt hold hV hpar hfn
    generalize f.params.toList = ts at hA
    generalize args.toList = vs at hA
    induction ts generalizing vs ds pa with
    | nil => obtain ⟨rfl, rfl, rfl⟩ := trodAll_nil hA; rfl
    | cons t ts ih =>
      obtain ⟨v, vs', d, ds', p, q, rfl, rfl, rfl, h1, h2⟩ := trodAll_cons hA
      simp [ih _ _ h2]
  have hfn' := hfn ds hlen
  have hres : ∀ (b : Nat) (sp : Nat → Bool) (hd : Bool), DataW.TrodAll enc P W' b sp hd f.resultTypes.toList ((Value.bool true).resultList f.resultTypes.size) [.lit (.bool true)] [] := by
    intro b sp hd
    rw [hrt]
    exact trodAll_mk1 (shut_bool htb _)
  have hvar : ∀ sp, DataW.TrodVars enc P W' sp s.vars [] [] := fun sp => by rw [hv]; rfl
  refine ⟨ds, [], pa ++ [], [], pa, [], hW, ?_, ?_, ?_, World.keptBut_mono (fun p hp => ⟨hp, ?_⟩) (hb.frame (· ∈ pa ++ [])), fun _ => ⟨?_, ?_⟩⟩
  · rw [List.append_nil, hfn']; exact hres _ _ _
  · rw [List.append_nil, hfn']
    exact trodAll_below hl hb _ hpar hA (fun x hx => hlt x (by simpa using hx)) (fun x hx => hold x (by simpa using hx))
  · rw [List.append_nil, hfn']; exact hvar _
  · exact Or.inr (Or.inl (by simpa using hp))
  · exact ok_one (by rw [hrt]) rfl (okWide_bool_mk htb _)
  · refine ⟨_, _, ([] ++ pa) ++ [], ⟨[] ++ pa, [], trodAll_append (trodAll_below hl hb _ hpar hA (fun x hx => hlt x (by simpa using hx)) (fun _ _ => rfl)) (hres _ _ _), hvar _, rfl, ?_, ?_⟩, ?_⟩
    · intro b off hp
      have hin : MemPlace.cell b off ∈ pa ++ [] := by simpa using hp
      rw [hb.frozen (hlt _ hin)]
      exact hz b off hin
    · intro ha
      have := hn ha
      simpa using this
    · intro p hp _
      simpa using hp
end
end
section
open Go.ChangeShapes Go.WideShapes Go.ChangeAt Go.RowKit Go.Deep
/-- What the row's reading of type t finds in a row of cells reads as a datum, which is sound. -/
def Opens {α : Type} (P : Program) (t : TypeId) (r : Rep α) (ok : α → Prop) : Prop :=
  ∀ {H : Type} {enc : TypeId × Value → H} {w : World} {base : Nat} {spare : Nat → Bool} {held : Bool} {fuel : Nat} {cs : List Value} {x : DataW H × List MemPlace},
    DataW.trod enc P w base spare held fuel t cs = some x → ∃ a, r.rd w cs a ∧ ok a
theorem opens_byte {P : Program} {t : TypeId} (ht : P.underlying t = some (.int .u8)) : Opens P t Rep.byte U8 := by
  intro H enc w base spare held fuel cs x h
  obtain ⟨n, rfl, _, hw⟩ := DataW.trod_int ht h
  exact ⟨n, rfl, by unfold U8; simpa [Lit.wf, IntKind.min, IntKind.max, IntKind.signed, IntKind.bits] using hw⟩
theorem opens_slice {α : Type} {P : Program} {t e : TypeId} {r : Rep α} {ok : α → Prop} (ht : P.underlying t = some (.slice e)) (hc : P.cellsOf e = r.cells) (hp : 0 < r.cells) (he : Opens P e r ok) :
    Opens P t r.slice (fun l => ∀ x ∈ l, ok x) := by
  intro H enc w base spare held fuel cs x h
  rcases open_slice ht h with ⟨rfl, _⟩ | ⟨a, len, cap, m, n, D, Pl, rfl, hb, hl, hm, hmm, hx, hi⟩
  · exact ⟨[], ⟨_, rfl, RdS.nil _ _⟩, by simp⟩
  · have hlm : len ≤ m := by rw [hmm]; split <;> omega
    have hel : ∀ i : Fin len, ∃ (y : α) (cs' : List Value), (∀ j, j < r.cells → w.cell? ((a.add (i.val * r.cells)).add j) = cs'[j]?) ∧ r.rd w cs' y ∧ ok y := by
      intro i
      obtain ⟨cs', hc', ht'⟩ := hi i (by omega)
      obtain ⟨y, hy, hk⟩ := he ht'
      rw [hc] at hc'
      exact ⟨y, cs', (World.cells?_some hc').2.2, hy, hk⟩
    have hch : ∃ F : Fin len → α, ∀ i : Fin len, ∃ cs' : List Value, (∀ j, j < r.cells → w.cell? ((a.add (i.val * r.cells)).add j) = cs'[j]?) ∧ r.rd w cs' (F i) ∧ ok (F i) := ⟨fun i => (hel i).choose, fun i => (hel i).choose_spec⟩
    obtain ⟨F, hF⟩ := hch
    refine ⟨List.ofFn F, ⟨_, rfl, some a, cap, by simp, by simpa using hl, hm, (fun e => by cases e), fun i hi' => ?_⟩, ?_⟩
    · have hil : i < len := by simpa using hi'
      obtain ⟨cs', hc', hr', _⟩ := hF ⟨i, hil⟩
      obtain ⟨b, off, sp⟩ := a
      have hsp : sp = none := by
        have h0 : 0 < len := by omega
        obtain ⟨cs0, hc0, hr0, _⟩ := hF ⟨0, h0⟩
        have h1 := hc0 0 hp
        simp only [Nat.zero_mul, Addr.add, if_true] at h1
        have hl0 := r.len hr0
        rw [List.getElem?_eq_getElem (by omega)] at h1
        cases sp with
        | none => rfl
        | some s =>
          simp only [World.cell?] at h1
          split at h1 <;> simp at h1
      subst hsp
      refine ⟨b, off, cs', rfl, fun j u hj => ?_, by simpa using hr'⟩
      have hjl : j < r.cells := by rw [← r.len hr']; exact (List.getElem?_eq_some_iff.1 hj).1
      have := hc' j hjl
      rw [hj] at this
      rw [← this]
      have hadd : ∀ (o k : Nat), (⟨b, o, none⟩ : Addr).add k = ⟨b, o + k, none⟩ := fun o k => by unfold Addr.add; split <;> simp_all
      rw [hadd, hadd]
    · intro x hx
      obtain ⟨i, rfl⟩ := List.mem_ofFn.1 hx
      exact (hF i).choose_spec.2.2
section
variable {H : Type} {enc : TypeId × Value → H} {P : Program} {W : World} {base : Nat} {spare : Nat → Bool} {held : Bool}
theorem arg_slice {α : Type} {rc : Reach} {b : Nat} {t e : TypeId} {v : Value} {d : DataW H} {p : List MemPlace} {r : Rep α} {ok : List α → Prop} (ht : P.underlying t = some (.slice e)) (hv : Value.okWide P W rc b t v) (ho : Opens P t r.slice ok)
    (h : DataW.Trod enc P W base spare held t v d p) : ∃ l, RdS r W v l ∧ ok l := by
  obtain ⟨a, len, cap, rfl⟩ := okWide_slice ht hv
  obtain ⟨fuel, hf⟩ := h
  obtain ⟨l, ⟨v', hv', hr⟩, hk⟩ := ho hf
  simp [Value.cells] at hv'
  subst hv'
  exact ⟨l, hr, hk⟩
end
theorem len1 {α : Type} {cs : List α} (h : cs.length = 1) : ∃ a, cs = [a] := List.length_eq_one_iff.1 h
end
section
open Go.ChangeShapes Go.WideShapes Go.ChangeAt Go.RowKit Go.Deep
theorem opensBytes : Opens Tryz.prog 22 Rep.byte.slice (fun l => ∀ x ∈ l, U8 x) := opens_slice Tryz.underlying22 (by kernel_rfl) (by decide) (opens_byte Tryz.underlying5)
end

end Go.Proofs.YteodlcpeoaggbaaGreat
