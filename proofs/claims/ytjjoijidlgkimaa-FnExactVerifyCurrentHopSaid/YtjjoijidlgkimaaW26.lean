/- Contracts of new packets and replies, program and reference. No condition but the bounds that each theorem names. -/
import Derived.Test.YtjjoijidlgkimaaW21c
import Derived.Test.YtjjoijidlgkimaaW22e
import Derived.Test.YtjjoijidlgkimaaW30p
import Derived.Test.YtjjoijidlgkimaaW02
namespace Go.Proofs.Ytjjoijidlgkimaa
open Go.ChangeShapes Go.WideShapes Go.ChangeAt Go.RowKit Go.Deep

def beta0 : List Part → Int
  | [] => 0
  | x :: _ => x.beta
theorem beta0_at {l : List Part} (h : 0 < l.length) : beta0 l = l[0].beta := by
  cases l with
  | nil => cases h
  | cons x l => rfl
theorem beta0_nil {l : List Part} (h : ¬ 0 < l.length) : beta0 l = 0 := by
  cases l with
  | nil => rfl
  | cons x l => exact absurd (by simp) h
def newPkt (kind : Int) (p : Pth) (rid seq : Int) (pay : List Int) : Pkt := ⟨kind, (ends p.parts).1, (ends p.parts).2, p, 0, 0, beta0 p.parts, rid, seq, pay⟩
def reply (x : Pkt) (kind seq : Int) (pay : List Int) : Pkt := newPkt kind (revPath x.path) x.rid seq pay
theorem revPath_size (x : Pth) : (revPath x).size = x.size := by unfold Pth.size revPath; dsimp only; rw [revParts_len, revParts_hops]
theorem newPkt_size (kind : Int) (p : Pth) (rid seq : Int) (pay : List Int) : (newPkt kind p rid seq pay).size = p.size + pay.length := rfl





end Go.Proofs.Ytjjoijidlgkimaa
