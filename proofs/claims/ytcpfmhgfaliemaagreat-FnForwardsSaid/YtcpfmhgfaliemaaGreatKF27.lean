/- What these laws need: FnForwards: The draws of the code: a path with its topology. -/
import Derived.Test.YtcpfmhgfaliemaaGreatKF26
namespace Go.Proofs.YtcpfmhgfaliemaaGreat
section
open Go.ChangeShapes Go.WideShapes Go.ChangeAt Go.RowKit Go.Deep
theorem Cur.ofCode {S : Nat → Prop} {g : Nat} {v : Value} {code : List Int} {w w1 w' : World} (hr : RdS Rep.byte w v code) (h : Cur g v code w1) (c : Chg S w1 w') (hn : ¬ S g) (hx : Ext w w') (hg : w.heap.size ≤ g) : Cur g v code w' := by
 obtain ⟨⟨i, hh, hb, r⟩, hs, hu⟩ := h; exact ⟨⟨i, hh, c.blkS hb hn, r⟩, fun w2 k => hr.ext (hx.ofCur k hg), hu⟩
end
end Go.Proofs.YtcpfmhgfaliemaaGreat
