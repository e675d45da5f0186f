/- What these laws need: FnExactFormatTrace, FnLeases, FnParts: Contracts of links, interfaces and failed interfaces of a topology, program and reference. The walk of a packet, as a plain function. -/
import Derived.Test.YtikbeiafobnblaaKQ7
import Derived.Test.YtikbeiafobnblaaKQ8
namespace Go.Proofs.Ytikbeiafobnblaa
section
open Go.ChangeShapes Go.WideShapes Go.ChangeAt Go.RowKit Go.Deep
def orI (a b : Int) : Int := IntKind.wrap .i64 ((BitVec.ofInt 64 a ||| BitVec.ofInt 64 b).toNat : Int)
def addEl (s i : Int) : Int := if inR s 0 65535 && inR i 0 15 then orI s (2 ^ i.toNat) else s
def failStep (t : Topo) (dead : List Int) (r : Int) (s x : Int) : Int := if hasI dead (linkIdx t.links r x) then addEl s x else s
def failedIfs (t : Topo) (dead : List Int) (r : Int) : Int := (topoIfs t.links r).foldl (failStep t dead r) 0
end
section
open Go.RowKit
def trav (t : Topo) (now : Int) (dead : List Int) : Nat → Int → Int → Pkt → List Step → Trc
  | 0, _, _, x, l => ⟨0, l, x⟩
  | f + 1, r, inn, x, l =>
    if (forward t r now (failedIfs t dead r) inn x).code = 0 then trav t now dead f (remEnd t r (forward t r now (failedIfs t dead r) inn x).eg).1 (remEnd t r (forward t r now (failedIfs t dead r) inn x).eg).2 (forward t r now (failedIfs t dead r) inn x).pkt (l ++ [⟨r, inn, (forward t r now (failedIfs t dead r) inn x).eg⟩])
    else if (forward t r now (failedIfs t dead r) inn x).code = 1 then ⟨1, l ++ [⟨r, inn, (forward t r now (failedIfs t dead r) inn x).eg⟩], (forward t r now (failedIfs t dead r) inn x).pkt⟩
    else ⟨(forward t r now (failedIfs t dead r) inn x).code, l, (forward t r now (failedIfs t dead r) inn x).pkt⟩
def traverse (t : Topo) (now : Int) (dead : List Int) (x : Pkt) : Trc := trav t now dead 30 x.src 0 x []
theorem trav_go {t : Topo} {now : Int} {dead : List Int} {f : Nat} {r inn eg : Int} {x z : Pkt} {l : List Step} (hv : forward t r now (failedIfs t dead r) inn x = ⟨0, eg, z⟩) :
    trav t now dead (f + 1) r inn x l = trav t now dead f (remEnd t r eg).1 (remEnd t r eg).2 z (l ++ [⟨r, inn, eg⟩]) := by simp [trav, hv]
theorem trav_del {t : Topo} {now : Int} {dead : List Int} {f : Nat} {r inn eg : Int} {x z : Pkt} {l : List Step} (hv : forward t r now (failedIfs t dead r) inn x = ⟨1, eg, z⟩) :
    trav t now dead (f + 1) r inn x l = ⟨1, l ++ [⟨r, inn, eg⟩], z⟩ := by simp [trav, hv]
theorem trav_bad {t : Topo} {now : Int} {dead : List Int} {f : Nat} {r inn cd eg : Int} {x z : Pkt} {l : List Step} (hv : forward t r now (failedIfs t dead r) inn x = ⟨cd, eg, z⟩) (h0 : ¬ cd = 0) (h1 : ¬ cd = 1) :
    trav t now dead (f + 1) r inn x l = ⟨cd, l, z⟩ := by simp [trav, hv, h0, h1]
end
end Go.Proofs.Ytikbeiafobnblaa
