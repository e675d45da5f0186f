/- What these laws need: FnWalks: The length of a path; whether a number is among others; how long a trace is. -/
import Derived.Test.YteodlcpeoaggbaaGreatKV24
import Derived.Test.YteodlcpeoaggbaaGreatKV40
namespace Go.Proofs.YteodlcpeoaggbaaGreat
section
open Go.ChangeShapes Go.WideShapes Go.ChangeAt Go.RowKit Go.Deep
theorem trav_size (t:Topo) (now:Int) (dead:List Int):∀ (f:Nat) (r inn:Int) (x:Pkt) (l:List Step),(trav t now dead f r inn x l).pkt.size=x.size∧(trav t now dead f r inn x l).steps.length≤l.length+f
 | 0, r, inn, x, l => ⟨rfl, Ae _⟩
 | f + 1, r, inn, x, l => by
  obtain⟨v,hv⟩:∃ v,forward t r now (failedIfs t dead r) inn x=v:=⟨_,rfl⟩
  obtain⟨cd,eg,z⟩:=v;have hz:z.size=x.size:=by have h:=fw_size t r now (failedIfs t dead r) inn x;rw [hv] at h;exact h
  by_cases h0:cd=0
  ·
   subst h0;rw [trav_go hv];obtain⟨h1,h2⟩:=trav_size t now dead f (remEnd t r eg).1 (remEnd t r eg).2 z (l ++ [⟨r,inn,eg⟩]);exact⟨h1.trans hz,by simp at h2;omega⟩
  by_cases h1:cd=1
  ·
   subst h1;rw [trav_del hv];exact⟨hz,by simp⟩
  rw [trav_bad hv h0 h1];exact⟨hz,by simp⟩
theorem traverse_size (t:Topo) (now:Int) (dead:List Int) (x:Pkt):(traverse t now dead x).size≤x.size+30:=by
 obtain⟨h1,h2⟩:=trav_size t now dead 30 x.src 0 x [];have e1:(traverse t now dead x).pkt.size=x.size:=h1;have e2:(traverse t now dead x).steps.length≤0+30:=h2;unfold Trc.size;omega
end
end Go.Proofs.YteodlcpeoaggbaaGreat
