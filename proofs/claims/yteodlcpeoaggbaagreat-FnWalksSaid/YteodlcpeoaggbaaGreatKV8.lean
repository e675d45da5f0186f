/- What these laws need: FnOld, FnWalks: Contracts of the interfaces that paths use and of what revocations affect, program and reference. Contracts of the ends of paths, program and reference. Contracts of new packets and replies, program and reference. -/
import Derived.Test.YteodlcpeoaggbaaGreatKV5
import Derived.Test.YteodlcpeoaggbaaGreatKV7
namespace Go.Proofs.YteodlcpeoaggbaaGreat
section
open Go.ChangeShapes Go.WideShapes Go.ChangeAt Go.RowKit Go.Deep
set_option maxRecDepth 100000
set_option maxHeartbeats 8000000
def hasI (l:List Int) (n:Int):Bool:=l.any (fun x=>x == n)
theorem any_snoc {α:Type} (p:α→Bool) {l:List α} {k:Nat} (hk:k<l.length):(l.take (k+1)).any p=((l.take k).any p || p l[k]):=by
 rw [List.take_succ_eq_append_getElem hk,List.any_append];simp
theorem any_hit {α:Type} (p:α→Bool) {l:List α} {k:Nat} (hk:k<l.length) (h:p l[k]=true):l.any p=true:=List.any_eq_true.2 ⟨l[k],List.getElem_mem _,h⟩
def ifNum (a d:Int):Int:=wrap64 (wrap64 (8 * a)+d)
def stepIfs (s:Step):List Int:=(if s.ing != 0 then [ifNum s.asn s.ing] else []) ++ (if s.eg != 0 then [ifNum s.asn s.eg] else [])
def usedIfs (l:List Step):List Int:=l.flatMap stepIfs
theorem stepIfs_len (s:Step):(stepIfs s).length≤2:=by unfold stepIfs;split <;> split <;> simp
theorem usedIfs_snoc {l:List Step} {k:Nat} (hk:k<l.length):usedIfs (l.take (k+1))=usedIfs (l.take k) ++ stepIfs l[k]:=by
 unfold usedIfs;rw [List.take_succ_eq_append_getElem hk,List.flatMap_append];simp
theorem usedIfs_len (l:List Step):(usedIfs l).length≤2 * l.length:=by
 induction l with
 | nil => simp [usedIfs]
 | cons a l ih =>
  have:=stepIfs_len a;unfold usedIfs at *;rw [List.flatMap_cons,List.length_append,List.length_cons];omega
theorem stepIfs_11 {s:Step} (h1:(s.ing != 0)=true) (h2:(s.eg != 0)=true):stepIfs s=[ifNum s.asn s.ing] ++ [ifNum s.asn s.eg]:=by simp [stepIfs,h1,h2]
theorem stepIfs_10 {s:Step} (h1:(s.ing != 0)=true) (h2:(s.eg != 0)=false):stepIfs s=[ifNum s.asn s.ing]:=by simp [stepIfs,h1,h2]
theorem stepIfs_01 {s:Step} (h1:(s.ing != 0)=false) (h2:(s.eg != 0)=true):stepIfs s=[ifNum s.asn s.eg]:=by simp [stepIfs,h1,h2]
theorem stepIfs_00 {s:Step} (h1:(s.ing != 0)=false) (h2:(s.eg != 0)=false):stepIfs s=[]:=by simp [stepIfs,h1,h2]
theorem i_hasInt (l:List Int) (v:Value) (n:Int) (w:World) (hv:RdS Rep.int w v l) :
  Calls Tryz.prog 52 #[v,.int .i64 n] w fun e w'=>e=.returned (.bool (hasI l n))∧w=w':=by
 obtain⟨o,cap,rfl,hsm⟩:=hv.shape
 go_enter Tryz.func52,Tryz.ntmps52
 go_wp2
 go_loop [9] (fun i=>∃ k:Nat,k≤l.length∧i=.int .i64 k∧hasI (l.take k) n=false) (fun i=>l.length - (intOf i).toNat)
 case atStart=>exact⟨0,Nat.zero_le _,rfl,rfl⟩
 case round=>
  obtain⟨k,hk,rfl,hno⟩:=hrel;have HN:=Ac hno;clear hno
  by_cases hlt:k<l.length
  ·
   obtain⟨b,off,rfl,hc⟩:=ints_at hv k hlt
   cases he:(l[k] == n)
   ·
    go_wp2
    go_round
    case rel=>exact⟨k+1,by omega,by go_num,by unfold hasI;rw [any_snoc _ hlt,he,Bool.or_false];exact HN.out⟩
    case measure=>simp [intOf];omega
   have hy:hasI l n=true:=any_hit _ hlt he;have HY:=Ac hy;clear hy
   go_wp2
   go_ret
   exact⟨Ah HY.out.symm,rfl⟩
  have hy:hasI l n=false:=by rw [← HN.out,List.take_of_length_le (by omega)]
  have HY:=Ac hy;clear hy
  go_wp2
  go_ret
  exact⟨Ah HY.out.symm,rfl⟩
theorem s_l9Has (l:List Int) (v:Value) (n:Int) (w:World) (hv:RdS Rep.int w v l) :
  Calls Tryz.prog 56 #[v,.int .i64 n] w fun e w'=>e=.returned (.bool (hasI l n))∧w=w':=by
 obtain⟨o,cap,rfl,hsm⟩:=hv.shape
 go_enter Tryz.func56,Tryz.ntmps56
 go_wp2
 go_loop [5] (fun i=>∃ k:Nat,k≤l.length∧i=.int .i64 k∧hasI (l.take k) n=false) (fun i=>l.length - (intOf i).toNat)
 case atStart=>exact⟨0,Nat.zero_le _,rfl,rfl⟩
 case round=>
  obtain⟨k,hk,rfl,hno⟩:=hrel;have HN:=Ac hno;clear hno
  by_cases hlt:k<l.length
  ·
   obtain⟨b,off,rfl,hc⟩:=ints_at hv k hlt
   cases he:(l[k] == n)
   ·
    go_wp2
    go_round
    case rel=>exact⟨k+1,by omega,by go_num,by unfold hasI;rw [any_snoc _ hlt,he,Bool.or_false];exact HN.out⟩
    case measure=>simp [intOf];omega
   have hy:hasI l n=true:=any_hit _ hlt he;have HY:=Ac hy;clear hy
   go_wp2
   go_ret
   exact⟨Ah HY.out.symm,rfl⟩
  have hy:hasI l n=false:=by rw [← HN.out,List.take_of_length_le (by omega)]
  have HY:=Ac hy;clear hy
  go_wp2
  go_ret
  exact⟨Ah HY.out.symm,rfl⟩
theorem i_numbered (l:List Step) (v:Value) (w:World) (hv:RdS Step.rep w v l) (hl:l.length≤1048576) :
  Calls Tryz.prog 65 #[v] w fun e w'=>∃ v',e=.returned v'∧OwnF intF 1 w.heap.size 3 w' v' (usedIfs l)∧Ext w w':=by
 obtain⟨o,cap,rfl,hsm⟩:=hv.shape;obtain⟨E⟩:=elemInt
 go_enter Tryz.func65,Tryz.ntmps65
 go_wp2
 go_loopg [3,8] l.length (fun gk out i wr=>∃ k:Nat,gk+k=l.length∧i=.int .i64 k∧OwnF intF 1 w.heap.size 3 wr out (usedIfs (l.take k))∧Ext w wr)
 case atStart=>exact⟨0,rfl,rfl,OwnF.nil _ _ _ _ _,Ab _⟩
 case round=>
  obtain⟨k,hgk,rfl,hown,hx⟩:=hrel;have hln:(usedIfs (l.take k)).length≤2 * k:=Ad (usedIfs_len _) (by have:=List.length_take_le k l;omega)
  by_cases hlt:k<l.length
  ·
   obtain⟨b,off,rfl,hc⟩:=Step.at (hv.ext hx) k hlt;have hg':gk - 1+(k+1)=l.length∧gk - 1<gk:=by omega
   have HG:=Ac hg';clear hg' hgk;have HS:=Ac (usedIfs_snoc hlt);generalize usedIfs (l.take k)=out at *;have hB:=blk_new wr (.cells #[.int .i64 l[k].asn,.int .i64 l[k].ing,.int .i64 l[k].eg] 79);have HB:=Ac hB;clear hB;have hxa:Ext w (wr.alloc (.cells #[.int .i64 l[k].asn,.int .i64 l[k].ing,.int .i64 l[k].eg] 79)):=hx.alloc _;have hoa:=hown.ext ((Ab wr).alloc (.cells #[.int .i64 l[k].asn,.int .i64 l[k].ing,.int .i64 l[k].eg] 79))
   cases h1:(l[k].ing != 0)
   ·
    cases h2:(l[k].eg != 0)
    ·
     have HE:=Ac (HS.out.trans (by rw [stepIfs_00 h1 h2,List.append_nil]))
     go_wp2_with fail
     go_roundg (gk - 1)
     case measure=>exact HG.out.2
     case rel=>exact⟨k+1,HG.out.1,by go_num,by rw [HE.out];exact hoa,hxa⟩
    have HE:=Ac (HS.out.trans (by rw [stepIfs_01 h1 h2]))
    go_wp2_with (at_builtin;refine app1 E intFlen intOne rfl _ _ rfl (ifNum l[k].asn l[k].eg) rfl (Ay hown (((Ab _).alloc _).alloc _)) rfl (by exact Au (intF (ifNum l[k].asn l[k].eg)) (blk_new2 wr _ _)) (by omega) (by unfold maxLen;omega) (by exact(hxa.alloc _).size) ?_)
    intro v1 w1 ho1 hg1;have hx1:=Ext.app (hxa.alloc _) hg1 hown (Ae _);clear hg1;rw [← HE.out] at ho1
    go_wp2_with fail
    go_roundg (gk - 1)
    case measure=>exact HG.out.2
    case rel=>exact⟨k+1,HG.out.1,by go_num,ho1,hx1⟩
   cases h2:(l[k].eg != 0)
   ·
    have HE:=Ac (HS.out.trans (by rw [stepIfs_10 h1 h2]))
    go_wp2_with (at_builtin;refine app1 E intFlen intOne rfl _ _ rfl (ifNum l[k].asn l[k].ing) rfl (Ay hown (((Ab _).alloc _).alloc _)) rfl (by exact Au (intF (ifNum l[k].asn l[k].ing)) (blk_new2 wr _ _)) (by omega) (by unfold maxLen;omega) (by exact(hxa.alloc _).size) ?_)
    intro v1 w1 ho1 hg1;have hx1:=Ext.app (hxa.alloc _) hg1 hown (Ae _);have hs1:=blk3 (own_ne (Ay hown (((Ab _).alloc _).alloc _)) (Aa ((Ab _).alloc _) HB.out) (by decide) hg1);clear hg1;rw [← HE.out] at ho1
    go_wp2_with fail
    go_roundg (gk - 1)
    case measure=>exact HG.out.2
    case rel=>exact⟨k+1,HG.out.1,by go_num,ho1,hx1⟩
   have HE:=Ac (show usedIfs (l.take (k+1))=out ++ [ifNum l[k].asn l[k].ing,ifNum l[k].asn l[k].eg] from HS.out.trans (by rw [stepIfs_11 h1 h2];rfl))
   go_wp2_with (at_builtin;refine app1 E intFlen intOne rfl _ _ rfl (ifNum l[k].asn l[k].ing) rfl (Ay hown (((Ab _).alloc _).alloc _)) rfl (by exact Au (intF (ifNum l[k].asn l[k].ing)) (blk_new2 wr _ _)) (by omega) (by unfold maxLen;omega) (by exact(hxa.alloc _).size) ?_)
   intro v1 w1 ho1 hg1;have hx1:=Ext.app (hxa.alloc _) hg1 hown (Ae _);have hs1:=blk3 (own_ne (Ay hown (((Ab _).alloc _).alloc _)) (Aa ((Ab _).alloc _) HB.out) (by decide) hg1);clear hg1;have hl1:(out ++ [ifNum l[k].asn l[k].ing]).length=out.length+1:=by simp
   go_wp2_with (at_builtin;refine app1 E intFlen intOne rfl _ _ rfl (ifNum l[k].asn l[k].eg) rfl (Ay ho1 ((Ab _).alloc _)) rfl (by exact Au (intF (ifNum l[k].asn l[k].eg)) (blk_new w1 _)) (by omega) (by unfold maxLen;omega) (by exact(hx1.alloc _).size) ?_)
   intro v2 w2 ho2 hg2;have hx2:=Ext.app (hx1.alloc _) hg2 ho1 (Ae _);clear hg2;rw [← HE.out] at ho2
   go_wp2_with fail
   go_roundg (gk - 1)
   case measure=>exact HG.out.2
   case rel=>exact⟨k+1,HG.out.1,by go_num,ho2,hx2⟩
  rw [List.take_of_length_le (by omega)] at hown
  go_wp2
  go_ret
  exact⟨_,rfl,hown,hx⟩
theorem i_InterfacesUsed (x:Pth) (v:Value) (w:World) (r:RdS Part.rep w v x.parts) (hl:x.size≤1048576) :
  Calls Tryz.prog 121 #[.agg #[v]] w fun e w'=>∃ v',e=.returned v'∧OwnF intF 1 w.heap.size 3 w' v' (usedIfs (pathSteps x.parts))∧Ext w w':=by
 have hx0:Ext w (w.alloc (.cells #[v] 30)):=(Ab _).alloc _;have hps:=pathSteps_len x.parts
 go_enter Tryz.func121,Tryz.ntmps121
 go_wp2_with fail
 refine(i_PathSteps x _ _ (r.ext hx0) hl).mono ?_;rintro e w1 ⟨v1,rfl,o1,h1⟩;have hx1:=hx0.trans h1
 go_wp2_with fail
 refine(i_numbered _ _ _ (Bb (hf:=Bu) o1) (by unfold Pth.size at hl;omega)).mono ?_;rintro e w2 ⟨v2,rfl,o2,h2⟩
 go_wp2_with fail
 go_ret
 exact⟨_,rfl,o2.mono hx1.size,hx1.trans h2⟩
theorem s_InterfacesUsed (x:Pth) (v:Value) (w:World) (r:RdS Part.rep w v x.parts) (hl:x.size≤1048576) :
  Calls Tryz.prog 151 #[.agg #[v]] w fun e w'=>∃ v',e=.returned v'∧OwnF intF 1 w.heap.size 3 w' v' (usedIfs (pathSteps x.parts))∧Ext w w':=by
 obtain⟨E⟩:=elemInt;have hps:=pathSteps_len x.parts;have hx0:Ext w ((w.alloc (.cells #[v] 30)).alloc (.cells #[] 3)):=((Ab _).alloc _).alloc _;have ho0:=(Bj intF 1 (w.alloc (.cells #[v] 30)).heap.size 3 (w.alloc (.cells #[v] 30)) (Ae _)).mono ((Ab w).alloc (.cells #[v] 30)).size;simp only [nblk_alloc] at ho0
 go_enter Tryz.func151,Tryz.ntmps151
 go_wp2_with fail
 refine(s_PathSteps x _ _ (r.ext hx0) hl).mono ?_;rintro e w1 ⟨v1,rfl,o1,h1⟩;have hx1:=hx0.trans h1;have ho1:=ho0.ext h1;have os1:=o1.mono hx0.size;have hlS:(pathSteps x.parts).length≤1048576:=by unfold Pth.size at hl;omega
 clear ho0 hx0 o1 hps;obtain⟨o,cap,rfl,hsm⟩:=(Bb (hf:=Bu) os1).shape;generalize hL:pathSteps x.parts=l at *;have HL:=Ac hL;clear hL
 go_wp2
 go_loopg [3,5] l.length (fun gk out i wr=>∃ k:Nat,gk+k=l.length∧i=.int .i64 k∧OwnF intF 1 w.heap.size 3 wr out (usedIfs (l.take k))∧OwnF Step.f 3 w.heap.size 79 wr (.slice o l.length cap) l∧Ext w wr)
 case atStart=>exact⟨0,rfl,rfl,ho1,os1,hx1⟩
 case round=>
  obtain⟨k,hgk,rfl,hown,hos,hx⟩:=hrel;have hln:(usedIfs (l.take k)).length≤2 * k:=Ad (usedIfs_len _) (by have:=List.length_take_le k l;omega)
  by_cases hlt:k<l.length
  ·
   obtain⟨g,cap',hv',_,_⟩:=hos.some_shape (by omega)
   cases hv'
   have hc:=Step.own_at hos k hlt;have hg':gk - 1+(k+1)=l.length∧gk - 1<gk:=by omega
   have HG:=Ac hg';clear hg' hgk;have HS:=Ac (usedIfs_snoc hlt);generalize usedIfs (l.take k)=out at *
   cases h1:(l[k].ing != 0)
   ·
    cases h2:(l[k].eg != 0)
    ·
     have HE:=Ac (HS.out.trans (by rw [stepIfs_00 h1 h2,List.append_nil]))
     go_wp2_with fail
     go_roundg (gk - 1)
     case measure=>exact HG.out.2
     case rel=>exact⟨k+1,HG.out.1,by go_num,by rw [HE.out];exact hown,hos,hx⟩
    have HE:=Ac (HS.out.trans (by rw [stepIfs_01 h1 h2]))
    go_wp2_with fail
    refine Ax (.blk [0,1,2,3,4,5,6,7,8,9,10,11,12] (.one 13 (.one 14 (.blk [15] .done)))) [14] (by kernel_rfl) (by kernel_rfl) ?_;refine blkStep (fun K HK=>?_);simp only [PK]
    go_wp2_with fail
    refine HK.out _ _ ?_;clear HK K;refine oneStep (fun K HK=>?_);simp only [PK]
    go_wp2_with fail
    refine HK.out _ _ ((Ab _).alloc _) ?_;clear HK K;refine badStep (by kernel_rfl) (fun K HK=>?_);simp only [PK];refine app1 E intFlen intOne rfl _ _ rfl (ifNum l[k].asn l[k].eg) rfl (Ay hown ((Ab _).drew.alloc _)) rfl (by exact Au (intF (ifNum l[k].asn l[k].eg)) (blk_new wr _)) (by omega) (by unfold maxLen;omega) (by exact(hx.drew.alloc _).size) ?_;intro v1 w1 ho1 hg1;have hx1:=Ext.app (hx.drew.alloc _) hg1 hown (Ae _);have os1:=OwnF.keptT (Ay hos ((Ab _).drew.alloc _)) (Ay hown ((Ab _).drew.alloc _)) (by decide) hg1;clear hg1
    go_wp2_with fail
    refine HK.out _ _ ?_;clear HK K;refine blkStep (fun K HK=>?_);simp only [PK]
    go_wp2_with fail
    refine HK.out _ _ ?_;clear HK K;refine Ap (by kernel_rfl) ?_
    rw [← HE.out] at ho1
    go_wp2_with fail
    go_roundg (gk - 1)
    case measure=>exact HG.out.2
    case rel=>exact⟨k+1,HG.out.1,by go_num,ho1,os1,hx1⟩
   cases h2:(l[k].eg != 0)
   ·
    have HE:=Ac (HS.out.trans (by rw [stepIfs_10 h1 h2]))
    go_wp2_with fail
    refine Ax (.blk [0,1,2,3,4,5,6,7,8,9,10,11,12] (.one 13 (.one 14 (.blk [15] .done)))) [14] (by kernel_rfl) (by kernel_rfl) ?_;refine blkStep (fun K HK=>?_);simp only [PK]
    go_wp2_with fail
    refine HK.out _ _ ?_;clear HK K;refine oneStep (fun K HK=>?_);simp only [PK]
    go_wp2_with fail
    refine HK.out _ _ ((Ab _).alloc _) ?_;clear HK K;refine badStep (by kernel_rfl) (fun K HK=>?_);simp only [PK];refine app1 E intFlen intOne rfl _ _ rfl (ifNum l[k].asn l[k].ing) rfl (Ay hown ((Ab _).drew.alloc _)) rfl (by exact Au (intF (ifNum l[k].asn l[k].ing)) (blk_new wr _)) (by omega) (by unfold maxLen;omega) (by exact(hx.drew.alloc _).size) ?_;intro v1 w1 ho1 hg1;have hx1:=Ext.app (hx.drew.alloc _) hg1 hown (Ae _);have os1:=OwnF.keptT (Ay hos ((Ab _).drew.alloc _)) (Ay hown ((Ab _).drew.alloc _)) (by decide) hg1;clear hg1
    go_wp2_with fail
    refine HK.out _ _ ?_;clear HK K;refine blkStep (fun K HK=>?_);simp only [PK]
    go_wp2_with fail
    refine HK.out _ _ ?_;clear HK K;refine Ap (by kernel_rfl) ?_
    rw [← HE.out] at ho1;have hc1:=Step.own_at os1 k hlt
    go_wp2_with fail
    go_roundg (gk - 1)
    case measure=>exact HG.out.2
    case rel=>exact⟨k+1,HG.out.1,by go_num,ho1,os1,hx1⟩
   have HE:=Ac (HS.out.trans (by rw [stepIfs_11 h1 h2,← List.append_assoc]))
   go_wp2_with fail
   refine Ax (.blk [0,1,2,3,4,5,6,7,8,9,10,11,12] (.one 13 (.one 14 (.blk [15] .done)))) [14] (by kernel_rfl) (by kernel_rfl) ?_;refine blkStep (fun K HK=>?_);simp only [PK]
   go_wp2_with fail
   refine HK.out _ _ ?_;clear HK K;refine oneStep (fun K HK=>?_);simp only [PK]
   go_wp2_with fail
   refine HK.out _ _ ((Ab _).alloc _) ?_;clear HK K;refine badStep (by kernel_rfl) (fun K HK=>?_);simp only [PK];refine app1 E intFlen intOne rfl _ _ rfl (ifNum l[k].asn l[k].ing) rfl (Ay hown ((Ab _).drew.alloc _)) rfl (by exact Au (intF (ifNum l[k].asn l[k].ing)) (blk_new wr _)) (by omega) (by unfold maxLen;omega) (by exact(hx.drew.alloc _).size) ?_;intro v1 w1 ho1 hg1;have hx1:=Ext.app (hx.drew.alloc _) hg1 hown (Ae _);have os1:=OwnF.keptT (Ay hos ((Ab _).drew.alloc _)) (Ay hown ((Ab _).drew.alloc _)) (by decide) hg1;clear hg1
   go_wp2_with fail
   refine HK.out _ _ ?_;clear HK K;refine blkStep (fun K HK=>?_);simp only [PK]
   go_wp2_with fail
   refine HK.out _ _ ?_;clear HK K;refine Ap (by kernel_rfl) ?_
   have hl1:(out ++ [ifNum l[k].asn l[k].ing]).length=out.length+1:=by simp
   have hc1:=Step.own_at os1 k hlt;clear hc
   go_wp2_with fail
   refine Ax (.blk [0,1,2,3,4,5,6,7,8,9,10,11,12] (.one 13 (.one 14 (.blk [15] .done)))) [14] (by kernel_rfl) (by kernel_rfl) ?_;refine blkStep (fun K HK=>?_);simp only [PK]
   go_wp2_with fail
   refine HK.out _ _ ?_;clear HK K;refine oneStep (fun K HK=>?_);simp only [PK]
   go_wp2_with fail
   refine HK.out _ _ ((Ab _).alloc _) ?_;clear HK K;refine badStep (by kernel_rfl) (fun K HK=>?_);simp only [PK];refine app1 E intFlen intOne rfl _ _ rfl (ifNum l[k].asn l[k].eg) rfl (Ay ho1 ((Ab _).drew.alloc _)) rfl (by exact Au (intF (ifNum l[k].asn l[k].eg)) (blk_new w1 _)) (by omega) (by unfold maxLen;omega) (by exact(hx1.drew.alloc _).size) ?_;intro v2 w2 ho2 hg2;have hx2:=Ext.app (hx1.drew.alloc _) hg2 ho1 (Ae _);have os2:=OwnF.keptT (Ay os1 ((Ab _).drew.alloc _)) (Ay ho1 ((Ab _).drew.alloc _)) (by decide) hg2;clear hg2
   go_wp2_with fail
   refine HK.out _ _ ?_;clear HK K;refine blkStep (fun K HK=>?_);simp only [PK]
   go_wp2_with fail
   refine HK.out _ _ ?_;clear HK K;refine Ap (by kernel_rfl) ?_
   rw [← HE.out] at ho2
   go_wp2_with fail
   go_roundg (gk - 1)
   case measure=>exact HG.out.2
   case rel=>exact⟨k+1,HG.out.1,by go_num,ho2,os2,hx2⟩
  rw [List.take_of_length_le (by omega)] at hown
  go_wp2
  go_ret
  rw [HL.out];exact⟨_,rfl,hown,hx⟩
theorem i_Endpoints (x:Pth) (v:Value) (w:World) (r:RdS Part.rep w v x.parts) (hl:x.size≤1048576) :
  Calls Tryz.prog 68 #[.agg #[v]] w fun e w'=>e=.returned (.tuple #[.int .i64 (ends x.parts).1,.int .i64 (ends x.parts).2])∧Ext w w':=by
 obtain⟨o,cap,rfl,hsm⟩:=r.shape;have hx0:Ext w (w.alloc (.cells #[.slice o x.parts.length cap] 30)):=(Ab _).alloc _
 go_enter Tryz.func68,Tryz.ntmps68
 go_wp2_with fail
 refine(i_PathSteps x _ _ (r.ext hx0) hl).mono ?_;rintro e w1 ⟨v1,rfl,o1,h1⟩;have hx1:=hx0.trans h1;obtain⟨so,sc,rfl,hss⟩:=(Bb (hf:=Bu) o1).shape
 by_cases hn0:0<(pathSteps x.parts).length
 ·
  have he:ends x.parts=endsOf (pathSteps x.parts):=rfl;have HE:=Ac he;clear he;generalize pathSteps x.parts=out at *;obtain⟨g,cap2,hv2,_,_⟩:=o1.some_shape hn0
  cases hv2
  have q1:((out.length:Int) == 0)=false:=by rw [beq_eq_false_iff_ne];omega
  have q2:(0:Int)≤(out.length:Int) - 1:=by omega
  have q5:(out.length:Int) - 1<(out.length:Int):=by omega
  have q4:((out.length:Int) - 1).toNat=out.length - 1:=by omega
  have q6:(0:Int)<(out.length:Int):=by omega
  have q7:IntKind.i64.wrap ((out.length:Int) - 1)=(out.length:Int) - 1:=IntWalk.i64_in _ (by omega);have hos:=Step.own_at o1 (out.length - 1) (by omega);have hos0:=Step.own_at o1 0 hn0;simp only [Nat.zero_mul,Nat.zero_add] at hos0
  go_wp2_with fail
  go_quiet (fail)
  go_wp2_with fail
  go_ret2
  rw [HE.out,endsOf_at hn0];exact⟨rfl,hx1.drewN _⟩
 have he:ends x.parts=(-1,-1):=endsOf_nil (by omega);have HE:=Ac he;clear he;generalize pathSteps x.parts=out at *;have q1:((out.length:Int) == 0)=true:=by rw [beq_iff_eq];omega
 go_wp2_with fail
 go_ret2
 rw [HE.out];exact⟨rfl,hx1⟩
theorem s_Endpoints (x:Pth) (v:Value) (w:World) (r:RdS Part.rep w v x.parts) (hl:x.size≤1048576) :
  Calls Tryz.prog 130 #[.agg #[v]] w fun e w'=>e=.returned (.tuple #[.int .i64 (ends x.parts).1,.int .i64 (ends x.parts).2])∧Ext w w':=by
 obtain⟨o,cap,rfl,hsm⟩:=r.shape;have hx0:Ext w (w.alloc (.cells #[.slice o x.parts.length cap] 30)):=(Ab _).alloc _
 go_enter Tryz.func130,Tryz.ntmps130
 go_wp2_with fail
 refine(s_PathSteps x _ _ (r.ext hx0) hl).mono ?_;rintro e w1 ⟨v1,rfl,o1,h1⟩;have hx1:=hx0.trans h1;obtain⟨so,sc,rfl,hss⟩:=(Bb (hf:=Bu) o1).shape
 by_cases hn0:0<(pathSteps x.parts).length
 ·
  have he:ends x.parts=endsOf (pathSteps x.parts):=rfl;have HE:=Ac he;clear he;generalize pathSteps x.parts=out at *;obtain⟨g,cap2,hv2,_,_⟩:=o1.some_shape hn0
  cases hv2
  have q1:((out.length:Int) == 0)=false:=by rw [beq_eq_false_iff_ne];omega
  have q2:(0:Int)≤(out.length:Int) - 1:=by omega
  have q5:(out.length:Int) - 1<(out.length:Int):=by omega
  have q4:((out.length:Int) - 1).toNat=out.length - 1:=by omega
  have q6:(0:Int)<(out.length:Int):=by omega
  have q7:IntKind.i64.wrap ((out.length:Int) - 1)=(out.length:Int) - 1:=IntWalk.i64_in _ (by omega);have hos:=Step.own_at o1 (out.length - 1) (by omega);have hos0:=Step.own_at o1 0 hn0;simp only [Nat.zero_mul,Nat.zero_add] at hos0
  go_wp2_with fail
  go_quiet (fail)
  go_wp2_with fail
  go_ret2
  rw [HE.out,endsOf_at hn0];exact⟨rfl,hx1.drewN _⟩
 have he:ends x.parts=(-1,-1):=endsOf_nil (by omega);have HE:=Ac he;clear he;generalize pathSteps x.parts=out at *;have q1:((out.length:Int) == 0)=true:=by rw [beq_iff_eq];omega
 go_wp2_with fail
 go_ret2
 rw [HE.out];exact⟨rfl,hx1⟩
def beta0:List Part→Int
 | [] => 0
 | x :: _ => x.beta
theorem beta0_at {l:List Part} (h:0<l.length):beta0 l=l[0].beta:=by
 cases l with
 | nil => cases h
 | cons x l => rfl
theorem beta0_nil {l:List Part} (h:¬ 0<l.length):beta0 l=0:=by
 cases l with
 | nil => rfl
 | cons x l => exact absurd (by simp) h
def newPkt (kind:Int) (p:Pth) (rid seq:Int) (pay:List Int):Pkt:=⟨kind,(ends p.parts).1,(ends p.parts).2,p,0,0,beta0 p.parts,rid,seq,pay⟩
theorem newPkt_size (kind:Int) (p:Pth) (rid seq:Int) (pay:List Int):(newPkt kind p rid seq pay).size=p.size+pay.length:=rfl
theorem i_NewPacket (kind:Int) (p:Pth) (v:Value) (rid seq:Int) (pay:List Int) (vp:Value) (w:World) (r:RdS Part.rep w v p.parts) (rp:RdS Rep.byte w vp pay) (hl:p.size≤1048576) (hp:pay.length≤1048576) :
  Calls Tryz.prog 23 #[.int .i64 kind,.agg #[v],.int .i64 rid,.int .i64 seq,vp] w fun e w'=>∃ u0 u1,e=.returned (.agg #[.int .i64 (newPkt kind p rid seq pay).kind,.int .i64 (newPkt kind p rid seq pay).src,.int .i64 (newPkt kind p rid seq pay).dst,u0,.int .i64 (newPkt kind p rid seq pay).pi,.int .i64 (newPkt kind p rid seq pay).hi,.int .i64 (newPkt kind p rid seq pay).beta,.int .i64 (newPkt kind p rid seq pay).rid,.int .i64 (newPkt kind p rid seq pay).seq,u1])∧Pkt.own (rng w.heap.size w'.heap.size) w' u0 u1 (newPkt kind p rid seq pay)∧Ext w w':=by
 obtain⟨oq,cq,rfl,_⟩:=r.shape;obtain⟨hx0,HB⟩:=ea2 w (.cells #[.slice oq p.parts.length cq] 30) (.cells #[.int .i64 0,.int .i64 0,.int .i64 0,.slice none 0 0,.int .i64 0,.int .i64 0,.int .i64 0,.int .i64 0,.int .i64 0,.slice none 0 0] 35);replace HB:=Ac HB
 go_enter Tryz.func23,Tryz.ntmps23
 go_wp2_with fail
 refine(i_copyPath p _ _ (r.ext hx0) hl).mono ?_;rintro e w1 ⟨u1,rfl,o1',h1⟩;obtain⟨o1,c1,rfl,_⟩:=(Bs o1').shape;have hs1:=h1.size;simp only [nblk_alloc] at hs1 o1';have hX1:=hx0.trans h1
 go_wp2_with fail
 refine(i_copyBytes pay _ _ (rp.ext hX1) (by omega)).mono ?_;rintro e w2 ⟨u2,rfl,o2',h2⟩;obtain⟨o2,c2,rfl,_⟩:=(Bb (hf:=byteFlen) o2').shape;have hs2:=h2.size;have hX2:=hX1.trans h2;have hcb:=blk1 (Aa (h1.trans h2) HB.out.1);obtain⟨hxp,HP⟩:=ea1 w2 (.cells #[.int .i64 kind,.int .i64 0,.int .i64 0,.slice o1 p.parts.length c1,.int .i64 0,.int .i64 0,.int .i64 0,.int .i64 rid,.int .i64 seq,.slice o2 pay.length c2] 35);replace HP:=Ac HP;have hcb2:=blk1 (Aa ((h1.trans h2).trans hxp) HB.out.1);have O1':=Ac (Aj o1' (h2.trans hxp));have O2':=Ac (Aj (Own.ofF (hf:=byteFlen) o2') hxp);clear o1' o2'
 go_wp2_with fail
 refine(i_Endpoints p _ _ (r.ext (hX2.trans hxp)) hl).mono ?_;rintro e w4 ⟨rfl,h4⟩;have O1:=Ac (Aj O1'.out h4);have O2:=Ac (Aj O2'.out h4);clear O1' O2';have hX4:=(hX2.trans hxp).trans h4;have hbP:=h4.block HP.out;have hbR:=Aa ((h1.trans h2).trans (hxp.trans h4)) HB.out.2;have hcb4:=blk1 (Aa ((h1.trans h2).trans (hxp.trans h4)) HB.out.1);have hs4:w2.heap.size<w4.heap.size:=blk_lt hbP;have cP:=blk10 hbP;have cR:=blk10 hbR;have gR0:=fr10 hbR;have gP1:=fr_of hbP 1;have gP2:=fr_of hbP 2;have gP6:=fr_of hbP 6;clear hbP hbR
 by_cases hn:0<p.parts.length
 ·
  have hbo:=Bx r 0 hn;obtain⟨b,off,oh,ch,rfl,hc,_⟩:=Bx (r.ext hX4) 0 hn;have hcz:=hc;simp only [Nat.zero_mul,Nat.add_zero] at hc;have HBT:=Ac (beta0_at hn);have hn0:(0:Int)<(p.parts.length:Int):=by omega
  have hbo:b<w.heap.size:=by
   obtain⟨b',off',oh',ch',e',hc',_⟩:=hbo
   cases e'
   exact World.block_lt_of_cell? w ⟨b,off+0 * 4,none⟩ hc'.1
  have hne:b≠w2.heap.size:=by omega
  go_wp2_with fail
  refine bodyPost_ret (by simp [results,Tryz.results23,go_sem,cR];rfl) rfl ?_;unfold newPkt;rw [HBT.out];refine⟨_,_,rfl,⟨_,_,Part.own.kept (T:=fun b=>b=w.heap.size+1∨b=w2.heap.size) O1.out ?_ (fun b hb e=>by have h1:=hb.1;have h2:=hb.2;omega),byteOwn.kept (T:=fun b=>b=w.heap.size+1∨b=w2.heap.size) O2.out ?_ (fun b hb e=>by have h1:=hb.1;have h2:=hb.2;omega),?_,?_,?_⟩,?_⟩
  ·
   have q (b:Nat) (hb:b=w.heap.size+1∨b=w2.heap.size) (o:Nat) (u:Value) {wq:World} (h:Chg (fun b=>b=w.heap.size+1∨b=w2.heap.size) w4 wq):=Chg.setCell (p:=⟨b,o,none⟩) h hb u;exact q _ (by omega) _ _ (q _ (by omega) _ _ (q _ (by omega) _ _ (q _ (by omega) _ _ (q _ (by omega) _ _ (q _ (by omega) _ _ (q _ (by omega) _ _ (q _ (by omega) _ _ (q _ (by omega) _ _ (q _ (by omega) _ _ (q _ (by omega) _ _ (q _ (by omega) _ _ (q _ (by omega) _ _ (Bq _ w4)))))))))))))
  ·
   have q (b:Nat) (hb:b=w.heap.size+1∨b=w2.heap.size) (o:Nat) (u:Value) {wq:World} (h:Chg (fun b=>b=w.heap.size+1∨b=w2.heap.size) w4 wq):=Chg.setCell (p:=⟨b,o,none⟩) h hb u;exact q _ (by omega) _ _ (q _ (by omega) _ _ (q _ (by omega) _ _ (q _ (by omega) _ _ (q _ (by omega) _ _ (q _ (by omega) _ _ (q _ (by omega) _ _ (q _ (by omega) _ _ (q _ (by omega) _ _ (q _ (by omega) _ _ (q _ (by omega) _ _ (q _ (by omega) _ _ (q _ (by omega) _ _ (Bq _ w4)))))))))))))
  ·
   intro b hb;have h1:=hb.1;have h2:=hb.2;refine⟨by omega,?_⟩
   simp
   omega
  ·
   intro b hb;have h1:=hb.1;have h2:=hb.2;refine⟨by omega,?_⟩
   simp
   omega
  ·
   intro b hb h2;have h3:=hb.2;have h4:=h2.1;omega
  have q (b:Nat) (hb:w.heap.size≤b) (o:Nat) (u:Value) {wq:World} (h:Ext w wq):=Ext.setCell (p:=⟨b,o,none⟩) h hb u;exact q _ (by omega) _ _ (q _ (by omega) _ _ (q _ (by omega) _ _ (q _ (by omega) _ _ (q _ (by omega) _ _ (q _ (by omega) _ _ (q _ (by omega) _ _ (q _ (by omega) _ _ (q _ (by omega) _ _ (q _ (by omega) _ _ (q _ (by omega) _ _ (q _ (by omega) _ _ (q _ (by omega) _ _ hX4))))))))))))
 have HBT:=Ac (beta0_nil hn);have hn0:¬ (0:Int)<(p.parts.length:Int):=by omega
 go_wp2_with fail
 refine bodyPost_ret (by simp [results,Tryz.results23,go_sem,cR];rfl) rfl ?_;unfold newPkt;rw [HBT.out];refine⟨_,_,rfl,⟨_,_,Part.own.kept (T:=fun b=>b=w.heap.size+1∨b=w2.heap.size) O1.out ?_ (fun b hb e=>by have h1:=hb.1;have h2:=hb.2;omega),byteOwn.kept (T:=fun b=>b=w.heap.size+1∨b=w2.heap.size) O2.out ?_ (fun b hb e=>by have h1:=hb.1;have h2:=hb.2;omega),?_,?_,?_⟩,?_⟩
 ·
  have q (b:Nat) (hb:b=w.heap.size+1∨b=w2.heap.size) (o:Nat) (u:Value) {wq:World} (h:Chg (fun b=>b=w.heap.size+1∨b=w2.heap.size) w4 wq):=Chg.setCell (p:=⟨b,o,none⟩) h hb u;exact q _ (by omega) _ _ (q _ (by omega) _ _ (q _ (by omega) _ _ (q _ (by omega) _ _ (q _ (by omega) _ _ (q _ (by omega) _ _ (q _ (by omega) _ _ (q _ (by omega) _ _ (q _ (by omega) _ _ (q _ (by omega) _ _ (q _ (by omega) _ _ (q _ (by omega) _ _ (Bq _ w4))))))))))))
 ·
  have q (b:Nat) (hb:b=w.heap.size+1∨b=w2.heap.size) (o:Nat) (u:Value) {wq:World} (h:Chg (fun b=>b=w.heap.size+1∨b=w2.heap.size) w4 wq):=Chg.setCell (p:=⟨b,o,none⟩) h hb u;exact q _ (by omega) _ _ (q _ (by omega) _ _ (q _ (by omega) _ _ (q _ (by omega) _ _ (q _ (by omega) _ _ (q _ (by omega) _ _ (q _ (by omega) _ _ (q _ (by omega) _ _ (q _ (by omega) _ _ (q _ (by omega) _ _ (q _ (by omega) _ _ (q _ (by omega) _ _ (Bq _ w4))))))))))))
 ·
  intro b hb;have h1:=hb.1;have h2:=hb.2;refine⟨by omega,?_⟩
  simp
  omega
 ·
  intro b hb;have h1:=hb.1;have h2:=hb.2;refine⟨by omega,?_⟩
  simp
  omega
 ·
  intro b hb h2;have h3:=hb.2;have h4:=h2.1;omega
 have q (b:Nat) (hb:w.heap.size≤b) (o:Nat) (u:Value) {wq:World} (h:Ext w wq):=Ext.setCell (p:=⟨b,o,none⟩) h hb u;exact q _ (by omega) _ _ (q _ (by omega) _ _ (q _ (by omega) _ _ (q _ (by omega) _ _ (q _ (by omega) _ _ (q _ (by omega) _ _ (q _ (by omega) _ _ (q _ (by omega) _ _ (q _ (by omega) _ _ (q _ (by omega) _ _ (q _ (by omega) _ _ (q _ (by omega) _ _ hX4)))))))))))
theorem s_NewPacket (kind:Int) (p:Pth) (v:Value) (rid seq:Int) (pay:List Int) (vp:Value) (w:World) (r:RdS Part.rep w v p.parts) (rp:RdS Rep.byte w vp pay) (hl:p.size≤1048576) (hp:pay.length≤1048576) :
  Calls Tryz.prog 80 #[.int .i64 kind,.agg #[v],.int .i64 rid,.int .i64 seq,vp] w fun e w'=>∃ u0 u1,e=.returned (.agg #[.int .i64 (newPkt kind p rid seq pay).kind,.int .i64 (newPkt kind p rid seq pay).src,.int .i64 (newPkt kind p rid seq pay).dst,u0,.int .i64 (newPkt kind p rid seq pay).pi,.int .i64 (newPkt kind p rid seq pay).hi,.int .i64 (newPkt kind p rid seq pay).beta,.int .i64 (newPkt kind p rid seq pay).rid,.int .i64 (newPkt kind p rid seq pay).seq,u1])∧Pkt.own (rng w.heap.size w'.heap.size) w' u0 u1 (newPkt kind p rid seq pay)∧Ext w w':=by
 obtain⟨oq,cq,rfl,_⟩:=r.shape;obtain⟨hx0,HB⟩:=ea2 w (.cells #[.slice oq p.parts.length cq] 30) (.cells #[.int .i64 0,.int .i64 0,.int .i64 0,.slice none 0 0,.int .i64 0,.int .i64 0,.int .i64 0,.int .i64 0,.int .i64 0,.slice none 0 0] 35);replace HB:=Ac HB
 go_enter Tryz.func80,Tryz.ntmps80
 go_wp2_with fail
 refine(s_Endpoints p _ _ (r.ext hx0) hl).mono ?_;rintro e w1 ⟨rfl,h1⟩;have hs1:=h1.size;simp only [nblk_alloc] at hs1;have hX1:=hx0.trans h1;have hcb1:=blk1 (Aa h1 HB.out.1)
 go_wp2_with fail
 refine(s_l22Copy p _ _ (r.ext hX1) hl).mono ?_;rintro e w2 ⟨u1,rfl,o1',h2⟩;obtain⟨o1,c1,rfl,_⟩:=(Bs o1').shape;have hs2:=h2.size;have hX2:=hX1.trans h2;obtain⟨E⟩:=elemByte;have hoe:=Bj byteF 1 w2.heap.size 5 w2 (Ae _);have hrp:=rp.ext (hX2.alloc (.cells #[] 5))
 go_wp2_with (at_builtin;refine appS E byteFlen byteOne rfl _ _ rfl pay rfl hoe rfl hrp (by first | omega | (simp;omega)) (by first | (unfold maxLen;omega) | (simp [maxLen];omega)) (by simp) ?_)
 intro v3 w3 o3 hg3
 try rw [List.nil_append] at o3
 have h3:Ext w2 w3:=((Ab w2).alloc _).app hg3 hoe (Ae _);clear hg3 hoe hrp;obtain⟨o2,c2,rfl,_⟩:=(Bb (hf:=byteFlen) o3).shape;have hs3:=h3.size;have hX3:=hX2.trans h3;have O1':=Ac (Aj o1' h3);have O2':=Ac (Own.ofF (hf:=byteFlen) o3);clear o1' o3;have hbR3:=Aa ((h1.trans h2).trans h3) HB.out.2;have hsR:w.heap.size+1<w3.heap.size:=blk_lt hbR3;have hcb3:=blk1 (Aa ((h1.trans h2).trans h3) HB.out.1);have hcb4:=blk1 (Aa (((h1.trans h2).trans h3).alloc (.cells #[.int .i64 kind,.int .i64 (ends p.parts).1,.int .i64 (ends p.parts).2,.slice o1 p.parts.length c1,.int .i64 0,.int .i64 0,.int .i64 0,.int .i64 rid,.int .i64 seq,.slice o2 pay.length c2] 35)) HB.out.1)
 by_cases hn:0<p.parts.length
 ·
  have hbo:=Bx r 0 hn;obtain⟨b,off,oh,ch,rfl,hc,_⟩:=Bx (r.ext hX3) 0 hn;have hcz:=hc;simp only [Nat.zero_mul,Nat.add_zero] at hc;have HBT:=Ac (beta0_at hn);have hn0:(0:Int)<(p.parts.length:Int):=by omega
  have hbo:b<w.heap.size:=by
   obtain⟨b',off',oh',ch',e',hc',_⟩:=hbo
   cases e'
   exact World.block_lt_of_cell? w ⟨b,off+0 * 4,none⟩ hc'.1
  have hne:b≠w3.heap.size:=by omega
  have key:∃ w5,w5=((((((((((w3.setCell ⟨w.heap.size+1,0,none⟩ (.int .i64 kind)).setCell ⟨w.heap.size+1,1,none⟩ (.int .i64 (ends p.parts).1)).setCell ⟨w.heap.size+1,2,none⟩ (.int .i64 (ends p.parts).2)).setCell ⟨w.heap.size+1,3,none⟩ (.slice o1 p.parts.length c1)).setCell ⟨w.heap.size+1,4,none⟩ (.int .i64 0)).setCell ⟨w.heap.size+1,5,none⟩ (.int .i64 0)).setCell ⟨w.heap.size+1,6,none⟩ (.int .i64 p.parts[0].beta)).setCell ⟨w.heap.size+1,7,none⟩ (.int .i64 rid)).setCell ⟨w.heap.size+1,8,none⟩ (.int .i64 seq)).setCell ⟨w.heap.size+1,9,none⟩ (.slice o2 pay.length c2))∧w5.heap[w.heap.size+1]?=some (.cells #[.int .i64 kind,.int .i64 (ends p.parts).1,.int .i64 (ends p.parts).2,.slice o1 p.parts.length c1,.int .i64 0,.int .i64 0,.int .i64 p.parts[0].beta,.int .i64 rid,.int .i64 seq,.slice o2 pay.length c2] 35)∧Part.own.own (rng w1.heap.size w2.heap.size) w5 (.slice o1 p.parts.length c1) p.parts∧byteOwn.own (rng w2.heap.size w3.heap.size) w5 (.slice o2 pay.length c2) pay∧Ext w w5∧w5.heap.size=w3.heap.size:=by
   have hC:Chg (fun b=>b=w.heap.size+1) w3 ((((((((((w3.setCell ⟨w.heap.size+1,0,none⟩ (.int .i64 kind)).setCell ⟨w.heap.size+1,1,none⟩ (.int .i64 (ends p.parts).1)).setCell ⟨w.heap.size+1,2,none⟩ (.int .i64 (ends p.parts).2)).setCell ⟨w.heap.size+1,3,none⟩ (.slice o1 p.parts.length c1)).setCell ⟨w.heap.size+1,4,none⟩ (.int .i64 0)).setCell ⟨w.heap.size+1,5,none⟩ (.int .i64 0)).setCell ⟨w.heap.size+1,6,none⟩ (.int .i64 p.parts[0].beta)).setCell ⟨w.heap.size+1,7,none⟩ (.int .i64 rid)).setCell ⟨w.heap.size+1,8,none⟩ (.int .i64 seq)).setCell ⟨w.heap.size+1,9,none⟩ (.slice o2 pay.length c2)):=by
    have q (o:Nat) (u:Value) {wq:World} (h:Chg (fun b=>b=w.heap.size+1) w3 wq):=Chg.setCell (p:=⟨w.heap.size+1,o,none⟩) h rfl u;exact q _ _ (q _ _ (q _ _ (q _ _ (q _ _ (q _ _ (q _ _ (q _ _ (q _ _ (q _ _ (Bq _ w3))))))))))
   refine⟨_,rfl,?_,Part.own.kept O1'.out hC (fun b hb e=>by have h1:=hb.1;omega),byteOwn.kept O2'.out hC (fun b hb e=>by have h1:=hb.1;omega),?_,by simp⟩
   ·
    have:=(blk_set (blk_set (blk_set (blk_set (blk_set (blk_set (blk_set (blk_set (blk_set (blk_set hbR3 0 (.int .i64 kind)) 1 (.int .i64 (ends p.parts).1)) 2 (.int .i64 (ends p.parts).2)) 3 (.slice o1 p.parts.length c1)) 4 (.int .i64 0)) 5 (.int .i64 0)) 6 (.int .i64 p.parts[0].beta)) 7 (.int .i64 rid)) 8 (.int .i64 seq)) 9 (.slice o2 pay.length c2))
    simpa using this
   have q (o:Nat) (u:Value) {wq:World} (h:Ext w wq):=Ext.setCell (p:=⟨w.heap.size+1,o,none⟩) h (show w.heap.size≤w.heap.size+1 by omega) u;exact q _ _ (q _ _ (q _ _ (q _ _ (q _ _ (q _ _ (q _ _ (q _ _ (q _ _ (q _ _ hX3)))))))))
  obtain⟨w5,hw5,hb5,O1,O2,hx5,hz5⟩:=key;have HW5:=Ac hw5;clear hw5;have c5:=Ac (blk10 (Aa ((Ab w5).alloc (.cells #[.int .i64 kind,.int .i64 (ends p.parts).1,.int .i64 (ends p.parts).2,.slice o1 p.parts.length c1,.int .i64 0,.int .i64 0,.int .i64 p.parts[0].beta,.int .i64 rid,.int .i64 seq,.slice o2 pay.length c2] 35)) hb5));clear hb5;have cR3:=blk10 hbR3;have gS0:=fr10 hbR3;have hc1:=Ag (k:=0) ((Ab w3).alloc (.cells #[.int .i64 kind,.int .i64 (ends p.parts).1,.int .i64 (ends p.parts).2,.slice o1 p.parts.length c1,.int .i64 0,.int .i64 0,.int .i64 0,.int .i64 rid,.int .i64 seq,.slice o2 pay.length c2] 35)) hcz;simp only [Nat.zero_mul,Nat.add_zero] at hc1
  go_wp2_with fail
  rw [← HW5.out];clear cR3 gS0;have cc:=c5.out;refine bodyPost_ret (by simp [results,Tryz.results80,go_sem,cc];rfl) rfl ?_;unfold newPkt;rw [HBT.out];refine⟨_,_,rfl,⟨_,_,Aj O1 ((Ab w5).alloc _),Aj O2 ((Ab w5).alloc _),?_,?_,?_⟩,hx5.alloc _⟩
  ·
   intro b hb;have h1:=hb.1;have h2:=hb.2;refine⟨by omega,?_⟩
   simp
   omega
  ·
   intro b hb;have h1:=hb.1;have h2:=hb.2;refine⟨by omega,?_⟩
   simp
   omega
  intro b hb h2;have h3:=hb.2;have h4:=h2.1;omega
 have HBT:=Ac (beta0_nil hn);have hn0:¬ (0:Int)<(p.parts.length:Int):=by omega
 have key:∃ w5,w5=((((((((((w3.setCell ⟨w.heap.size+1,0,none⟩ (.int .i64 kind)).setCell ⟨w.heap.size+1,1,none⟩ (.int .i64 (ends p.parts).1)).setCell ⟨w.heap.size+1,2,none⟩ (.int .i64 (ends p.parts).2)).setCell ⟨w.heap.size+1,3,none⟩ (.slice o1 p.parts.length c1)).setCell ⟨w.heap.size+1,4,none⟩ (.int .i64 0)).setCell ⟨w.heap.size+1,5,none⟩ (.int .i64 0)).setCell ⟨w.heap.size+1,6,none⟩ (.int .i64 0)).setCell ⟨w.heap.size+1,7,none⟩ (.int .i64 rid)).setCell ⟨w.heap.size+1,8,none⟩ (.int .i64 seq)).setCell ⟨w.heap.size+1,9,none⟩ (.slice o2 pay.length c2))∧w5.heap[w.heap.size+1]?=some (.cells #[.int .i64 kind,.int .i64 (ends p.parts).1,.int .i64 (ends p.parts).2,.slice o1 p.parts.length c1,.int .i64 0,.int .i64 0,.int .i64 0,.int .i64 rid,.int .i64 seq,.slice o2 pay.length c2] 35)∧Part.own.own (rng w1.heap.size w2.heap.size) w5 (.slice o1 p.parts.length c1) p.parts∧byteOwn.own (rng w2.heap.size w3.heap.size) w5 (.slice o2 pay.length c2) pay∧Ext w w5∧w5.heap.size=w3.heap.size:=by
  have hC:Chg (fun b=>b=w.heap.size+1) w3 ((((((((((w3.setCell ⟨w.heap.size+1,0,none⟩ (.int .i64 kind)).setCell ⟨w.heap.size+1,1,none⟩ (.int .i64 (ends p.parts).1)).setCell ⟨w.heap.size+1,2,none⟩ (.int .i64 (ends p.parts).2)).setCell ⟨w.heap.size+1,3,none⟩ (.slice o1 p.parts.length c1)).setCell ⟨w.heap.size+1,4,none⟩ (.int .i64 0)).setCell ⟨w.heap.size+1,5,none⟩ (.int .i64 0)).setCell ⟨w.heap.size+1,6,none⟩ (.int .i64 0)).setCell ⟨w.heap.size+1,7,none⟩ (.int .i64 rid)).setCell ⟨w.heap.size+1,8,none⟩ (.int .i64 seq)).setCell ⟨w.heap.size+1,9,none⟩ (.slice o2 pay.length c2)):=by
   have q (o:Nat) (u:Value) {wq:World} (h:Chg (fun b=>b=w.heap.size+1) w3 wq):=Chg.setCell (p:=⟨w.heap.size+1,o,none⟩) h rfl u;exact q _ _ (q _ _ (q _ _ (q _ _ (q _ _ (q _ _ (q _ _ (q _ _ (q _ _ (q _ _ (Bq _ w3))))))))))
  refine⟨_,rfl,?_,Part.own.kept O1'.out hC (fun b hb e=>by have h1:=hb.1;omega),byteOwn.kept O2'.out hC (fun b hb e=>by have h1:=hb.1;omega),?_,by simp⟩
  ·
   have:=(blk_set (blk_set (blk_set (blk_set (blk_set (blk_set (blk_set (blk_set (blk_set (blk_set hbR3 0 (.int .i64 kind)) 1 (.int .i64 (ends p.parts).1)) 2 (.int .i64 (ends p.parts).2)) 3 (.slice o1 p.parts.length c1)) 4 (.int .i64 0)) 5 (.int .i64 0)) 6 (.int .i64 0)) 7 (.int .i64 rid)) 8 (.int .i64 seq)) 9 (.slice o2 pay.length c2))
   simpa using this
  have q (o:Nat) (u:Value) {wq:World} (h:Ext w wq):=Ext.setCell (p:=⟨w.heap.size+1,o,none⟩) h (show w.heap.size≤w.heap.size+1 by omega) u;exact q _ _ (q _ _ (q _ _ (q _ _ (q _ _ (q _ _ (q _ _ (q _ _ (q _ _ (q _ _ hX3)))))))))
 obtain⟨w5,hw5,hb5,O1,O2,hx5,hz5⟩:=key;have HW5:=Ac hw5;clear hw5;have c5:=Ac (blk10 (Aa ((Ab w5).alloc (.cells #[.int .i64 kind,.int .i64 (ends p.parts).1,.int .i64 (ends p.parts).2,.slice o1 p.parts.length c1,.int .i64 0,.int .i64 0,.int .i64 0,.int .i64 rid,.int .i64 seq,.slice o2 pay.length c2] 35)) hb5));clear hb5;have cR3:=blk10 hbR3;have gS0:=fr10 hbR3
 go_wp2_with fail
 rw [← HW5.out];clear cR3 gS0;have cc:=c5.out;refine bodyPost_ret (by simp [results,Tryz.results80,go_sem,cc];rfl) rfl ?_;unfold newPkt;rw [HBT.out];refine⟨_,_,rfl,⟨_,_,Aj O1 ((Ab w5).alloc _),Aj O2 ((Ab w5).alloc _),?_,?_,?_⟩,hx5.alloc _⟩
 ·
  intro b hb;have h1:=hb.1;have h2:=hb.2;refine⟨by omega,?_⟩
  simp
  omega
 ·
  intro b hb;have h1:=hb.1;have h2:=hb.2;refine⟨by omega,?_⟩
  simp
  omega
 intro b hb h2;have h3:=hb.2;have h4:=h2.1;omega
end
end Go.Proofs.YteodlcpeoaggbaaGreat
