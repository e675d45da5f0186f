/- What these laws need: FnWalks: Contracts of the texts of steps and traces, program and reference. -/
import Derived.Test.YteodlcpeoaggbaaGreatKV41
namespace Go.Proofs.YteodlcpeoaggbaaGreat
section
open Go.ChangeShapes Go.WideShapes Go.ChangeAt Go.RowKit Go.Deep
set_option maxRecDepth 100000
set_option maxHeartbeats 8000000
def strF (l:List Int):List Value:=[.string (strOfNums l)]
theorem strFlen (l:List Int):(strF l).length=1:=rfl
theorem strOne (l:List Int):∀ u∈strF l,u.oneCell'=true:=by
 intro u hu;simp only [strF,List.mem_cons,List.not_mem_nil,or_false] at hu;rw [hu];rfl
abbrev strRep:Rep (List Int):=Rep.flat 1 strF strFlen
theorem strs_rep {base:Nat} {e:TypeId} {w:World} {v:Value} {l:List (List Int)} (h:OwnF strF 1 base e w v l):RdS strRep w v l:=Bb (hf:=strFlen) h
theorem Tryz.infoStr:(Tryz.prog.info? 9).map (fun i=>(i.zero,i.size,i.bytes))=some (some (.string ⟨#[]⟩),1,16):=by kernel_rfl
theorem elemStr:Nonempty (Elem Tryz.prog 89 9 1 16):=Elem.mk' Tryz.underlying89 Tryz.infoStr rfl (by decide)
theorem cell3_ext {w w':World} (x:Ext w w') {p0 p1 p2:Addr} {a b c:Value} (h:w.cell? p0=some a∧w.cell? p1=some b∧w.cell? p2=some c):w'.cell? p0=some a∧w'.cell? p1=some b∧w'.cell? p2=some c:=⟨By x h.1,By x h.2.1,By x h.2.2⟩
theorem str62 (A B C:List Int):strOfNums A ++ ByteArray.mk #[62] ++ strOfNums B ++ ByteArray.mk #[62] ++ strOfNums C=strOfNums (A ++ [62] ++ B ++ [62] ++ C):=by
 rw [strOf_app,strOf_app,strOf_app,strOf_app];rfl
theorem str32 (S A B C:List Int):strOfNums S ++ ByteArray.mk #[32] ++ strOfNums A ++ ByteArray.mk #[62] ++ strOfNums B ++ ByteArray.mk #[62] ++ strOfNums C=strOfNums (S ++ (32 :: (A ++ [62] ++ B ++ [62] ++ C))):=by
 rw [show S ++ (32 :: (A ++ [62] ++ B ++ [62] ++ C))=S ++ [32] ++ A ++ [62] ++ B ++ [62] ++ C by simp];rw [strOf_app,strOf_app,strOf_app,strOf_app,strOf_app,strOf_app];rfl
theorem asB_len (t:Topo) (r:Int):(asB t r).length≤45:=by
 have h1:=fmtB_len (asAt t r).isd;have h2:=fmtB_len r;unfold asB;split <;> simp <;> omega
theorem stepB_len (t:Topo) (s:Step):(stepB t s).length≤91:=by
 have h1:=fmtB_len s.ing;have h2:=fmtB_len s.eg;have h3:=asB_len t s.asn;unfold stepB;simp;omega
theorem verdictB_len (n:Int):(verdictB n).length≤9:=by
 unfold verdictB
 repeat (first | split | simp)
theorem stepsB_len (t:Topo) (l:List Step):(stepsB t l).length≤92 * l.length:=by
 induction l with
 | nil => simp [stepsB]
 | cons s l ih =>
  have h1:=stepB_len t s;have h2:stepsB t (s :: l)=(32 :: stepB t s) ++ stepsB t l:=rfl;rw [h2];simp only [List.length_append,List.length_cons];omega
theorem stepsB_snoc {t:Topo} {l:List Step} {k:Nat} (h:k<l.length):stepsB t (l.take (k+1))=stepsB t (l.take k) ++ (32 :: stepB t l[k]):=by
 rw [List.take_succ_eq_append_getElem h];unfold stepsB;rw [List.flatMap_append]
 simp
def jn (sep:List Int):List (List Int)→List Int
 | [] => []
 | x :: xs => x ++ xs.flatMap (fun y => sep ++ y)
theorem jn_snoc {sep x:List Int}:∀ {l:List (List Int)},0<l.length→jn sep (l ++ [x])=jn sep l ++ sep ++ x
 | y :: ys, _ => by simp [jn, List.flatMap_append]
theorem jn_len {sep:List Int} (hs:sep.length≤10):∀ {l:List (List Int)},(∀ x∈l,x.length≤100)→(jn sep l).length≤110 * l.length
 | [], _ => by simp [jn]
 | y :: ys, h => by
  have h1:=h y (by simp)
  have h2:∀ zs:List (List Int),(∀ x∈zs,x.length≤100)→(zs.flatMap (fun y=>sep ++ y)).length≤110 * zs.length:=by
   intro zs hz
   induction zs with
   | nil => simp
   | cons z zs ih =>
    have h3:=hz z (by simp);have h4:=ih (fun x hx=>hz x (by simp [hx]));simp only [List.flatMap_cons,List.length_append,List.length_cons];omega
  have h5:=h2 ys (fun x hx=>h x (by simp [hx]));simp only [jn,List.length_append,List.length_cons];omega
theorem jn_trace (t:Topo) (c:Int) (l:List Step):jn [32] (verdictB c :: l.map (stepB t))=verdictB c ++ stepsB t l:=by
 simp [jn,stepsB,List.flatMap_map]
theorem i_joinTexts (l:List (List Int)) (sep:List Int) (v:Value) (w:World) (r:RdS strRep w v l) (hl:l.length≤2000000) (hs:sep.length≤10) (he:∀ x∈l,x.length≤100) :
  Calls Tryz.prog 59 #[v,.string (strOfNums sep)] w fun e w'=>e=.returned (.string (strOfNums (jn sep l)))∧w=w':=by
 obtain⟨o,cap,rfl,hsm⟩:=r.shape
 go_enter Tryz.func59,Tryz.ntmps59
 go_wp2_with fail
 go_loopg [5,10] l.length (fun gk out i wr=>∃ k:Nat,gk+k=l.length∧i=.int .i64 k∧out=.string (strOfNums (jn sep (l.take k)))∧w=wr)
 case atStart=>exact⟨0,rfl,rfl,rfl,rfl⟩
 case round=>
  obtain⟨k,hgk,rfl,rfl,rfl⟩:=hrel;have HGK:=Ac hgk;clear hgk;have hkl:k≤l.length:=by have h1:=HGK.out;omega
  have hjl:=jn_len hs (l:=l.take k) (fun x hx=>he x (List.mem_of_mem_take hx));have hjt:=List.length_take_le k l
  by_cases hlt:k<l.length
  ·
   obtain⟨b,off,rfl,hel⟩:∃ b off,o=some ⟨b,off,none⟩∧w.cell? ⟨b,off+k,none⟩=some (.string (strOfNums l[k])):=by
    obtain⟨b,off,ho,hc⟩:=RdS.at_flat r k hlt;exact⟨b,off,ho,by simpa using hc 0 _ rfl⟩
   have hek:=he l[k] (List.getElem_mem hlt)
   have HJ : Hid (jn sep (l.take (k + 1)) = if k = 0 then l[k] else jn sep (l.take k) ++ sep ++ l[k]) := Ac (by
    rw [List.take_succ_eq_append_getElem hlt]
    split
    ·
     rename_i h; simp [h, jn]
    exact jn_snoc (by simp; omega))
   obtain⟨J,hJ⟩:∃ J,J=jn sep (l.take k):=⟨_,rfl⟩
   obtain⟨x,hx⟩:∃ x,x=l[k]:=⟨_,rfl⟩
   rw [← hJ] at hjl HJ ⊢
   rw [← hx] at hel hek HJ;have HJ0:=Ac hJ;clear hJ hx
   by_cases hk0:k=0
   ·
    have hk1:¬ (0:Int)<(k:Int):=by omega
    have HV : Hid (Value.string (strOfNums J ++ strOfNums x) = .string (strOfNums (jn sep (l.take (k + 1))))) := Ac (by
     rw [HJ.out, if_pos hk0, HJ0.out, hk0]
     exact congrArg Value.string (strOf_app [] x).symm)
    have had:¬ 9223372036854775807<(strOfNums J).size+(strOfNums x).size:=by rw [strOf_size,strOf_size];omega
    clear hk0
    go_wp2_with fail
    go_roundg (gk - 1)
    case measure=>have h1:=HGK.out;omega
    case rel=>exact⟨k+1,by have h1:=HGK.out;omega,congrArg (Value.int .i64) (by first | omega | (unfold wrap64;omega)),HV.out,rfl⟩
   have hk1:(0:Int)<(k:Int):=by omega
   have HV : Hid (Value.string (strOfNums J ++ strOfNums sep ++ strOfNums x) = .string (strOfNums (jn sep (l.take (k + 1))))) := Ac (by
    rw [HJ.out, if_neg hk0, strOf_app, strOf_app])
   have had1:¬ 9223372036854775807<(strOfNums J).size+(strOfNums sep).size:=by rw [strOf_size,strOf_size];omega
   have had2:¬ 9223372036854775807<(strOfNums J).size+(strOfNums sep).size+(strOfNums x).size:=by rw [strOf_size,strOf_size,strOf_size];omega
   clear hk0
   go_wp2_with fail
   go_roundg (gk - 1)
   case measure=>have h1:=HGK.out;omega
   case rel=>exact⟨k+1,by have h1:=HGK.out;omega,congrArg (Value.int .i64) (by first | omega | (unfold wrap64;omega)),HV.out,rfl⟩
  rw [List.take_of_length_le (by omega)]
  go_wp2_with fail
  go_ret
  exact⟨rfl,rfl⟩
theorem i_formatSteps (t:Topo) (v1 v2:Value) (l:List Step) (v:Value) (w:World) (ha:RdS ASd.rep w v1 t.ases) (r:RdS Step.rep w v l) (hl:l.length≤1048576) :
  Calls Tryz.prog 61 #[.agg #[v1,v2],v] w fun e w'=>∃ v',e=.returned v'∧OwnF strF 1 w.heap.size 9 w' v' (l.map (stepB t))∧Ext w w':=by
 obtain⟨E⟩:=elemStr;obtain⟨o,cap,rfl,hsm⟩:=r.shape;obtain⟨hx0,HB0⟩:=ea1 w (.cells #[v1,v2] 27);replace HB0:=Ac HB0
 go_enter Tryz.func61,Tryz.ntmps61
 have cf1:=blk2 HB0.out
 go_wp2_with fail
 go_loopg [5,10] l.length (fun gk out i wr=>∃ k:Nat,gk+k=l.length∧i=.int .i64 k∧OwnF strF 1 (w.heap.size+1) 9 wr out ((l.take k).map (stepB t))∧Ext (w.alloc (.cells #[v1,v2] 27)) wr)
 case atStart=>exact⟨0,rfl,rfl,OwnF.nil _ _ _ _ _,Ab _⟩
 case round=>
  obtain⟨k,hgk,rfl,ho,hx⟩:=hrel;have HGK:=Ac hgk;clear hgk;have hkl:k≤l.length:=by have h1:=HGK.out;omega
  have hlk:((l.take k).map (stepB t)).length=k:=by simp;omega
  by_cases hlt:k<l.length
  ·
   obtain⟨b,off,rfl,hc⟩:=Step.at (r.ext (hx0.t hx)) k hlt;have HT:Hid ((l.take (k+1)).map (stepB t)=(l.take k).map (stepB t) ++ [stepB t l[k]]):=Ac (by rw [List.take_succ_eq_append_getElem hlt,List.map_append];rfl)
   obtain⟨s,hs⟩:∃ s,s=l[k]:=⟨_,rfl⟩
   rw [← hs] at hc HT;clear hs;generalize (l.take k).map (stepB t)=L at ho hlk HT
   obtain⟨A,hA⟩:∃ A,A=fmtB s.ing:=⟨_,rfl⟩
   obtain⟨B,hB⟩:∃ B,B=asB t s.asn:=⟨_,rfl⟩
   obtain⟨C,hC⟩:∃ C,C=fmtB s.eg:=⟨_,rfl⟩
   have hAl:=fmtB_len s.ing;have hBl:=asB_len t s.asn;have hCl:=fmtB_len s.eg;rw [← hA] at hAl;rw [← hB] at hBl;rw [← hC] at hCl;have HA:=Ac hA;have HB:=Ac hB;have HC:=Ac hC;have HX:Hid (stepB t s=A ++ [62] ++ B ++ [62] ++ C):=Ac (by rw [hA,hB,hC];rfl);have hd1:¬ 9223372036854775807<(strOfNums A).size+1:=by rw [strOf_size];omega
   have hd2:¬ 9223372036854775807<(strOfNums A).size+1+(strOfNums B).size:=by rw [strOf_size,strOf_size];omega
   have hd3:¬ 9223372036854775807<(strOfNums A).size+1+(strOfNums B).size+1:=by rw [strOf_size,strOf_size];omega
   have hd4:¬ 9223372036854775807<(strOfNums A).size+1+(strOfNums B).size+1+(strOfNums C).size:=by rw [strOf_size,strOf_size,strOf_size];omega
   clear hA hB hC hAl hBl hCl
   try clear cf1
   have cf2:=blk2 (Aa hx HB0.out)
   go_upto_region 5 with (fail)
   try clear cf2
   obtain⟨hxs,HBs⟩:=ea1 wr (.cells #[.int .i64 s.asn,.int .i64 s.ing,.int .i64 s.eg] 79);replace HBs:=Ac HBs;clear hc;refine Ax (.blk [0,1,2,5,6,7,11,12] (.one 3 (.blk [4] (.one 8 (.blk [9,10] (.one 13 (.blk [14] (.one 15 (.one 16 (.blk [17] .done)))))))))) [16] (by kernel_rfl) (by kernel_rfl) ?_;have cf3:=blk2 (Aa ((hx.t hxs).t ((Ab _).drew)) HB0.out);have cf4:=blk3 (Aa ((Ab _).drew) HBs.out);refine blkStep (fun K HK=>?_);simp only [PK]
   go_wp2_with fail
   refine HK.out _ _ ?_;clear HK K;refine oneStep (fun K HK=>?_);simp only [PK]
   go_wp2_with fail
   refine(i_FormatInt s.ing _).mono ?_;rintro e w1 ⟨rfl,hz1⟩;rw [← HA.out]
   try clear cf3
   try clear cf4
   have cf5:=blk2 (Aa (((hx.t hxs).t ((Ab _).drew)).t hz1) HB0.out);have cf6:=blk3 (Aa (((Ab _).drew).t hz1) HBs.out)
   go_wp2_with fail
   refine HK.out _ _ hz1 ?_;clear HK K;refine blkStep (fun K HK=>?_);simp only [PK]
   go_wp2_with fail
   refine HK.out _ _ ?_;clear HK K;refine oneStep (fun K HK=>?_);simp only [PK]
   go_wp2_with fail
   refine(i_FormatAS t _ _ s.asn _ (ha.ext ((((hx0.t hx).t hxs).t ((Ab _).drew)).t hz1))).mono ?_;rintro e w2 ⟨rfl,hz2⟩;rw [← HB.out]
   try clear cf5
   try clear cf6
   have cf7:=blk2 (Aa ((((hx.t hxs).t ((Ab _).drew)).t hz1).t hz2) HB0.out);have cf8:=blk3 (Aa ((((Ab _).drew).t hz1).t hz2) HBs.out)
   go_wp2_with fail
   refine HK.out _ _ hz2 ?_;clear HK K;refine blkStep (fun K HK=>?_);simp only [PK]
   go_wp2_with fail
   refine HK.out _ _ ?_;clear HK K;refine oneStep (fun K HK=>?_);simp only [PK]
   go_wp2_with fail
   refine(i_FormatInt s.eg _).mono ?_;rintro e w3 ⟨rfl,hz3⟩;rw [← HC.out]
   try clear cf7
   try clear cf8
   have cf9:=blk2 (Aa (((((hx.t hxs).t ((Ab _).drew)).t hz1).t hz2).t hz3) HB0.out);have cf10:=blk3 (Aa (((((Ab _).drew).t hz1).t hz2).t hz3) HBs.out)
   go_wp2_with fail
   refine HK.out _ _ hz3 ?_;clear HK K;refine blkStep (fun K HK=>?_);simp only [PK]
   go_wp2_with fail
   refine HK.out _ _ ?_;clear HK K;rw [str62,← HX.out];refine oneStep (fun K HK=>?_);simp only [PK]
   go_wp2_with fail
   refine HK.out _ _ ((Ab _).alloc _) ?_;clear HK K;have HXX:=Ac (show Ext (w.alloc (.cells #[v1,v2] 27)) _ from(((((hx.t hxs).t ((Ab _).drew)).t hz1).t hz2).t hz3).alloc (.cells #[.string (strOfNums (stepB t s))] 9));have ho0:=Ay ho (((((hxs.t ((Ab _).drew)).t hz1).t hz2).t hz3).alloc (.cells #[.string (strOfNums (stepB t s))] 9))
   try clear cf9
   try clear cf10
   refine badStep (by kernel_rfl) (fun K HK=>?_);simp only [PK];refine app1 E strFlen strOne rfl _ _ rfl (stepB t s) rfl ho0 rfl (by exact Au (strF (stepB t s)) (blk_new _ _)) (by omega) (by unfold maxLen;omega) (by have h1:=HXX.out.size;simp only [nblk_alloc] at h1 ⊢;exact h1) ?_;intro v' w' ho' hg';have hxA:=HXX.out.app (e:=9) hg' ho0 (by simp);clear hg' ho0 ho
   go_wp2_with fail
   refine HK.out _ _ ?_;clear HK K;refine blkStep (fun K HK=>?_);simp only [PK]
   go_wp2_with fail
   refine HK.out _ _ ?_;clear HK K;refine Ap (by kernel_rfl) ?_
   go_wp2_with fail
   go_roundg (gk - 1)
   case measure=>have h1:=HGK.out;omega
   case rel=>exact⟨k+1,by have h1:=HGK.out;omega,congrArg (Value.int .i64) (by first | omega | (unfold wrap64;omega)),by rw [HT.out];exact ho',hxA⟩
  rw [List.take_of_length_le (by omega)] at ho
  try clear cf1
  have cf11:=blk2 (Aa hx HB0.out)
  go_wp2_with fail
  go_ret
  exact⟨_,rfl,ho.mono (Nat.le_succ _),(hx0.t hx)⟩
theorem i_FormatTrace (t:Topo) (v1 v2:Value) (x:Trc) (v0 u0 u1:Value) (w:World) (ha:RdS ASd.rep w v1 t.ases) (r:RdS Step.rep w v0 x.steps) (hl:x.steps.length≤1048576) :
  Calls Tryz.prog 16 #[.agg #[v1,v2],.agg #[.int .i64 x.code,v0,.int .i64 x.pkt.kind,.int .i64 x.pkt.src,.int .i64 x.pkt.dst,u0,.int .i64 x.pkt.pi,.int .i64 x.pkt.hi,.int .i64 x.pkt.beta,.int .i64 x.pkt.rid,.int .i64 x.pkt.seq,u1]] w fun e w'=>e=.returned (.string (strOfNums (traceB t x)))∧Ext w w':=by
 obtain⟨E⟩:=elemStr;obtain⟨o,cap,rfl,hsm⟩:=r.shape;obtain⟨hx0,HB0⟩:=ea2 w (.cells #[v1,v2] 27) (.cells #[.int .i64 x.code,.slice o x.steps.length cap,.int .i64 x.pkt.kind,.int .i64 x.pkt.src,.int .i64 x.pkt.dst,u0,.int .i64 x.pkt.pi,.int .i64 x.pkt.hi,.int .i64 x.pkt.beta,.int .i64 x.pkt.rid,.int .i64 x.pkt.seq,u1] 40);replace HB0:=Ac HB0
 go_enter Tryz.func16,Tryz.ntmps16
 have cf1:=blk2 HB0.out.1;have cf2:=blk12 HB0.out.2
 go_wp2_with fail
 refine Ax (.blk [0,1,4,5,6] (.one 2 (.two 3 7 (.one 7 (.one 8 (.one 9 (.blk [10] .done)))) (.one 3 (.one 8 (.one 9 (.blk [10] .done))))))) [8] (by kernel_rfl) (by kernel_rfl) ?_
 try clear cf1
 try clear cf2
 have cf3:=blk2 (Aa ((Ab _).drew) HB0.out.1);have cf4:=blk12 (Aa ((Ab _).drew) HB0.out.2);refine blkStep (fun K HK=>?_);simp only [PK]
 go_wp2_with fail
 refine HK.out _ _ ?_;clear HK K;refine oneStep (fun K HK=>?_);simp only [PK]
 go_wp2_with fail
 refine(i_VerdictName x.code _).mono ?_;rintro e w1 ⟨rfl,hz1⟩
 try clear cf3
 try clear cf4
 have cf5:=blk2 (Aa (((Ab _).drew).t hz1) HB0.out.1);have cf6:=blk12 (Aa (((Ab _).drew).t hz1) HB0.out.2)
 go_wp2_with fail
 refine HK.out _ _ hz1 ?_;clear HK K
 obtain⟨V,hV⟩:∃ V,V=verdictB x.code:=⟨_,rfl⟩
 have hVl:=verdictB_len x.code;rw [← hV] at hVl ⊢
 have HTR:Hid (traceB t x=jn [32] (V :: x.steps.map (stepB t))):=Ac (by rw [hV,jn_trace];rfl);have hml:(x.steps.map (stepB t)).length≤1048576:=by rw [List.length_map];exact hl
 have hme:∀ y∈V :: x.steps.map (stepB t),y.length≤100:=by
  intro y hy
  rcases List.mem_cons.1 hy with h | h
  ·
   rw [h];omega
  obtain⟨s,_,h2⟩:=List.mem_map.1 h;rw [← h2];have:=stepB_len t s;omega
 have HME:=Ac hme;clear hV hme;refine twoStep ?_ ?_
 ·
  refine oneStep (fun K HK=>?_);simp only [PK]
  go_wp2_with fail
  refine HK.out _ _ ((Ab _).alloc _) ?_;clear HK K;have hol:OwnF strF 1 w1.heap.size 9 (w1.alloc (.cells #[.string (strOfNums V)] 9)) (.slice (some ⟨w1.heap.size,0,none⟩) 1 1) [V]:=OwnF.lit strFlen w1.heap.size 9 w1 [V] (Ae _) (by simp [maxLen])
  try clear cf5
  try clear cf6
  have cf7:=blk2 (Aa ((((Ab _).drew).t hz1).trans ((Ab w1).alloc (.cells #[.string (strOfNums V)] 9))) HB0.out.1);have cf8:=blk12 (Aa ((((Ab _).drew).t hz1).trans ((Ab w1).alloc (.cells #[.string (strOfNums V)] 9))) HB0.out.2);refine oneStep (fun K HK=>?_);simp only [PK]
  go_wp2_with fail
  refine(i_formatSteps t _ _ x.steps _ _ (ha.ext (((hx0.t ((Ab _).drew)).t hz1).trans ((Ab w1).alloc (.cells #[.string (strOfNums V)] 9)))) (r.ext (((hx0.t ((Ab _).drew)).t hz1).trans ((Ab w1).alloc (.cells #[.string (strOfNums V)] 9)))) hl).mono ?_;rintro e w2 ⟨vF,rfl,OF,hz2⟩
  try clear cf7
  try clear cf8
  have cf9:=blk2 (Aa (((((Ab _).drew).t hz1).trans ((Ab w1).alloc (.cells #[.string (strOfNums V)] 9))).trans hz2) HB0.out.1);have cf10:=blk12 (Aa (((((Ab _).drew).t hz1).trans ((Ab w1).alloc (.cells #[.string (strOfNums V)] 9))).trans hz2) HB0.out.2)
  go_wp2_with fail
  refine HK.out _ _ hz2 ?_;clear HK K
  try clear cf9
  try clear cf10
  refine badStep (by kernel_rfl) (fun K HK=>?_);simp only [PK];refine appS E strFlen strOne rfl _ _ rfl (x.steps.map (stepB t)) rfl (hol.ext hz2) rfl (strs_rep OF) (by simp at hml ⊢;omega) (by simp [maxLen] at hml ⊢;omega) (Ext.size (((Ab w1).alloc (.cells #[.string (strOfNums V)] 9)).trans hz2)) ?_;intro v' w' ho' hg';have hxA:=((hx0.t ((Ab _).drew)).t hz1).trans (Ext.app (e:=9) (((Ab w1).alloc (.cells #[.string (strOfNums V)] 9)).trans hz2) hg' (hol.ext hz2) (Ae _));have hjr:=strs_rep ho';clear hg' ho'
  go_wp2_with fail
  refine HK.out _ _ ?_;clear HK K;refine oneStep (fun K HK=>?_);simp only [PK]
  go_wp2_with fail
  refine(i_joinTexts (V :: x.steps.map (stepB t)) [32] _ _ hjr (by simp at hml ⊢;omega) (by simp) HME.out).mono ?_;rintro e _ ⟨rfl,rfl⟩;rw [← HTR.out]
  go_wp2_with fail
  refine HK.out _ _ (Ab _) ?_;clear HK K;refine blkStep (fun K HK=>?_);simp only [PK]
  go_wp2_with fail
  refine HK.out _ _ ?_;clear HK K;refine Ap (by kernel_rfl) ?_
  go_wp2_with fail
  go_ret
  exact⟨rfl,hxA⟩
 refine oneStep (fun K HK=>?_);simp only [PK]
 go_wp2_with fail
 refine(i_formatSteps t _ _ x.steps _ _ (ha.ext ((hx0.t ((Ab _).drew)).t hz1)) (r.ext ((hx0.t ((Ab _).drew)).t hz1)) hl).mono ?_;rintro e w3 ⟨vF,rfl,OF,hz3⟩
 try clear cf5
 try clear cf6
 have cf11:=blk2 (Aa ((((Ab _).drew).t hz1).t hz3) HB0.out.1);have cf12:=blk12 (Aa ((((Ab _).drew).t hz1).t hz3) HB0.out.2)
 go_wp2_with fail
 refine HK.out _ _ hz3 ?_;clear HK K;refine oneStep (fun K HK=>?_);simp only [PK]
 go_wp2_with fail
 refine HK.out _ _ ((Ab _).alloc _) ?_;clear HK K;have hol:OwnF strF 1 w3.heap.size 9 (w3.alloc (.cells #[.string (strOfNums V)] 9)) (.slice (some ⟨w3.heap.size,0,none⟩) 1 1) [V]:=OwnF.lit strFlen w3.heap.size 9 w3 [V] (Ae _) (by simp [maxLen]);have OF2:=Ay OF ((Ab w3).alloc (.cells #[.string (strOfNums V)] 9))
 try clear cf11
 try clear cf12
 refine badStep (by kernel_rfl) (fun K HK=>?_);simp only [PK];refine appS E strFlen strOne rfl _ _ rfl (x.steps.map (stepB t)) rfl hol rfl (strs_rep OF2) (by simp at hml ⊢;omega) (by simp [maxLen] at hml ⊢;omega) (Ext.size ((Ab w3).alloc (.cells #[.string (strOfNums V)] 9))) ?_;intro v' w' ho' hg';have hxA:=(((hx0.t ((Ab _).drew)).t hz1).t hz3).trans (Ext.app (e:=9) ((Ab w3).alloc (.cells #[.string (strOfNums V)] 9)) hg' hol (Ae _));have hjr:=strs_rep ho';clear hg' ho'
 go_wp2_with fail
 refine HK.out _ _ ?_;clear HK K;refine oneStep (fun K HK=>?_);simp only [PK]
 go_wp2_with fail
 refine(i_joinTexts (V :: x.steps.map (stepB t)) [32] _ _ hjr (by simp at hml ⊢;omega) (by simp) HME.out).mono ?_;rintro e _ ⟨rfl,rfl⟩;rw [← HTR.out]
 go_wp2_with fail
 refine HK.out _ _ (Ab _) ?_;clear HK K;refine blkStep (fun K HK=>?_);simp only [PK]
 go_wp2_with fail
 refine HK.out _ _ ?_;clear HK K;refine Ap (by kernel_rfl) ?_
 go_wp2_with fail
 go_ret
 exact⟨rfl,hxA⟩
theorem s_FormatTrace (t:Topo) (v1 v2:Value) (x:Trc) (v0 u0 u1:Value) (w:World) (ha:RdS ASd.rep w v1 t.ases) (r:RdS Step.rep w v0 x.steps) (hl:x.steps.length≤1048576) :
  Calls Tryz.prog 17 #[.agg #[v1,v2],.agg #[.int .i64 x.code,v0,.int .i64 x.pkt.kind,.int .i64 x.pkt.src,.int .i64 x.pkt.dst,u0,.int .i64 x.pkt.pi,.int .i64 x.pkt.hi,.int .i64 x.pkt.beta,.int .i64 x.pkt.rid,.int .i64 x.pkt.seq,u1]] w fun e w'=>e=.returned (.string (strOfNums (traceB t x)))∧Ext w w':=by
 obtain⟨o,cap,rfl,hsm⟩:=r.shape;obtain⟨hx0,HB0⟩:=ea2 w (.cells #[v1,v2] 27) (.cells #[.int .i64 x.code,.slice o x.steps.length cap,.int .i64 x.pkt.kind,.int .i64 x.pkt.src,.int .i64 x.pkt.dst,u0,.int .i64 x.pkt.pi,.int .i64 x.pkt.hi,.int .i64 x.pkt.beta,.int .i64 x.pkt.rid,.int .i64 x.pkt.seq,u1] 40);replace HB0:=Ac HB0
 go_enter Tryz.func17,Tryz.ntmps17
 have cf1:=blk2 HB0.out.1;have cf2:=blk12 HB0.out.2
 go_wp2_with fail
 refine(s_VerdictName x.code _).mono ?_;rintro e w1 ⟨rfl,hz1⟩;have hVl:=verdictB_len x.code;have HTR:Hid (traceB t x=verdictB x.code ++ stepsB t x.steps):=Ac rfl;generalize verdictB x.code=V at hVl HTR ⊢
 try clear cf1
 try clear cf2
 have cf3:=blk2 (Aa hz1 HB0.out.1);have cf4:=blk12 (Aa hz1 HB0.out.2)
 go_wp2_with fail
 go_loopg [5,6] x.steps.length (fun gk ss i wr=>∃ k:Nat,gk+k=x.steps.length∧i=.int .i64 k∧ss=.string (strOfNums (V ++ stepsB t (x.steps.take k)))∧Ext w1 wr)
 case atStart=>exact⟨0,rfl,rfl,by simp [stepsB],Ab _⟩
 case round=>
  obtain⟨k,hgk,rfl,rfl,hx⟩:=hrel;have HGK:=Ac hgk;clear hgk;have hkl:k≤x.steps.length:=by have h1:=HGK.out;omega
  by_cases hlt:k<x.steps.length
  ·
   obtain⟨b,off,rfl,hc⟩:=Step.at (r.ext ((hx0.t hz1).t hx)) k hlt;have HT:Hid (V ++ stepsB t (x.steps.take (k+1))=(V ++ stepsB t (x.steps.take k)) ++ (32 :: stepB t x.steps[k])):=Ac (by rw [stepsB_snoc hlt,List.append_assoc])
   have hSl:(V ++ stepsB t (x.steps.take k)).length≤100000000:=by
    have h1:=stepsB_len t (x.steps.take k);have h2:=List.length_take_le k x.steps;rw [List.length_append];omega
   obtain⟨s,hs⟩:∃ s,s=x.steps[k]:=⟨_,rfl⟩
   rw [← hs] at hc HT;clear hs;generalize V ++ stepsB t (x.steps.take k)=S at hSl HT ⊢
   obtain⟨A,hA⟩:∃ A,A=fmtB s.ing:=⟨_,rfl⟩
   obtain⟨B,hB⟩:∃ B,B=asB t s.asn:=⟨_,rfl⟩
   obtain⟨C,hC⟩:∃ C,C=fmtB s.eg:=⟨_,rfl⟩
   have hAl:=fmtB_len s.ing;have hBl:=asB_len t s.asn;have hCl:=fmtB_len s.eg;rw [← hA] at hAl;rw [← hB] at hBl;rw [← hC] at hCl;have HA:=Ac hA;have HB:=Ac hB;have HC:=Ac hC;have HX:Hid (Value.string (strOfNums S ++ ByteArray.mk #[32] ++ strOfNums A ++ ByteArray.mk #[62] ++ strOfNums B ++ ByteArray.mk #[62] ++ strOfNums C)=.string (strOfNums (V ++ stepsB t (x.steps.take (k+1))))):=Ac (by rw [str32,HT.out,hA,hB,hC];rfl);have hd1:¬ 9223372036854775807<(strOfNums S).size+1:=by rw [strOf_size];omega
   have hd2:¬ 9223372036854775807<(strOfNums S).size+1+(strOfNums A).size:=by rw [strOf_size,strOf_size];omega
   have hd3:¬ 9223372036854775807<(strOfNums S).size+1+(strOfNums A).size+1:=by rw [strOf_size,strOf_size];omega
   have hd4:¬ 9223372036854775807<(strOfNums S).size+1+(strOfNums A).size+1+(strOfNums B).size:=by rw [strOf_size,strOf_size,strOf_size];omega
   have hd5:¬ 9223372036854775807<(strOfNums S).size+1+(strOfNums A).size+1+(strOfNums B).size+1:=by rw [strOf_size,strOf_size,strOf_size];omega
   have hd6:¬ 9223372036854775807<(strOfNums S).size+1+(strOfNums A).size+1+(strOfNums B).size+1+(strOfNums C).size:=by rw [strOf_size,strOf_size,strOf_size,strOf_size];omega
   clear hA hB hC hAl hBl hCl hSl
   try clear cf3
   try clear cf4
   have cf5:=blk2 (Aa (hz1.t hx) HB0.out.1);have cf6:=blk12 (Aa (hz1.t hx) HB0.out.2)
   go_wp2_with fail
   refine Ax (.blk [0,1,2,3,4,5,6,7,11,12,13,14,15,16,17,21,22,23,24,25,26] (.one 8 (.blk [9,10] (.one 18 (.blk [19,20] (.one 27 (.blk [28,29] .done))))))) [] (by kernel_rfl) (by kernel_rfl) ?_
   try clear cf5
   try clear cf6
   have cf7:=blk2 (Aa ((hz1.t hx).t ((Ab _).drew)) HB0.out.1);have cf8:=blk12 (Aa ((hz1.t hx).t ((Ab _).drew)) HB0.out.2);have cf9:=cell3_ext ((Ab _).drew) hc;refine blkStep (fun K HK=>?_);simp only [PK]
   go_wp2_with fail
   refine HK.out _ _ ?_;clear HK K;refine oneStep (fun K HK=>?_);simp only [PK]
   go_wp2_with fail
   refine(s_FormatInt s.ing _).mono ?_;rintro e w2 ⟨rfl,hz2⟩;rw [← HA.out]
   try clear cf7
   try clear cf8
   try clear cf9
   have cf10:=blk2 (Aa (((hz1.t hx).t ((Ab _).drew)).t hz2) HB0.out.1);have cf11:=blk12 (Aa (((hz1.t hx).t ((Ab _).drew)).t hz2) HB0.out.2);have cf12:=cell3_ext (((Ab _).drew).t hz2) hc
   go_wp2_with fail
   refine HK.out _ _ hz2 ?_;clear HK K;refine blkStep (fun K HK=>?_);simp only [PK]
   go_wp2_with fail
   refine HK.out _ _ ?_;clear HK K;refine oneStep (fun K HK=>?_);simp only [PK]
   go_wp2_with fail
   refine(s_FormatAS t _ _ s.asn _ (ha.ext ((((hx0.t hz1).t hx).t ((Ab _).drew)).t hz2))).mono ?_;rintro e w3 ⟨rfl,hz3⟩;rw [← HB.out]
   try clear cf10
   try clear cf11
   try clear cf12
   have cf13:=blk2 (Aa ((((hz1.t hx).t ((Ab _).drew)).t hz2).t hz3) HB0.out.1);have cf14:=blk12 (Aa ((((hz1.t hx).t ((Ab _).drew)).t hz2).t hz3) HB0.out.2);have cf15:=cell3_ext ((((Ab _).drew).t hz2).t hz3) hc
   go_wp2_with fail
   refine HK.out _ _ hz3 ?_;clear HK K;refine blkStep (fun K HK=>?_);simp only [PK]
   go_wp2_with fail
   refine HK.out _ _ ?_;clear HK K;refine oneStep (fun K HK=>?_);simp only [PK]
   go_wp2_with fail
   refine(s_FormatInt s.eg _).mono ?_;rintro e w4 ⟨rfl,hz4⟩;rw [← HC.out]
   try clear cf13
   try clear cf14
   try clear cf15
   have cf16:=blk2 (Aa (((((hz1.t hx).t ((Ab _).drew)).t hz2).t hz3).t hz4) HB0.out.1);have cf17:=blk12 (Aa (((((hz1.t hx).t ((Ab _).drew)).t hz2).t hz3).t hz4) HB0.out.2);have cf18:=cell3_ext (((((Ab _).drew).t hz2).t hz3).t hz4) hc
   go_wp2_with fail
   refine HK.out _ _ hz4 ?_;clear HK K;refine blkStep (fun K HK=>?_);simp only [PK]
   go_wp2_with fail
   refine HK.out _ _ ?_;clear HK K;refine Ap (by kernel_rfl) ?_
   go_wp2_with fail
   go_roundg (gk - 1)
   case measure=>have h1:=HGK.out;omega
   case rel=>exact⟨k+1,by have h1:=HGK.out;omega,congrArg (Value.int .i64) (by first | omega | (unfold wrap64;omega)),HX.out,((((hx.t ((Ab _).drew)).t hz2).t hz3).t hz4)⟩
  rw [List.take_of_length_le (by omega)]
  try clear cf3
  try clear cf4
  have cf19:=blk2 (Aa (hz1.t hx) HB0.out.1);have cf20:=blk12 (Aa (hz1.t hx) HB0.out.2)
  go_wp2_with fail
  go_ret
  exact⟨ret_str (by rw [HTR.out]),((hx0.t hz1).t hx)⟩
end
end Go.Proofs.YteodlcpeoaggbaaGreat
