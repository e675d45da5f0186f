/- What these laws need: FnOld, FnWalks: The draw of a segment that grows along the links of a right topology, each hop sealed. -/
import Derived.Test.YteodlcpeoaggbaaGreatKV16
namespace Go.Proofs.YteodlcpeoaggbaaGreat
section
open Go.ChangeShapes Go.WideShapes Go.ChangeAt Go.RowKit Go.Deep
structure GrowSt (g : Nat) (cv : Value) (cd : List Int) (w : World) (b4 b6 b9 : Nat) (v1 v2 : Value) (ts beta : Int) (v : Value) (hs : List Hop) (wr : World) : Prop where
 p:wr.heap[b4]?=some (.cells #[v1,v2] 27 (0,0))
 z:wr.heap[b6]?=some (.cells #[.int .i64 0,.int .i64 0,.slice none 0 0] 116 (0,0))
 s:wr.heap[b9]?=some (.cells #[.int .i64 ts,.int .i64 beta,v] 116 (0,0))
 h:OwnF Hop.f 5 w.heap.size 103 wr v hs
 c:Cur g cv cd wr
 x:Chg (at1 g) w wr
 c0:Cur g cv cd w
 h4:w.heap.size≤b4
 h6:b4<b6
 h9:b6<b9
namespace GrowSt
variable {g : Nat} {cv : Value} {cd : List Int} {w : World} {b4 b6 b9 : Nat} {v1 v2 v : Value} {ts beta : Int} {hs : List Hop} {wr : World}
theorem draw (s:GrowSt g cv cd w b4 b6 b9 v1 v2 ts beta v hs wr) {w':World} (hc:Cur g cv cd w') (hx:Chg (at1 g) wr w'):GrowSt g cv cd w b4 b6 b9 v1 v2 ts beta v hs w':=
 have e1:=s.c0.lt;have e4:=s.h4;have e6:=s.h6;have e9:=s.h9
 ⟨hx.blkS s.p (by unfold at1;omega),hx.blkS s.z (by unfold at1;omega),hx.blkS s.s (by unfold at1;omega),s.h.at1 hx e1,hc,s.x.trans hx,s.c0,e4,e6,e9⟩
theorem ext (s:GrowSt g cv cd w b4 b6 b9 v1 v2 ts beta v hs wr) {w':World} (hx:Ext wr w'):GrowSt g cv cd w b4 b6 b9 v1 v2 ts beta v hs w':=s.draw (s.c.ext hx) (Ar hx)
theorem base (s:GrowSt g cv cd w b4 b6 b9 v1 v2 ts beta v hs wr):w.heap.size≤wr.heap.size:=s.x.size
theorem lt (s:GrowSt g cv cd w b4 b6 b9 v1 v2 ts beta v hs wr):g<wr.heap.size:=Ak s.c0.lt s.x.size
theorem push (s:GrowSt g cv cd w b4 b6 b9 v1 v2 ts beta v hs wr) {w':World} {v':Value} {hs':List Hop} (ho:OwnF Hop.f 5 w.heap.size 103 w' v' hs') (hg:wr.grownBy w' v.ownBlock) :
  GrowSt g cv cd w b4 b6 b9 v1 v2 ts beta v' hs' (w'.setCell ⟨b9,2,none⟩ v'):=by
 have e1:=s.c0.lt;have e4:=s.h4;have e6:=s.h6;have e9:=s.h9;have hb:=own_ne s.h s.s (by decide) hg;have hset:Chg (fun k=>k=b9) w' (w'.setCell ⟨b9,2,none⟩ v'):=Bw (S:=fun k=>k=b9) (p:=⟨b9,2,none⟩) (Bq _ _) rfl v';have hx:Chg (fun k=>k=b9∨v.ownBlock=some k) wr (w'.setCell ⟨b9,2,none⟩ v'):=(Bn hg (fun k h=>.inr h)).trans (hset.mono (fun k h=>.inl h))
 have hS:∀ k,(k=b9∨v.ownBlock=some k)→w.heap.size≤k:=fun k hk=>by
  rcases hk with rfl | hk
  ·
   omega
  exact(s.h.block k hk).1
 have hup:=Chg.up s.x hx (fun i hi=>.inr (hS i hi));refine⟨hx.blkS s.p (fun hk=>?_),hx.blkS s.z (fun hk=>?_),by simpa using blk_set hb 2 v',ho.chg hset (fun k hk e=>ho.ne hb (by decide) (by rw [hk,e])),Cur.kept s.c0 s.c hx (fun hk=>by have:=hS _ hk;omega) hup,hup,s.c0,e4,e6,e9⟩
 ·
  rcases hk with hk | hk
  ·
   omega
  exact s.h.ne s.p (by decide) hk
 rcases hk with hk | hk
 ·
  omega
 exact s.h.ne s.z (by decide) hk
theorem fin (s:GrowSt g cv cd w b4 b6 b9 v1 v2 ts beta v hs wr) :
  ∃ w5,w5=((wr.setCell ⟨b6,0,none⟩ (.int .i64 ts)).setCell ⟨b6,1,none⟩ (.int .i64 beta)).setCell ⟨b6,2,none⟩ v∧w5.heap[b6]?=some (.cells #[.int .i64 ts,.int .i64 beta,v] 116 (0,0))∧OwnF Hop.f 5 w.heap.size 103 w5 v hs∧Cur g cv cd w5∧Chg (at1 g) w w5:=by
 have e1:=s.c0.lt;have e4:=s.h4;have e6:=s.h6;have hS:Chg (fun k=>k=b6) wr (((wr.setCell ⟨b6,0,none⟩ (.int .i64 ts)).setCell ⟨b6,1,none⟩ (.int .i64 beta)).setCell ⟨b6,2,none⟩ v):=Bw (S:=fun k=>k=b6) (p:=⟨b6,2,none⟩) (Bw (S:=fun k=>k=b6) (p:=⟨b6,1,none⟩) (Bw (S:=fun k=>k=b6) (p:=⟨b6,0,none⟩) (Bq _ _) rfl _) rfl _) rfl _;have hup:=Chg.up s.x hS (fun i hi=>by have h1:i=b6:=hi;omega);exact⟨_,rfl,blk_set3 s.z _ _ _,s.h.chg hS (fun k hk e=>s.h.ne s.z (by decide) (by rw [hk,e])),Cur.kept s.c0 s.c hS (fun h=>by have h2:g=b6:=h;omega) hup,hup⟩
end GrowSt
set_option maxRecDepth 100000 in
set_option maxHeartbeats 40000000 in
theorem s_l9Grow (g:Nat) (t:Topo) (v1 v2:Value) (kind:Int) (cv:Value) (cd:List Int) (w:World) (hc:Cur g cv cd w) (T:TopoOk t) (ha:St g ASd.rep w v1 t.ases) (hkk:St g Lnk.rep w v2 t.links) :
  Calls Tryz.prog 82 #[.pointer (some ⟨g,0,none⟩),.agg #[v1,v2],.int .i64 kind] w fun e w'=>∃ (v:Value) (s:Seg),e=.returned (.agg #[.int .i64 s.ts,.int .i64 s.beta,v])∧SegDrawn t kind s∧OwnF Hop.f 5 w.heap.size 103 w' v s.hops∧Cur g cv cd w'∧Chg (at1 g) w w':=by
 obtain⟨EI⟩:=elemInt;obtain⟨EH⟩:=elemHop;have hgw:=hc.lt;have hn1:=T.n1;have hn8:=T.n8;obtain⟨o1,c1,rfl,_⟩:=ha.rd.shape;obtain⟨b1,off1,rfl,_⟩:=ASd.at ha.rd 0 (by omega)
 obtain⟨W1,hW1⟩:∃ W1:World,W1=((w.alloc (.cells #[.slice (some ⟨b1,off1,none⟩) t.ases.length c1,v2] 27)).alloc (.cells #[.int .i64 0,.int .i64 0,.slice none 0 0] 116)):=⟨_,rfl⟩
 have hx0:Ext w W1:=by rw [hW1];exact ext2 w _ _
 have hs1:W1.heap.size=w.heap.size+2:=by rw [hW1];simp
 have HB:=Ac (al2 w (.cells #[.slice (some ⟨b1,off1,none⟩) t.ases.length c1,v2] 27) (.cells #[.int .i64 0,.int .i64 0,.slice none 0 0] 116));rw [← hW1] at HB;have ho0:=Bj intF 1 W1.heap.size 3 W1 (Ae _);have HS1:=Ac hs1
 go_enter Tryz.func82,Tryz.ntmps82
 go_wp2_with fail
 rw [← hW1];rw [show w.heap.size+1+1=W1.heap.size by rw [HS1.out]];clear hW1 hs1
 go_loopg [7,8] t.ases.length (fun gk out i wr=>∃ (k:Nat) (l:List Int),gk+k=t.ases.length∧i=.int .i64 k∧l.length≤k∧(∀ x∈l,isAs t x=true∧(asAt t x).core=true)∧OwnF intF 1 W1.heap.size 3 wr out l∧Ext W1 wr)
 case atStart=>exact⟨0,[],by omega,rfl,by simp,by simp,ho0,(Ab _).alloc _⟩
 case round=>
  clear ho0;obtain⟨k,l,hgk,rfl,hlk,hall,ho,hx⟩:=hrel;have HGK:=Ac hgk;have HALL:=Ac hall;clear hgk hall;have hkl:k≤t.ases.length:=by have h1:=HGK.out;omega
  have cp:=blk2 (hx.block HB.out.1)
  by_cases hlt:k<t.ases.length
  ·
   obtain⟨b1',off1',hbo,hca⟩:=ASd.at (ha.rd.ext (hx0.t hx)) k hlt
   cases hbo
   cases hcore:t.ases[k].core
   ·
    go_wp2_with fail
    go_roundg (gk - 1)
    case measure=>have h1:=HGK.out;omega
    case rel=>exact⟨k+1,l,by have h1:=HGK.out;omega,congrArg (Value.int .i64) (by first | omega | (unfold wrap64;omega)),by first | omega | (simp;omega),HALL.out,ho,hx⟩
   have hall2:∀ x∈l ++ [(k:Int)],isAs t x=true∧(asAt t x).core=true:=fun x hm=>by
    rcases List.mem_append.1 hm with h | h
    ·
     exact HALL.out x h
    obtain rfl:=List.mem_singleton.1 h;exact⟨Bk.2 (by omega),by rw [asAt_at (by omega) (by simpa using hlt)];simpa using hcore⟩
   have HA2:=Ac hall2;clear hall2
   go_wp2_with (at_builtin;refine app1 EI intFlen intOne rfl _ _ rfl (k:Int) rfl (Ay ho ((Ab _).alloc _)) rfl (by exact Au (intF (k:Int)) (blk_new _ _)) (by omega) (by unfold maxLen;omega) (by have h1:=hx.size;simp;omega) ?_)
   intro v' w' ho' hg';have hx':=(hx.alloc (.cells #[.int .i64 (k:Int)] 3)).app (e:=3) hg' ho (Ae _);clear hg' cp
   go_wp2_with fail
   go_roundg (gk - 1)
   case measure=>have h1:=HGK.out;omega
   case rel=>exact⟨k+1,_,by have h1:=HGK.out;omega,congrArg (Value.int .i64) (by first | omega | (unfold wrap64;omega)),by first | omega | (simp;omega),HA2.out,ho',hx'⟩
  clear HGK;have hcq0:=hc.ext (hx0.t hx)
  go_wp2_with fail
  refine(s_l1Below g (50) _ _ _ hcq0).mono ?_;rintro e w1 ⟨ts,rfl,hts0,hts1,hcq,hzq⟩;have hxz:=(Ar (S:=at1 g) (hx0.t hx)).t hzq;have ho2:=ho.at1 hzq (by have h1:=HS1.out;omega);have hp2:=hzq.blkS (hx.block HB.out.1) (by unfold at1;omega);have hz2:=hzq.blkS (hx.block HB.out.2) (by unfold at1;omega);clear hcq0 ho hx cp;have hcq0:=hcq;clear hcq hzq;have hts2:ts<50:=by omega
  clear hts1
  go_wp2_with fail
  refine(s_l1Below g (1000000) _ _ _ hcq0).mono ?_;rintro e w2 ⟨beta,rfl,hbeta0,hbeta1,hcq,hzq⟩;replace hxz:=hxz.trans hzq;replace ho2:=ho2.at1 hzq (by have h1:=HS1.out;omega);replace hp2:=hzq.blkS hp2 (by unfold at1;omega);replace hz2:=hzq.blkS hz2 (by unfold at1;omega);clear hcq0;have hcq0:=hcq;clear hcq hzq;have hbeta2:beta<1000000:=by omega
  clear hbeta1;have hsq:w.heap.size+1<w2.heap.size:=blk_lt hz2
  obtain⟨b9,hb9⟩:∃ b9,b9=w2.heap.size:=⟨_,rfl⟩
  have hxa:Ext w2 (w2.alloc (.cells #[.int .i64 ts,.int .i64 beta,.slice none 0 0] 116)):=(Ab _).alloc _
  have s:GrowSt g cv cd w w.heap.size (w.heap.size+1) b9 (.slice (some ⟨b1,off1,none⟩) t.ases.length c1) v2 ts beta (.slice none 0 0) [] (w2.alloc (.cells #[.int .i64 ts,.int .i64 beta,.slice none 0 0] 116)):=⟨hxa.block hp2,hxa.block hz2,by rw [hb9];exact blk_new _ _,OwnF.nil _ _ _ _ _,hcq0.ext hxa,hxz.ext hxa,hc,Ae _,Nat.lt_succ_self _,by rw [hb9];exact hsq⟩
  replace ho2:=ho2.ext hxa;obtain⟨oc,cc,rfl,_⟩:=(Bo ho2).shape;have hTS:0≤ts∧ts≤49:=by omega
  have hBE:0≤beta∧beta≤999999:=by omega
  have HB9:=Ac hb9;clear hxa hz2 hp2 hcq0 hxz hb9 hsq
  go_upto_region 8 with (fail)
  rw [← HB9.out];generalize w2.alloc (.cells #[.int .i64 ts,.int .i64 beta,.slice none 0 0] 116)=w9 at s ho2 ⊢
  clear HB9;have hl0:l.length=0∨0<l.length:=by omega
  rcases hl0 with hl0 | hl0
  ·
   have hl1:((l.length:Int) == 0)=true:=by simp;exact List.eq_nil_of_length_eq_zero hl0
   clear hl0;have cs:=blk3 s.s;have cz:=blk3 s.z;have fz0:=fr3 s.z;obtain⟨w5,hw5,hb5,ho5,hc5,hx5⟩:=s.fin;have HW:=Ac hw5;have HB5:=Ac hb5;have HX5:=Ac hx5;clear hw5 hb5 hx5
   go_wp2_with fail
   rw [← HW.out];clear cs cz fz0;have cc:=blk3 HB5.out;refine bodyPost_ret (by simp [results,Tryz.results82,go_sem,cc];rfl) rfl ?_;exact⟨_,⟨ts,beta,[]⟩,rfl,⟨hTS,hBE,by simp,.inr (.inl rfl)⟩,ho5,hc5,HX5.out⟩
  have hl1:((l.length:Int) == 0)=false:=by simp;exact List.ne_nil_of_length_pos hl0
  go_wp2_with fail
  refine(s_l1Below g ((l.length:Int)) _ _ _ s.c).mono ?_;rintro e w3 ⟨xr,rfl,hxr0,hxr1,hcq,hzq⟩;replace s:=s.draw hcq hzq;replace ho2:=ho2.at1 hzq (by have h1:=HS1.out;omega);clear hcq hzq;obtain⟨xr,rfl⟩:=Int.eq_ofNat_of_zero_le hxr0;have hxr2:xr<l.length:=by omega
  clear hxr0 hxr1;have hmem:=HALL.out l[xr] (List.getElem_mem _);obtain⟨bc,offc,hbo,hci⟩:=ints_at (Bo ho2) xr hxr2
  cases hbo
  obtain⟨r0,hr0⟩:∃ r0,r0=l[xr]:=⟨_,rfl⟩
  rw [← hr0] at hmem hci;have HG0:Hid (Grown t kind ts beta r0 0 []):=Ac (Grown.start r0 hmem.1 hmem.2);clear hr0 hmem HALL
  go_wp2_with fail
  clear hci ho2 hlt hkl hl0 hl1 hlk
  go_loopg [10,11,12] 5 (fun gk r inn i wr=>∃ (k:Nat) (rr ii:Int) (hs:List Hop) (v:Value),gk+k=5∧r=.int .i64 rr∧inn=.int .i64 ii∧i=.int .i64 k∧hs.length=k∧Hid (Grown t kind ts beta rr ii hs)∧GrowSt g cv cd w w.heap.size (w.heap.size+1) b9 (.slice (some ⟨b1,off1,none⟩) t.ases.length c1) v2 ts beta v hs wr)
  case atStart=>exact⟨0,r0,0,[],_,rfl,rfl,rfl,rfl,rfl,HG0,s⟩
  case round=>
   clear s HG0;obtain⟨k,rr,ii,hs,v,hgk,rfl,rfl,rfl,hhl,HG,s⟩:=hrel;have HGK:=Ac hgk;have HHL:=Ac hhl;clear hgk hhl;obtain⟨hA,hI,_⟩:=HG.out.good T hTS;have HA:=Ac hA;obtain⟨hr0,hr1⟩:=isAs_lt hA;clear hA;obtain⟨rn,rfl⟩:=Int.eq_ofNat_of_zero_le hr0;have hrn:rn<t.ases.length:=by simpa using hr1
   clear hr0 hr1;obtain⟨ov,cw,rfl,_⟩:=(Bb (hf:=Ao) s.h).shape;have hk5:k≤5:=by have h1:=HGK.out;omega
   by_cases hk:(k:Int)<5
   ·
    have cp:=blk2 s.p
    go_wp2_with fail
    refine(s_InterfacesOfKind t _ _ rn kind _ (hkk.step s.x).rd (by have h1:=T.few;omega)).mono ?_;rintro e wd ⟨vd,rfl,od,hzd⟩;have hgd:=s.lt;replace s:=s.ext hzd;clear cp hzd
    obtain⟨ds,hds⟩:∃ ds,ds=ifsKind t rn kind:=⟨_,rfl⟩
    rw [← hds] at od;have HDS:=Ac hds;clear hds;obtain⟨oo,co,rfl,_⟩:=(Bo od).shape
    go_upto_region 17 with (fail)
    go_cut [67] (fun c wx=>∃ b:Bool,c=.bool b∧(b=true→0<ds.length)∧OwnF intF 1 wr.heap.size 3 wx (.slice oo ds.length co) ds∧GrowSt g cv cd w w.heap.size (w.heap.size+1) b9 (.slice (some ⟨b1,off1,none⟩) t.ases.length c1) v2 ts beta (.slice ov hs.length cw) hs wx)
    case first=>
     by_cases hd0:(0:Int)<ds.length
     ·
      go_wp2_with fail
      refine(s_l1Once g (5) _ _ _ s.c).mono ?_;rintro e wo ⟨b,rfl,hcq,hzq⟩;replace s:=s.draw hcq hzq;replace od:=od.at1 hzq hgd;clear hcq hzq
      go_wp2_with fail
      go_meet
      exact⟨_,rfl,fun _=>by omega,od,s⟩
     go_wp2_with fail
     go_meet
     exact⟨false,rfl,fun h=>(by cases h),od,s⟩
    case rest=>
     clear s od;obtain⟨b,rfl,hbd,od,s⟩:=hcut
     obtain⟨wz1,hwz⟩:∃ wz:World,wz=wc:=⟨_,rfl⟩
     subst hwz
     go_upto_if 67 with (fail)
     go_cut [13] (fun c wx=>∃ ou:Int,c=.int .i64 ou∧(ou=0∨ou∈ifsKind t rn kind)∧GrowSt g cv cd w w.heap.size (w.heap.size+1) b9 (.slice (some ⟨b1,off1,none⟩) t.ases.length c1) v2 ts beta (.slice ov hs.length cw) hs wx)
     case first=>
      cases b
      case false=>
       go_wp2_with fail
       go_meet
       exact⟨0,rfl,.inl rfl,s⟩
      case true=>
       have hd0:=hbd rfl
       go_wp2_with fail
       refine(s_l1Below g (ds.length:Int) _ _ _ s.c).mono ?_;rintro e wo ⟨xo,rfl,hxo0,hxo1,hcq,hzq⟩;replace s:=s.draw hcq hzq;replace od:=od.at1 hzq hgd;clear hcq hzq;obtain⟨xo,rfl⟩:=Int.eq_ofNat_of_zero_le hxo0;have hxo2:xo<ds.length:=by omega
       obtain⟨bo,offo,hbo,hco⟩:=ints_at (Bo od) xo hxo2
       cases hbo
       have hmo:ds[xo]∈ifsKind t rn kind:=by rw [← HDS.out];exact List.getElem_mem _
       obtain⟨ou,hou⟩:∃ ou,ou=ds[xo]:=⟨_,rfl⟩
       rw [← hou] at hmo hco;have HMO:=Ac hmo;clear hou hmo
       go_wp2_with fail
       go_meet
       exact⟨ou,rfl,.inr HMO.out,s⟩
     case rest=>
      clear s od hbd;obtain⟨ou,rfl,hou,s⟩:=hcut
      obtain⟨wz2,hwz⟩:∃ wz:World,wz=wc:=⟨_,rfl⟩
      subst hwz;have HOU:=Ac hou;clear hou;have cp:=blk2 s.p
      go_wp2_with fail
      refine(s_RemoteEnd t _ _ rn ou _ (hkk.step s.x).rd).mono ?_;rintro e w4 ⟨rfl,hze⟩;replace s:=s.ext hze;clear cp hze
      obtain⟨far,hfar⟩:∃ far,far=(remEnd t rn ou).1:=⟨_,rfl⟩
      obtain⟨door,hdoor⟩:∃ door,door=(remEnd t rn ou).2:=⟨_,rfl⟩
      rw [← hfar,← hdoor];have HFAR:=Ac hfar;have HDOOR:=Ac hdoor;clear hfar hdoor
      go_upto_region 20 with (fail)
      go_cut [99] (fun c wx=>∃ cb:Bool,c=.bool cb∧(cb=false→(ou≠0→hasI (asns hs) far=false)∧ii≠ou)∧GrowSt g cv cd w w.heap.size (w.heap.size+1) b9 (.slice (some ⟨b1,off1,none⟩) t.ases.length c1) v2 ts beta (.slice ov hs.length cw) hs wx)
      case first=>
       by_cases hz0:ou=0
       ·
        have hz1:(ou != 0)=false:=by simp [hz0]
        have HZ0:=Ac hz0;clear hz0
        go_wp2_with fail
        go_meet
        exact⟨_,rfl,fun h=>⟨fun h2=>absurd HZ0.out h2,by simpa using h⟩,s⟩
       have hz1:(ou != 0)=true:=by rw [bne_iff_ne];exact hz0
       have hmo:ou∈ifsKind t rn kind:=HOU.out.resolve_left hz0;have hfr:=(T.door (ifsKind_mem hmo).1).2.2.2.2;have hfr2:(far == (rn:Int))=false:=by rw [beq_eq_false_iff_ne,HFAR.out];exact hfr
       clear hmo hfr hz0;have cs:=blk3 s.s
       go_wp2_with fail
       refine(s_SegmentASes ⟨ts,beta,hs⟩ _ _ (Bb (hf:=Ao) s.h) (by simp only;have h1:=HHL.out;omega)).mono ?_;rintro e wsa ⟨va,rfl,oa,hza⟩;replace s:=s.ext hza;clear hza cs
       obtain⟨li,hli⟩:∃ li,li=(⟨ts,beta,hs⟩:Seg).hops.map (·.asn):=⟨_,rfl⟩
       rw [← hli] at oa;have HLI:Hid (li=asns hs):=Ac hli;clear hli;obtain⟨oas,cas,rfl,_⟩:=(Bo oa).shape
       go_wp2_with fail
       refine(s_l9Has _ _ far _ (Bo oa)).mono ?_;rintro e _ ⟨rfl,rfl⟩;clear oa
       cases hh:hasI li far
       ·
        have HH:=Ac hh;clear hh
        go_wp2_with fail
        go_meet
        exact⟨_,rfl,fun h=>⟨fun _=>by rw [← HLI.out];exact HH.out,by simpa using h⟩,s⟩
       clear hh
       go_wp2_with fail
       go_meet
       exact⟨true,rfl,fun h=>(by cases h),s⟩
      case rest=>
       clear s;obtain⟨cb,rfl,hcb,s⟩:=hcut
       obtain⟨wz3,hwz⟩:∃ wz:World,wz=wc:=⟨_,rfl⟩
       subst hwz
       go_upto_if 99 with (fail)
       go_cut [13] (fun c wx=>∃ ox:Int,c=.int .i64 ox∧((ox=0∧ii≠0)∨(ox=ou∧(ou≠0→hasI (asns hs) far=false)∧ii≠ou))∧GrowSt g cv cd w w.heap.size (w.heap.size+1) b9 (.slice (some ⟨b1,off1,none⟩) t.ases.length c1) v2 ts beta (.slice ov hs.length cw) hs wx)
       case first=>
        cases cb
        case false=>
         have hcc:=Ac (hcb rfl);clear hcb
         go_wp2_with fail
         go_meet
         exact⟨ou,rfl,.inr ⟨rfl,hcc.out⟩,s⟩
        case true=>
         clear hcb
         by_cases hi0:ii=0
         ·
          subst hi0;have cs:=blk3 s.s;have cz:=blk3 s.z;have fz0:=fr3 s.z;obtain⟨w5,hw5,hb5,ho5,hc5,hx5⟩:=s.fin;have HW:=Ac hw5;have HB5:=Ac hb5;have HX5:=Ac hx5;clear hw5 hb5 hx5
          go_wp2_with fail
          rw [← HW.out];clear cs cz fz0;have cc:=blk3 HB5.out;refine bodyPost_ret (by simp [results,Tryz.results82,go_sem,cc];rfl) rfl ?_;exact⟨_,⟨ts,beta,hs⟩,rfl,⟨hTS,hBE,by have h1:=HHL.out;simp only;omega,.inl ⟨rn,_,HG.out⟩⟩,ho5,hc5,HX5.out⟩
         have hi1:(ii == 0)=false:=by rw [beq_eq_false_iff_ne];exact hi0
         have HI0:=Ac hi0;clear hi0
         go_wp2_with fail
         go_meet
         exact⟨0,rfl,.inl ⟨rfl,HI0.out⟩,s⟩
       case rest=>
        clear s;obtain⟨ox,rfl,hox,s⟩:=hcut
        obtain⟨wz4,hwz⟩:∃ wz:World,wz=wc:=⟨_,rfl⟩
        subst hwz;have HOX:=Ac hox;clear hox hcb;have cs:=blk3 s.s
        go_upto_region 24 with (fail)
        clear cs
        go_cut [17] (fun p wx=>∃ (e:Int) (bh:Nat),p=.pointer (some ⟨bh,0,none⟩)∧ts+50≤e∧e≤ts+99∧wx.heap[bh]?=some (.cells #[.int .i64 (rn:Int),.int .i64 ii,.int .i64 ox,.int .i64 e,.int .i64 0] 103 (0,0))∧w.heap.size≤bh∧GrowSt g cv cd w w.heap.size (w.heap.size+1) b9 (.slice (some ⟨b1,off1,none⟩) t.ases.length c1) v2 ts beta (.slice ov hs.length cw) hs wx)
        case first=>
         replace s:=s.ext ((Ab _).drew);refine Ax (.blk [0,1,2,3,6] (.tri 4 7 10 (.blk [5] (.two 7 10 (.blk [8,9] (.one 10 (.one 11 .done))) (.one 7 (.blk [8,9] (.one 11 .done))))) (.blk [4,5,8,9] (.one 10 (.one 11 .done))) (.two 4 7 (.blk [5] (.one 7 (.blk [8,9] (.one 11 .done)))) (.blk [4,5,8,9] (.one 11 .done))))) [7,11] (by kernel_rfl) (by kernel_rfl) ?_;generalize wz4.drew=wdd at s ⊢
         refine blkStep (fun K HK=>?_);simp only [PK]
         go_wp2_with fail
         refine HK.out _ _ ?_;clear HK K;refine triStep ?_ ?_ ?_
         ·
          have cs:=blk3 s.s;refine oneStep (fun K HK=>?_);simp only [PK]
          go_wp2_with fail
          refine HK.out _ _ (Ab _) ?_;clear HK K cs;refine blkStep (fun K HK=>?_);simp only [PK]
          go_wp2_with fail
          refine HK.out _ _ ?_;clear HK K;refine twoStep ?_ ?_
          ·
           refine badStep (by kernel_rfl) (fun K HK=>?_);simp only [PK]
           go_wp2_with fail
           refine(s_l1Below g (50) _ _ _ s.c).mono ?_;rintro e w5 ⟨xe,rfl,hxe0,hxe1,hcq,hzq⟩;replace s:=s.draw hcq hzq;clear hcq hzq;have hxe2:xe<50:=by omega
           clear hxe1
           go_wp2_with fail
           refine HK.out _ _ ?_;clear HK K;refine blkStep (fun K HK=>?_);simp only [PK]
           go_wp2_with fail
           refine HK.out _ _ ?_;clear HK K
           obtain⟨wq,hwq⟩:∃ wq:World,wq=w5:=⟨_,rfl⟩
           rw [← hwq] at s ⊢
           clear hwq;have hneh0:∀ q,((.slice ov hs.length cw):Value).ownBlock=some q→q<wq.heap.size:=fun q hq=>(s.h.block q hq).2
           refine oneStep (fun K HK=>?_);simp only [PK]
           go_wp2_with fail
           refine HK.out _ _ ((Ab _).alloc _) ?_;clear HK K;replace s:=s.ext ((Ab _).alloc (.cells #[.int .i64 0,.int .i64 0,.int .i64 0,.int .i64 0,.int .i64 0] 103));have hbh:=blk_new wq (.cells #[.int .i64 0,.int .i64 0,.int .i64 0,.int .i64 0,.int .i64 0] 103);have hbb:=Ad s.base (Ae _);have hbw:w.heap.size≤wq.heap.size:=by have h1:=s.h9;have h2:=blk_lt s.z;have h3:=s.h4;have h4:=s.h6;simp at h2;omega
           obtain⟨bh,hbhe⟩:∃ bh,bh=wq.heap.size:=⟨_,rfl⟩
           rw [← hbhe] at hbh hbw hneh0 ⊢
           generalize wq.alloc (.cells #[.int .i64 0,.int .i64 0,.int .i64 0,.int .i64 0,.int .i64 0] 103)=wal at s hbh ⊢
           clear hbb hbhe;obtain⟨wS,hwS,hbS,hcS⟩:=rs_set hbh (.int .i64 (rn:Int)) (.int .i64 ii) (.int .i64 ox) (.int .i64 (ts+50+xe)) (.int .i64 0);have HWS:=Ac hwS;have hne9:bh≠b9:=fun e=>by have h1:=s.s;rw [← e,hbh] at h1;simp at h1
           have hne6:bh≠w.heap.size+1:=fun e=>by have h1:=s.z;rw [← e,hbh] at h1;simp at h1
           have hne4:bh≠w.heap.size:=fun e=>by have h1:=s.p;rw [← e,hbh] at h1;simp at h1
           have hneh:∀ q,((.slice ov hs.length cw):Value).ownBlock=some q→q≠bh:=fun q hq e=>by have h1:=hneh0 q hq;omega
           have sS:GrowSt g cv cd w w.heap.size (w.heap.size+1) b9 (.slice (some ⟨b1,off1,none⟩) t.ases.length c1) v2 ts beta (.slice ov hs.length cw) hs wS:=by
            have hup:=Chg.up s.x hcS (fun i hi=>by have h1:i=bh:=hi;omega);exact⟨hcS.blkS s.p (fun e=>hne4 (Eq.symm e)),hcS.blkS s.z (fun e=>hne6 (Eq.symm e)),hcS.blkS s.s (fun e=>hne9 (Eq.symm e)),s.h.chg hcS (fun q hq e=>hneh q hq e),Cur.kept s.c0 s.c hcS (fun e=>by have h1:=s.c0.lt;have h2:g=bh:=e;omega) hup,hup,s.c0,s.h4,s.h6,s.h9⟩
           have HBS:=Ac hbS;have cR:=blk5 hbh;have fR0:=fr5 hbh;clear hwS hbS hcS;refine badStep (by kernel_rfl) (fun K HK=>?_);simp only [PK]
           go_wp2_with fail
           refine HK.out _ _ ?_;clear HK K cR fR0;rw [← HWS.out];refine Ap (by kernel_rfl) ?_
           go_wp2_with fail
           go_meet
           exact⟨ts+50+xe,bh,rfl,by omega,by omega,HBS.out,hbw,sS⟩
          obtain⟨wq,hwq⟩:∃ wq:World,wq=wdd:=⟨_,rfl⟩
          rw [← hwq] at s ⊢
          clear hwq;have hneh0:∀ q,((.slice ov hs.length cw):Value).ownBlock=some q→q<wq.heap.size:=fun q hq=>(s.h.block q hq).2
          refine oneStep (fun K HK=>?_);simp only [PK]
          go_wp2_with fail
          refine HK.out _ _ ((Ab _).alloc _) ?_;clear HK K;replace s:=s.ext ((Ab _).alloc (.cells #[.int .i64 0,.int .i64 0,.int .i64 0,.int .i64 0,.int .i64 0] 103));have hbh:=blk_new wq (.cells #[.int .i64 0,.int .i64 0,.int .i64 0,.int .i64 0,.int .i64 0] 103);have hbb:=Ad s.base (Ae _);have hbw:w.heap.size≤wq.heap.size:=by have h1:=s.h9;have h2:=blk_lt s.z;have h3:=s.h4;have h4:=s.h6;simp at h2;omega
          obtain⟨bh,hbhe⟩:∃ bh,bh=wq.heap.size:=⟨_,rfl⟩
          rw [← hbhe] at hbh hbw hneh0 ⊢
          generalize wq.alloc (.cells #[.int .i64 0,.int .i64 0,.int .i64 0,.int .i64 0,.int .i64 0] 103)=wal at s hbh ⊢
          clear hbb hbhe;refine badStep (by kernel_rfl) (fun K HK=>?_);simp only [PK]
          go_wp2_with fail
          refine(s_l1Below g (50) _ _ _ s.c).mono ?_;rintro e w6 ⟨xe,rfl,hxe0,hxe1,hcq,hzq⟩;replace s:=s.draw hcq hzq;replace hbh:=hzq.blkS hbh (by have h1:=s.c0.lt;unfold at1;omega);clear hcq hzq;have hxe2:xe<50:=by omega
          clear hxe1
          go_wp2_with fail
          refine HK.out _ _ ?_;clear HK K;refine blkStep (fun K HK=>?_);simp only [PK]
          go_wp2_with fail
          refine HK.out _ _ ?_;clear HK K;obtain⟨wS,hwS,hbS,hcS⟩:=rs_set hbh (.int .i64 (rn:Int)) (.int .i64 ii) (.int .i64 ox) (.int .i64 (ts+50+xe)) (.int .i64 0);have HWS:=Ac hwS;have hne9:bh≠b9:=fun e=>by have h1:=s.s;rw [← e,hbh] at h1;simp at h1
          have hne6:bh≠w.heap.size+1:=fun e=>by have h1:=s.z;rw [← e,hbh] at h1;simp at h1
          have hne4:bh≠w.heap.size:=fun e=>by have h1:=s.p;rw [← e,hbh] at h1;simp at h1
          have hneh:∀ q,((.slice ov hs.length cw):Value).ownBlock=some q→q≠bh:=fun q hq e=>by have h1:=hneh0 q hq;omega
          have sS:GrowSt g cv cd w w.heap.size (w.heap.size+1) b9 (.slice (some ⟨b1,off1,none⟩) t.ases.length c1) v2 ts beta (.slice ov hs.length cw) hs wS:=by
           have hup:=Chg.up s.x hcS (fun i hi=>by have h1:i=bh:=hi;omega);exact⟨hcS.blkS s.p (fun e=>hne4 (Eq.symm e)),hcS.blkS s.z (fun e=>hne6 (Eq.symm e)),hcS.blkS s.s (fun e=>hne9 (Eq.symm e)),s.h.chg hcS (fun q hq e=>hneh q hq e),Cur.kept s.c0 s.c hcS (fun e=>by have h1:=s.c0.lt;have h2:g=bh:=e;omega) hup,hup,s.c0,s.h4,s.h6,s.h9⟩
          have HBS:=Ac hbS;have cR:=blk5 hbh;have fR0:=fr5 hbh;clear hwS hbS hcS;refine badStep (by kernel_rfl) (fun K HK=>?_);simp only [PK]
          go_wp2_with fail
          refine HK.out _ _ ?_;clear HK K cR fR0;rw [← HWS.out];refine Ap (by kernel_rfl) ?_
          go_wp2_with fail
          go_meet
          exact⟨ts+50+xe,bh,rfl,by omega,by omega,HBS.out,hbw,sS⟩
         ·
          refine badStep (by kernel_rfl) (fun K HK=>?_);simp only [PK]
          go_wp2_with fail
          refine(s_l1Below g (50) _ _ _ s.c).mono ?_;rintro e w7 ⟨xe,rfl,hxe0,hxe1,hcq,hzq⟩;replace s:=s.draw hcq hzq;clear hcq hzq;have hxe2:xe<50:=by omega
          clear hxe1
          go_wp2_with fail
          refine HK.out _ _ ?_;clear HK K;have cs:=blk3 s.s;refine blkStep (fun K HK=>?_);simp only [PK]
          go_wp2_with fail
          refine HK.out _ _ ?_;clear HK K;clear cs
          obtain⟨wq,hwq⟩:∃ wq:World,wq=w7:=⟨_,rfl⟩
          rw [← hwq] at s ⊢
          clear hwq;have hneh0:∀ q,((.slice ov hs.length cw):Value).ownBlock=some q→q<wq.heap.size:=fun q hq=>(s.h.block q hq).2
          refine oneStep (fun K HK=>?_);simp only [PK]
          go_wp2_with fail
          refine HK.out _ _ ((Ab _).alloc _) ?_;clear HK K;replace s:=s.ext ((Ab _).alloc (.cells #[.int .i64 0,.int .i64 0,.int .i64 0,.int .i64 0,.int .i64 0] 103));have hbh:=blk_new wq (.cells #[.int .i64 0,.int .i64 0,.int .i64 0,.int .i64 0,.int .i64 0] 103);have hbb:=Ad s.base (Ae _);have hbw:w.heap.size≤wq.heap.size:=by have h1:=s.h9;have h2:=blk_lt s.z;have h3:=s.h4;have h4:=s.h6;simp at h2;omega
          obtain⟨bh,hbhe⟩:∃ bh,bh=wq.heap.size:=⟨_,rfl⟩
          rw [← hbhe] at hbh hbw hneh0 ⊢
          generalize wq.alloc (.cells #[.int .i64 0,.int .i64 0,.int .i64 0,.int .i64 0,.int .i64 0] 103)=wal at s hbh ⊢
          clear hbb hbhe;obtain⟨wS,hwS,hbS,hcS⟩:=rs_set hbh (.int .i64 (rn:Int)) (.int .i64 ii) (.int .i64 ox) (.int .i64 (ts+50+xe)) (.int .i64 0);have HWS:=Ac hwS;have hne9:bh≠b9:=fun e=>by have h1:=s.s;rw [← e,hbh] at h1;simp at h1
          have hne6:bh≠w.heap.size+1:=fun e=>by have h1:=s.z;rw [← e,hbh] at h1;simp at h1
          have hne4:bh≠w.heap.size:=fun e=>by have h1:=s.p;rw [← e,hbh] at h1;simp at h1
          have hneh:∀ q,((.slice ov hs.length cw):Value).ownBlock=some q→q≠bh:=fun q hq e=>by have h1:=hneh0 q hq;omega
          have sS:GrowSt g cv cd w w.heap.size (w.heap.size+1) b9 (.slice (some ⟨b1,off1,none⟩) t.ases.length c1) v2 ts beta (.slice ov hs.length cw) hs wS:=by
           have hup:=Chg.up s.x hcS (fun i hi=>by have h1:i=bh:=hi;omega);exact⟨hcS.blkS s.p (fun e=>hne4 (Eq.symm e)),hcS.blkS s.z (fun e=>hne6 (Eq.symm e)),hcS.blkS s.s (fun e=>hne9 (Eq.symm e)),s.h.chg hcS (fun q hq e=>hneh q hq e),Cur.kept s.c0 s.c hcS (fun e=>by have h1:=s.c0.lt;have h2:g=bh:=e;omega) hup,hup,s.c0,s.h4,s.h6,s.h9⟩
          have HBS:=Ac hbS;have cR:=blk5 hbh;have fR0:=fr5 hbh;clear hwS hbS hcS;refine badStep (by kernel_rfl) (fun K HK=>?_);simp only [PK]
          go_wp2_with fail
          refine HK.out _ _ ?_;clear HK K cR fR0;rw [← HWS.out];refine Ap (by kernel_rfl) ?_
          go_wp2_with fail
          go_meet
          exact⟨ts+50+xe,bh,rfl,by omega,by omega,HBS.out,hbw,sS⟩
         obtain⟨wq,hwq⟩:∃ wq:World,wq=wdd:=⟨_,rfl⟩
         rw [← hwq] at s ⊢
         clear hwq;have hneh0:∀ q,((.slice ov hs.length cw):Value).ownBlock=some q→q<wq.heap.size:=fun q hq=>(s.h.block q hq).2
         refine oneStep (fun K HK=>?_);simp only [PK]
         go_wp2_with fail
         refine HK.out _ _ ((Ab _).alloc _) ?_;clear HK K;replace s:=s.ext ((Ab _).alloc (.cells #[.int .i64 0,.int .i64 0,.int .i64 0,.int .i64 0,.int .i64 0] 103));have hbh:=blk_new wq (.cells #[.int .i64 0,.int .i64 0,.int .i64 0,.int .i64 0,.int .i64 0] 103);have hbb:=Ad s.base (Ae _);have hbw:w.heap.size≤wq.heap.size:=by have h1:=s.h9;have h2:=blk_lt s.z;have h3:=s.h4;have h4:=s.h6;simp at h2;omega
         obtain⟨bh,hbhe⟩:∃ bh,bh=wq.heap.size:=⟨_,rfl⟩
         rw [← hbhe] at hbh hbw hneh0 ⊢
         generalize wq.alloc (.cells #[.int .i64 0,.int .i64 0,.int .i64 0,.int .i64 0,.int .i64 0] 103)=wal at s hbh ⊢
         clear hbb hbhe;refine twoStep ?_ ?_
         ·
          have cs:=blk3 s.s;refine oneStep (fun K HK=>?_);simp only [PK]
          go_wp2_with fail
          refine HK.out _ _ (Ab _) ?_;clear HK K cs;refine blkStep (fun K HK=>?_);simp only [PK]
          go_wp2_with fail
          refine HK.out _ _ ?_;clear HK K;refine badStep (by kernel_rfl) (fun K HK=>?_);simp only [PK]
          go_wp2_with fail
          refine(s_l1Below g (50) _ _ _ s.c).mono ?_;rintro e w8 ⟨xe,rfl,hxe0,hxe1,hcq,hzq⟩;replace s:=s.draw hcq hzq;replace hbh:=hzq.blkS hbh (by have h1:=s.c0.lt;unfold at1;omega);clear hcq hzq;have hxe2:xe<50:=by omega
          clear hxe1
          go_wp2_with fail
          refine HK.out _ _ ?_;clear HK K;refine blkStep (fun K HK=>?_);simp only [PK]
          go_wp2_with fail
          refine HK.out _ _ ?_;clear HK K;obtain⟨wS,hwS,hbS,hcS⟩:=rs_set hbh (.int .i64 (rn:Int)) (.int .i64 ii) (.int .i64 ox) (.int .i64 (ts+50+xe)) (.int .i64 0);have HWS:=Ac hwS;have hne9:bh≠b9:=fun e=>by have h1:=s.s;rw [← e,hbh] at h1;simp at h1
          have hne6:bh≠w.heap.size+1:=fun e=>by have h1:=s.z;rw [← e,hbh] at h1;simp at h1
          have hne4:bh≠w.heap.size:=fun e=>by have h1:=s.p;rw [← e,hbh] at h1;simp at h1
          have hneh:∀ q,((.slice ov hs.length cw):Value).ownBlock=some q→q≠bh:=fun q hq e=>by have h1:=hneh0 q hq;omega
          have sS:GrowSt g cv cd w w.heap.size (w.heap.size+1) b9 (.slice (some ⟨b1,off1,none⟩) t.ases.length c1) v2 ts beta (.slice ov hs.length cw) hs wS:=by
           have hup:=Chg.up s.x hcS (fun i hi=>by have h1:i=bh:=hi;omega);exact⟨hcS.blkS s.p (fun e=>hne4 (Eq.symm e)),hcS.blkS s.z (fun e=>hne6 (Eq.symm e)),hcS.blkS s.s (fun e=>hne9 (Eq.symm e)),s.h.chg hcS (fun q hq e=>hneh q hq e),Cur.kept s.c0 s.c hcS (fun e=>by have h1:=s.c0.lt;have h2:g=bh:=e;omega) hup,hup,s.c0,s.h4,s.h6,s.h9⟩
          have HBS:=Ac hbS;have cR:=blk5 hbh;have fR0:=fr5 hbh;clear hwS hbS hcS;refine badStep (by kernel_rfl) (fun K HK=>?_);simp only [PK]
          go_wp2_with fail
          refine HK.out _ _ ?_;clear HK K cR fR0;rw [← HWS.out];refine Ap (by kernel_rfl) ?_
          go_wp2_with fail
          go_meet
          exact⟨ts+50+xe,bh,rfl,by omega,by omega,HBS.out,hbw,sS⟩
         refine badStep (by kernel_rfl) (fun K HK=>?_);simp only [PK]
         go_wp2_with fail
         refine(s_l1Below g (50) _ _ _ s.c).mono ?_;rintro e w9 ⟨xe,rfl,hxe0,hxe1,hcq,hzq⟩;replace s:=s.draw hcq hzq;replace hbh:=hzq.blkS hbh (by have h1:=s.c0.lt;unfold at1;omega);clear hcq hzq;have hxe2:xe<50:=by omega
         clear hxe1
         go_wp2_with fail
         refine HK.out _ _ ?_;clear HK K;have cs:=blk3 s.s;refine blkStep (fun K HK=>?_);simp only [PK]
         go_wp2_with fail
         refine HK.out _ _ ?_;clear HK K;clear cs;obtain⟨wS,hwS,hbS,hcS⟩:=rs_set hbh (.int .i64 (rn:Int)) (.int .i64 ii) (.int .i64 ox) (.int .i64 (ts+50+xe)) (.int .i64 0);have HWS:=Ac hwS;have hne9:bh≠b9:=fun e=>by have h1:=s.s;rw [← e,hbh] at h1;simp at h1
         have hne6:bh≠w.heap.size+1:=fun e=>by have h1:=s.z;rw [← e,hbh] at h1;simp at h1
         have hne4:bh≠w.heap.size:=fun e=>by have h1:=s.p;rw [← e,hbh] at h1;simp at h1
         have hneh:∀ q,((.slice ov hs.length cw):Value).ownBlock=some q→q≠bh:=fun q hq e=>by have h1:=hneh0 q hq;omega
         have sS:GrowSt g cv cd w w.heap.size (w.heap.size+1) b9 (.slice (some ⟨b1,off1,none⟩) t.ases.length c1) v2 ts beta (.slice ov hs.length cw) hs wS:=by
          have hup:=Chg.up s.x hcS (fun i hi=>by have h1:i=bh:=hi;omega);exact⟨hcS.blkS s.p (fun e=>hne4 (Eq.symm e)),hcS.blkS s.z (fun e=>hne6 (Eq.symm e)),hcS.blkS s.s (fun e=>hne9 (Eq.symm e)),s.h.chg hcS (fun q hq e=>hneh q hq e),Cur.kept s.c0 s.c hcS (fun e=>by have h1:=s.c0.lt;have h2:g=bh:=e;omega) hup,hup,s.c0,s.h4,s.h6,s.h9⟩
         have HBS:=Ac hbS;have cR:=blk5 hbh;have fR0:=fr5 hbh;clear hwS hbS hcS;refine badStep (by kernel_rfl) (fun K HK=>?_);simp only [PK]
         go_wp2_with fail
         refine HK.out _ _ ?_;clear HK K cR fR0;rw [← HWS.out];refine Ap (by kernel_rfl) ?_
         go_wp2_with fail
         go_meet
         exact⟨ts+50+xe,bh,rfl,by omega,by omega,HBS.out,hbw,sS⟩
        case rest=>
         clear s;obtain⟨xe,bh,rfl,he0,he1,hbh,hbw,s⟩:=hcut
         obtain⟨wz,hwz⟩:∃ wz:World,wz=wc:=⟨_,rfl⟩
         subst hwz
         go_upto_region 25 with (fail)
         replace s:=s.ext ((Ab _).drew);replace hbh:=((Ab wz).drew).block hbh;refine Ax (.blk [0,1,2,3,4,5,6,7,8,9,10,11,12,13,15] (.one 14 (.one 16 (.one 17 (.one 18 (.blk [19] (.one 20 .done))))))) [18,20] (by kernel_rfl) (by kernel_rfl) ?_;generalize wz.drew=wzd at s hbh ⊢
         have cp:=blk2 s.p;have cs:=blk3 s.s;have ch:=blk5 hbh;obtain⟨b1',off1',hbo,hca⟩:=ASd.at (ha.step s.x).rd rn hrn
         cases hbo
         have hrn2:(rn:Int)<t.ases.length:=by omega
         refine blkStep (fun K HK=>?_);simp only [PK]
         go_wp2_with fail
         refine HK.out _ _ ?_;clear HK K;clear cp cs ch hca;refine oneStep (fun K HK=>?_);simp only [PK]
         go_wp2_with fail
         refine(s_BetaAt ⟨ts,beta,hs⟩ _ (hs.length:Int) _ (Bb (hf:=Ao) s.h) (by simp only;have h1:=HHL.out;omega)).mono ?_;rintro e wA ⟨rfl,hzA⟩;replace s:=s.ext hzA
         go_wp2_with fail
         refine HK.out _ _ hzA ?_;clear HK K hzA
         obtain⟨be,hbe⟩:∃ be,be=betaAt ⟨ts,beta,hs⟩ (hs.length:Int):=⟨_,rfl⟩
         rw [← hbe];have HXX:Hid ((⟨rn,ii,ox,xe,hopMac t.ases[rn].key ts be ⟨rn,ii,ox,xe,0⟩⟩:Hop)=sealHop (asAt t rn).key ts (betaAt ⟨ts,beta,hs⟩ (hs.length:Int)) ⟨rn,ii,ox,xe,0⟩):=Ac (by rw [hbe,asAt_at (by omega) (by simpa using hrn)];rfl);clear hbe;refine oneStep (fun K HK=>?_);simp only [PK]
         go_wp2_with fail
         refine(s_AuthenticateHop t.ases[rn].key ts be ⟨rn,ii,ox,xe,0⟩ _).mono ?_;rintro e wB ⟨rfl,hzB⟩;replace s:=s.ext hzB
         go_wp2_with fail
         refine HK.out _ _ hzB ?_;clear HK K hzB hbh;generalize hmc:hopMac t.ases[rn].key ts be ⟨rn,ii,ox,xe,0⟩=mc at HXX ⊢
         clear hmc;refine oneStep (fun K HK=>?_);simp only [PK]
         go_wp2_with fail
         refine HK.out _ _ ((Ab _).alloc _) ?_;clear HK K;refine badStep (by kernel_rfl) (fun K HK=>?_);simp only [PK];refine app1 EH Ao Hop.one rfl _ _ rfl (⟨rn,ii,ox,xe,mc⟩:Hop) rfl (Ay s.h ((Ab _).alloc _)) rfl (by exact Au (Hop.f ⟨rn,ii,ox,xe,mc⟩) (blk_new _ _)) (by have h1:=HHL.out;omega) (by have h1:=HHL.out;unfold maxLen;omega) (by have h1:=s.base;simp;omega) ?_;intro v' w' ho' hg';replace s:=s.ext ((Ab _).alloc (.cells #[.int .i64 (rn:Int),.int .i64 ii,.int .i64 ox,.int .i64 xe,.int .i64 mc] 103))
         go_wp2_with fail
         refine HK.out _ _ ?_;clear HK K;refine blkStep (fun K HK=>?_);simp only [PK]
         go_wp2_with fail
         refine HK.out _ _ ?_;clear HK K;have cf:=blk3 (own_ne s.h s.s (by decide) hg');have ff:=fr_of (own_ne s.h s.s (by decide) hg') 2;replace s:=s.push ho' hg';obtain⟨o',c',rfl⟩:∃ o' c',v'=.slice o' (hs.length+1) c':=by obtain⟨o',c',h,_⟩:=(Bb (hf:=Ao) ho').shape;exact⟨o',c',by simpa using h⟩
         clear ho' hg';refine badStep (by kernel_rfl) (fun K HK=>?_);simp only [PK]
         go_wp2_with fail
         refine HK.out _ _ ?_;clear HK K cf ff;refine Ap (by kernel_rfl) ?_;generalize World.setCell w' ⟨b9,2,none⟩ (.slice o' (hs.length+1) c')=wF at s ⊢
         by_cases ho0:ox=0
         ·
          subst ho0;have hi0:ii≠0:=by rcases HOX.out with h | h;exact h.2;rw [← h.1] at h;exact h.2.2
          have HI0:=Ac hi0;clear hi0;have cs:=blk3 s.s;have cz:=blk3 s.z;have fz0:=fr3 s.z;obtain⟨w5,hw5,hb5,ho5,hc5,hx5⟩:=s.fin;have HW:=Ac hw5;have HB5:=Ac hb5;have HX5:=Ac hx5;clear hw5 hb5 hx5
          go_wp2_with fail
          rw [← HW.out];clear cs cz fz0;have cc:=blk3 HB5.out;refine bodyPost_ret (by simp [results,Tryz.results82,go_sem,cc];rfl) rfl ?_;exact⟨_,⟨ts,beta,_⟩,rfl,⟨hTS,hBE,by have h1:=HHL.out;simp;omega,.inr (.inr ⟨rn,ii,xe,hs,HG.out,HI0.out,he0,he1,by rw [HXX.out]⟩)⟩,ho5,hc5,HX5.out⟩
         have ho1:(ox == 0)=false:=by rw [beq_eq_false_iff_ne];exact ho0
         have HF : Hid (ox = ou ∧ ou ∈ ifsKind t rn kind ∧ hasI (asns hs) far = false ∧ ii ≠ ou) := Ac (by
          rcases HOX.out with h | h
          ·
           exact absurd h.1 ho0
          exact ⟨h.1, HOU.out.resolve_left (by rw [← h.1]; exact ho0), h.2.1 (by rw [← h.1]; exact ho0), h.2.2⟩)
         clear ho0
         go_wp2_with fail
         go_roundg (gk - 1)
         case measure=>have h1:=HGK.out;omega
         case rel=>exact⟨k+1,far,door,_,_,by have h1:=HGK.out;omega,rfl,rfl,congrArg (Value.int .i64) (by first | omega | (unfold wrap64;omega)),by simp [HHL.out],Ac (by obtain⟨h1,h2,h3,h4⟩:=HF.out;rw [HXX.out,HFAR.out,HDOOR.out];subst h1;exact Grown.step rn ii ox xe hs HG.out h2 (by rw [← HFAR.out];exact h3) h4 he0 he1),s⟩
   have cs:=blk3 s.s;have cz:=blk3 s.z;have fz0:=fr3 s.z;obtain⟨w5,hw5,hb5,ho5,hc5,hx5⟩:=s.fin;have HW:=Ac hw5;have HB5:=Ac hb5;have HX5:=Ac hx5;clear hw5 hb5 hx5
   go_wp2_with fail
   rw [← HW.out];clear cs cz fz0;have cc:=blk3 HB5.out;refine bodyPost_ret (by simp [results,Tryz.results82,go_sem,cc];rfl) rfl ?_;exact⟨_,⟨ts,beta,hs⟩,rfl,⟨hTS,hBE,by have h1:=HHL.out;simp only;omega,.inl ⟨rn,_,HG.out⟩⟩,ho5,hc5,HX5.out⟩
end
end Go.Proofs.YteodlcpeoaggbaaGreat
