/- What these laws need: FnWalks: Contracts of the interfaces of a trace, program and reference. -/
import Derived.Test.YteodlcpeoaggbaaGreatKV8
import Derived.Test.YteodlcpeoaggbaaGreatKV39
namespace Go.Proofs.YteodlcpeoaggbaaGreat
section
open Go.ChangeShapes Go.WideShapes Go.ChangeAt Go.RowKit Go.Deep
set_option maxHeartbeats 4000000
theorem i_TraceInterfaces (x:Trc) (v0 v1 v2:Value) (w:World) (r0:RdS Step.rep w v0 x.steps) (_:RdS Part.rep w v1 x.pkt.path.parts) (_:RdS Rep.byte w v2 x.pkt.pay) (hl:x.size≤1048576) :
  Calls Tryz.prog 19 #[.agg #[.int .i64 x.code,v0,.int .i64 x.pkt.kind,.int .i64 x.pkt.src,.int .i64 x.pkt.dst,v1,.int .i64 x.pkt.pi,.int .i64 x.pkt.hi,.int .i64 x.pkt.beta,.int .i64 x.pkt.rid,.int .i64 x.pkt.seq,v2]] w fun e w'=>∃ v',e=.returned v'∧OwnF intF 1 w.heap.size 3 w' v' (usedIfs x.steps)∧Ext w w':=by
 have hx0:Ext w (w.alloc (.cells #[.int .i64 x.code,v0,.int .i64 x.pkt.kind,.int .i64 x.pkt.src,.int .i64 x.pkt.dst,v1,.int .i64 x.pkt.pi,.int .i64 x.pkt.hi,.int .i64 x.pkt.beta,.int .i64 x.pkt.rid,.int .i64 x.pkt.seq,v2] 40)):=(Ab _).alloc _
 go_enter Tryz.func19,Tryz.ntmps19
 go_wp2_with fail
 refine(i_numbered x.steps _ _ (r0.ext hx0) (by unfold Trc.size at hl;omega)).mono ?_;rintro e w1 ⟨u1,rfl,o1,h1⟩
 go_wp2_with fail
 go_ret
 exact⟨_,rfl,o1.mono hx0.size,hx0.trans h1⟩
set_option maxRecDepth 100000 in
theorem s_TraceInterfaces (x:Trc) (v0 v1 v2:Value) (w:World) (r0:RdS Step.rep w v0 x.steps) (_:RdS Part.rep w v1 x.pkt.path.parts) (_:RdS Rep.byte w v2 x.pkt.pay) (hl:x.size≤1048576) :
  Calls Tryz.prog 20 #[.agg #[.int .i64 x.code,v0,.int .i64 x.pkt.kind,.int .i64 x.pkt.src,.int .i64 x.pkt.dst,v1,.int .i64 x.pkt.pi,.int .i64 x.pkt.hi,.int .i64 x.pkt.beta,.int .i64 x.pkt.rid,.int .i64 x.pkt.seq,v2]] w fun e w'=>∃ v',e=.returned v'∧OwnF intF 1 w.heap.size 3 w' v' (usedIfs x.steps)∧Ext w w':=by
 obtain⟨E⟩:=elemInt;obtain⟨code,l,pk⟩:=x;dsimp only at r0 hl ⊢
 obtain⟨o,cap,rfl,hsm⟩:=r0.shape;have hlS:l.length≤1048576:=by unfold Trc.size at hl;dsimp only at hl;omega
 clear hl;obtain⟨hx0,HB0⟩:=ea1 w (.cells #[.int .i64 code,.slice o l.length cap,.int .i64 pk.kind,.int .i64 pk.src,.int .i64 pk.dst,v1,.int .i64 pk.pi,.int .i64 pk.hi,.int .i64 pk.beta,.int .i64 pk.rid,.int .i64 pk.seq,v2] 40);replace HB0:=Ac HB0;have ho0:=Bj intF 1 (w.alloc (.cells #[.int .i64 code,.slice o l.length cap,.int .i64 pk.kind,.int .i64 pk.src,.int .i64 pk.dst,v1,.int .i64 pk.pi,.int .i64 pk.hi,.int .i64 pk.beta,.int .i64 pk.rid,.int .i64 pk.seq,v2] 40)).heap.size 3 (w.alloc (.cells #[.int .i64 code,.slice o l.length cap,.int .i64 pk.kind,.int .i64 pk.src,.int .i64 pk.dst,v1,.int .i64 pk.pi,.int .i64 pk.hi,.int .i64 pk.beta,.int .i64 pk.rid,.int .i64 pk.seq,v2] 40)) (Ae _);have hv:=r0.ext hx0;have hxe:Ext (w.alloc (.cells #[.int .i64 code,.slice o l.length cap,.int .i64 pk.kind,.int .i64 pk.src,.int .i64 pk.dst,v1,.int .i64 pk.pi,.int .i64 pk.hi,.int .i64 pk.beta,.int .i64 pk.rid,.int .i64 pk.seq,v2] 40)) ((w.alloc (.cells #[.int .i64 code,.slice o l.length cap,.int .i64 pk.kind,.int .i64 pk.src,.int .i64 pk.dst,v1,.int .i64 pk.pi,.int .i64 pk.hi,.int .i64 pk.beta,.int .i64 pk.rid,.int .i64 pk.seq,v2] 40)).alloc (.cells #[] 3)):=(Ab _).alloc _;simp only [nblk_alloc] at ho0
 go_enter Tryz.func20,Tryz.ntmps20
 go_wp2
 go_loopg [3,4] l.length (fun gk out i wr=>∃ k:Nat,gk+k=l.length∧i=.int .i64 k∧OwnF intF 1 (w.heap.size+1) 3 wr out (usedIfs (l.take k))∧Ext (w.alloc (.cells #[.int .i64 code,.slice o l.length cap,.int .i64 pk.kind,.int .i64 pk.src,.int .i64 pk.dst,v1,.int .i64 pk.pi,.int .i64 pk.hi,.int .i64 pk.beta,.int .i64 pk.rid,.int .i64 pk.seq,v2] 40)) wr)
 case atStart=>exact⟨0,rfl,rfl,ho0,hxe⟩
 case round=>
  obtain⟨k,hgk,rfl,hown,hx⟩:=hrel;have hbx:=blk12 (Aa hx HB0.out);have hln:(usedIfs (l.take k)).length≤2 * k:=Ad (usedIfs_len _) (by have:=List.length_take_le k l;omega)
  by_cases hlt:k<l.length
  ·
   obtain⟨b,off,rfl,hc⟩:=Step.at (hv.ext hx) k hlt;have hg':gk - 1+(k+1)=l.length∧gk - 1<gk:=by omega
   have HG:=Ac hg';clear hg' hgk;have HS:=Ac (usedIfs_snoc hlt);generalize usedIfs (l.take k)=out at *
   cases h1:(l[k].ing != 0)
   ·
    cases h2:(l[k].eg != 0)
    ·
     have HE:=Ac (HS.out.trans (by rw [stepIfs_00 h1 h2,List.append_nil]))
     go_wp2_with fail
     go_roundg (gk - 1)
     case measure=>exact HG.out.2
     case rel=>exact⟨k+1,HG.out.1,by go_num,by rw [HE.out];exact hown,hx⟩
    have HE:=Ac (HS.out.trans (by rw [stepIfs_01 h1 h2]))
    go_wp2_with fail
    refine Ax (.blk [0,1,2,3,4,5,6,7,8,9,10,11,12,13,14] (.one 15 (.one 16 (.blk [17] .done)))) [16] (by kernel_rfl) (by kernel_rfl) ?_;refine blkStep (fun K HK=>?_);simp only [PK]
    go_wp2_with fail
    refine HK.out _ _ ?_;clear HK K;refine oneStep (fun K HK=>?_);simp only [PK]
    go_wp2_with fail
    refine HK.out _ _ ((Ab _).alloc _) ?_;clear HK K;refine badStep (by kernel_rfl) (fun K HK=>?_);simp only [PK];refine app1 E intFlen intOne rfl _ _ rfl (ifNum l[k].asn l[k].eg) rfl (Ay hown ((Ab _).drew.alloc _)) rfl (by exact Au (intF (ifNum l[k].asn l[k].eg)) (blk_new wr _)) (by first | omega | (simp only [List.length_append,List.length_cons,List.length_nil];omega)) (by first | (unfold maxLen;omega) | (simp only [List.length_append,List.length_cons,List.length_nil,maxLen];omega)) (by have:=(hx.drew.alloc (.cells #[.int .i64 (ifNum l[k].asn l[k].eg)] 3)).size;simpa using this) ?_;intro u1 w1 ho1 hg1;have hx1:=Ext.app (hx.drew.alloc _) hg1 hown (by simp);clear hg1
    go_wp2_with fail
    refine HK.out _ _ ?_;clear HK K;refine blkStep (fun K HK=>?_);simp only [PK]
    go_wp2_with fail
    refine HK.out _ _ ?_;clear HK K;refine Ap (by kernel_rfl) ?_
    go_wp2_with fail
    go_roundg (gk - 1)
    case measure=>exact HG.out.2
    case rel=>exact⟨k+1,HG.out.1,by go_num,by rw [HE.out];exact ho1,hx1⟩
   cases h2:(l[k].eg != 0)
   ·
    have HE:=Ac (HS.out.trans (by rw [stepIfs_10 h1 h2]))
    go_wp2_with fail
    refine Ax (.blk [0,1,2,3,4,5,6,7,8,9,10,11,12,13,14] (.one 15 (.one 16 (.blk [17] .done)))) [16] (by kernel_rfl) (by kernel_rfl) ?_;refine blkStep (fun K HK=>?_);simp only [PK]
    go_wp2_with fail
    refine HK.out _ _ ?_;clear HK K;refine oneStep (fun K HK=>?_);simp only [PK]
    go_wp2_with fail
    refine HK.out _ _ ((Ab _).alloc _) ?_;clear HK K;refine badStep (by kernel_rfl) (fun K HK=>?_);simp only [PK];refine app1 E intFlen intOne rfl _ _ rfl (ifNum l[k].asn l[k].ing) rfl (Ay hown ((Ab _).drew.alloc _)) rfl (by exact Au (intF (ifNum l[k].asn l[k].ing)) (blk_new wr _)) (by first | omega | (simp only [List.length_append,List.length_cons,List.length_nil];omega)) (by first | (unfold maxLen;omega) | (simp only [List.length_append,List.length_cons,List.length_nil,maxLen];omega)) (by have:=(hx.drew.alloc (.cells #[.int .i64 (ifNum l[k].asn l[k].ing)] 3)).size;simpa using this) ?_;intro u1 w1 ho1 hg1;have hx1:=Ext.app (hx.drew.alloc _) hg1 hown (by simp);clear hg1
    go_wp2_with fail
    refine HK.out _ _ ?_;clear HK K;refine blkStep (fun K HK=>?_);simp only [PK]
    go_wp2_with fail
    refine HK.out _ _ ?_;clear HK K;refine Ap (by kernel_rfl) ?_;have hbx1:=blk12 (Aa hx1 HB0.out);obtain⟨b',off',eb,hc1⟩:=Step.at (hv.ext hx1) k hlt
    cases eb
    go_wp2_with fail
    go_roundg (gk - 1)
    case measure=>exact HG.out.2
    case rel=>exact⟨k+1,HG.out.1,by go_num,by rw [HE.out];exact ho1,hx1⟩
   have HE:=Ac (HS.out.trans (by rw [stepIfs_11 h1 h2,← List.append_assoc]))
   go_wp2_with fail
   refine Ax (.blk [0,1,2,3,4,5,6,7,8,9,10,11,12,13,14] (.one 15 (.one 16 (.blk [17] .done)))) [16] (by kernel_rfl) (by kernel_rfl) ?_;refine blkStep (fun K HK=>?_);simp only [PK]
   go_wp2_with fail
   refine HK.out _ _ ?_;clear HK K;refine oneStep (fun K HK=>?_);simp only [PK]
   go_wp2_with fail
   refine HK.out _ _ ((Ab _).alloc _) ?_;clear HK K;refine badStep (by kernel_rfl) (fun K HK=>?_);simp only [PK];refine app1 E intFlen intOne rfl _ _ rfl (ifNum l[k].asn l[k].ing) rfl (Ay hown ((Ab _).drew.alloc _)) rfl (by exact Au (intF (ifNum l[k].asn l[k].ing)) (blk_new wr _)) (by first | omega | (simp only [List.length_append,List.length_cons,List.length_nil];omega)) (by first | (unfold maxLen;omega) | (simp only [List.length_append,List.length_cons,List.length_nil,maxLen];omega)) (by have:=(hx.drew.alloc (.cells #[.int .i64 (ifNum l[k].asn l[k].ing)] 3)).size;simpa using this) ?_;intro u1 w1 ho1 hg1;have hx1:=Ext.app (hx.drew.alloc _) hg1 hown (by simp);clear hg1
   go_wp2_with fail
   refine HK.out _ _ ?_;clear HK K;refine blkStep (fun K HK=>?_);simp only [PK]
   go_wp2_with fail
   refine HK.out _ _ ?_;clear HK K;refine Ap (by kernel_rfl) ?_;have hbx1:=blk12 (Aa hx1 HB0.out);obtain⟨b',off',eb,hc1⟩:=Step.at (hv.ext hx1) k hlt
   cases eb
   go_wp2_with fail
   refine Ax (.blk [0,1,2,3,4,5,6,7,8,9,10,11,12,13,14] (.one 15 (.one 16 (.blk [17] .done)))) [16] (by kernel_rfl) (by kernel_rfl) ?_;refine blkStep (fun K HK=>?_);simp only [PK]
   go_wp2_with fail
   refine HK.out _ _ ?_;clear HK K;refine oneStep (fun K HK=>?_);simp only [PK]
   go_wp2_with fail
   refine HK.out _ _ ((Ab _).alloc _) ?_;clear HK K;refine badStep (by kernel_rfl) (fun K HK=>?_);simp only [PK];refine app1 E intFlen intOne rfl _ _ rfl (ifNum l[k].asn l[k].eg) rfl (Ay ho1 ((Ab _).drew.alloc _)) rfl (by exact Au (intF (ifNum l[k].asn l[k].eg)) (blk_new w1 _)) (by first | omega | (simp only [List.length_append,List.length_cons,List.length_nil];omega)) (by first | (unfold maxLen;omega) | (simp only [List.length_append,List.length_cons,List.length_nil,maxLen];omega)) (by have:=(hx1.drew.alloc (.cells #[.int .i64 (ifNum l[k].asn l[k].eg)] 3)).size;simpa using this) ?_;intro u2 w2 ho2 hg2;have hx2:=Ext.app (hx1.drew.alloc _) hg2 ho1 (by simp);clear hg2
   go_wp2_with fail
   refine HK.out _ _ ?_;clear HK K;refine blkStep (fun K HK=>?_);simp only [PK]
   go_wp2_with fail
   refine HK.out _ _ ?_;clear HK K;refine Ap (by kernel_rfl) ?_
   go_wp2_with fail
   go_roundg (gk - 1)
   case measure=>exact HG.out.2
   case rel=>exact⟨k+1,HG.out.1,by go_num,by rw [HE.out];exact ho2,hx2⟩
  rw [List.take_of_length_le (by omega)] at hown
  go_wp2
  go_ret
  exact⟨_,rfl,hown.mono (by omega),hx0.trans hx⟩
end
end Go.Proofs.YteodlcpeoaggbaaGreat
