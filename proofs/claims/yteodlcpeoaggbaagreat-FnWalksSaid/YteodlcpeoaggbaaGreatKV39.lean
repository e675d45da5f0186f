/- What these laws need: FnWalks: A region that draws its order, walked in one order of its own choice: what only looks is taken as soon as it may come up, what makes memory comes up when it alone may. Contracts of the arithmetic modulo the prime, program and reference. Contracts of the functions on steps and on kinds of parts, program and reference, and of the laws over them. Slices of uint8: how they read, and the contracts of the laws' helper functions over them. The data of packets, how they read, what they own, and the contracts of the laws' helper functions over them. The data of traces, how they read, what they own, and the contracts of the laws' helper functions over them. Rows that the call owns, by ranges of blocks, and rows that are only read from now on. Ownership of a topology and its marks. -/
import Derived.OrdersHeld
import Derived.Test.YteodlcpeoaggbaaGreatKV5
namespace Go.Proofs.YteodlcpeoaggbaaGreat
section
open Go.ChangeShapes Go.WideShapes Go.ChangeAt Go.RowKit Go.Deep
section
variable {P : Program} {ops : Array Oper} {Q : Exit → Act → World → Prop} {Rq : Nat → Bool}
def undefs:List Tmp→Act→Act
  | [], a => a
  | d :: ds, a => undefs ds (a.put (some d) undef)
def skipB (ops:Array Oper):List Oper→List Tmp→Act→Bool
  | [], [], _ => true
  | o :: l, d :: ds, a => !Region.wanted o (yielded ops a.tmps) && o.dst == some d && skipB ops l ds (a.put (some d) undef)
  | _, _, _ => false
theorem wpList_skips {Q':Exit→Act→World→Prop} {w:World}:∀ (l:List Oper) (ds:List Tmp) (a:Act),skipB ops l ds a=true→Q' .normal (undefs ds a) w→wpList P ops Q' l a w
 | [], [], _, _, h => h
 | o :: l, d :: ds, a, hb, h => by
  simp only [skipB,Bool.and_eq_true,Bool.not_eq_true',beq_iff_eq] at hb;refine wpList_skip hb.1.1 ?_;rw [hb.1.2];exact wpList_skips l ds _ hb.2 h
 | [], _ :: _, _, hb, _ => by cases hb
 | _ :: _, [], _, hb, _ => by cases hb
theorem blkSkip {E:Act→World→Prop} {l:List Nat} {rest:Sch} {a:Act} {w:World} (ds:List Tmp) (hb:skipB ops (pick ops l) ds a=true) (h:Shut (rest.wp P ops Rq E (undefs ds a) w)):Shut ((Sch.blk l rest).wp P ops Rq E a w):=
 ⟨wpList_skips _ ds a hb h.out⟩
theorem oneSkip {E:Act→World→Prop} {i:Nat} {rest:Sch} {a:Act} {w:World} (ds:List Tmp) (hb:skipB ops (pick ops [i]) ds a=true) (h:Shut (rest.wp P ops Rq E (undefs ds a) w)):Shut ((Sch.one i rest).wp P ops Rq E a w):=
 ⟨wpList_skips _ ds a hb ⟨fun _=>Ab _,h.out⟩⟩
end
theorem subMod_res (b s:Int):isRes (subMod b s)=true:=by
 rw [isRes_true];unfold subMod;split <;> omega
set_option maxRecDepth 100000 in
set_option maxHeartbeats 400000 in
theorem i_EqualSteps (a:List Step) (va:Value) (b:List Step) (vb:Value) (w:World) (ha:RdS Step.rep w va a) (hb:RdS Step.rep w vb b) :
  Calls Tryz.prog 21 #[va,vb] w fun e w'=>e=.returned (.bool (decide (a=b)))∧Ext w w':=by
 obtain⟨oa,ca,rfl,hsa⟩:=ha.shape;obtain⟨ob,cb,rfl,hsb⟩:=hb.shape
 by_cases hne:a.length=b.length
 ·
  have Hne:=Ac hne;have t1:((a.length:Int) != (b.length:Int))=false:=by simp [hne]
  clear hne
  go_enter Tryz.func21,Tryz.ntmps21
  go_wp2
  go_loopw [13] (fun i wr=>∃ (k:Nat),k≤a.length∧i=.int .i64 k∧a.take k=b.take k∧Ext w wr) (fun i _=>a.length - (intOf i).toNat)
  case atStart=>exact⟨0,Nat.zero_le _,rfl,rfl,Ab _⟩
  case round=>
   obtain⟨k,hk,rfl,htk,hx⟩:=hrel;have Htk:=Ac htk;clear htk
   by_cases hlt:k<a.length
   ·
    have hlb:k<b.length:=by rw [← Hne.out];exact hlt
    obtain⟨b1,off1,rfl,hc1⟩:=Step.at (ha.ext hx) k hlt;obtain⟨b2,off2,rfl,hc2⟩:=Step.at (hb.ext hx) k hlb
    go_wp2
    go_still_tail 8,(by kernel_rfl)
    go_wp2_with fail
    all_goals first
     | (go_ret; exact ⟨Ah (Eq.symm (decide_eq_false (by rintro rfl; contradiction))), hx.drew⟩)
     | exact ⟨⟨k + 1, by omega, by go_num, take_snoc2 Htk.out hlt hlb (Step.ext' (by assumption) (by assumption) (by assumption)), hx.drew⟩, by simp [intOf]; omega⟩
   have hab:decide (a=b)=true:=by
    have:=Htk.out;rw [List.take_of_length_le (by omega),List.take_of_length_le (by rw [← Hne.out];omega)] at this
    simp [this]
   have Hab:=Ac hab;clear hab
   go_wp2
   go_ret
   exact⟨Ah Hab.out.symm,hx⟩
 have t1:((a.length:Int) != (b.length:Int))=true:=by simp [bne_iff_ne];omega
 have hab:decide (a=b)=false:=by
  rw [decide_eq_false_iff_not];rintro rfl;exact hne rfl
 have Hab:=Ac hab;clear hab;clear hne
 go_enter Tryz.func21,Tryz.ntmps21
 go_wp2
 go_ret
 exact⟨Ah Hab.out.symm,Ab _⟩
theorem bytes_rep {base:Nat} {e:TypeId} {w:World} {v:Value} {l:List Int} (h:OwnF byteF 1 base e w v l):RdS Rep.byte w v l:=Bb (hf:=byteFlen) h
theorem Pkt.own_inb {S:Nat→Prop} {w:World} {h0 h1:Value} {x:Pkt} (h:Pkt.own S w h0 h1 x):Pkt.own (fun b=>S b∧b<w.heap.size) w h0 h1 x:=by
 obtain⟨S0,S1,a,b,c0,c1,d⟩:=h;exact⟨_,_,Part.own.inb a,byteOwn.inb b,fun k hk=>⟨c0 k hk.1,hk.2⟩,fun k hk=>⟨c1 k hk.1,hk.2⟩,fun k hk h2=>d k hk.1 h2.1⟩
theorem Trc.own_inb {S:Nat→Prop} {w:World} {h0 h1 h2:Value} {x:Trc} (h:Trc.own S w h0 h1 h2 x):Trc.own (fun b=>S b∧b<w.heap.size) w h0 h1 h2 x:=by
 obtain⟨S0,S1,a,b,c0,c1,d⟩:=h;exact⟨_,_,stepOwn.inb a,Pkt.own_inb b,fun k hk=>⟨c0 k hk.1,hk.2⟩,fun k hk=>⟨c1 k hk.1,hk.2⟩,fun k hk h2=>d k hk.1 h2.1⟩
theorem Own.toF {α:Type} {f:α→List Value} {n:Nat} {hf:∀ a,(f a).length=n} {e:TypeId} {a b:Nat} {w:World} {v:Value} {l:List α} (h:(Own.flat f n hf e).own (rng a b) w v l):OwnF f n a e w v l:=by
 obtain⟨h1,h2⟩:=h;obtain⟨h3,h4⟩:=h1;refine⟨h3,?_⟩
 rcases h4 with h4 | ⟨g,cap,cur,rfl,hb,hg,r⟩
 ·
  exact .inl h4
 exact .inr ⟨g,cap,cur,rfl,(h2 g rfl).1,hg,r⟩
theorem Topo.own_inb {S:Nat→Prop} {w:World} {h0 h1:Value} {x:Topo} (h:Topo.own S w h0 h1 x):Topo.own (fun b=>S b∧b<w.heap.size) w h0 h1 x:=by
 obtain⟨S0,S1,a,b,c0,c1,d⟩:=h;exact⟨_,_,asOwn.inb a,lnkOwn.inb b,fun k hk=>⟨c0 k hk.1,hk.2⟩,fun k hk=>⟨c1 k hk.1,hk.2⟩,fun k hk h2=>d k hk.1 h2.1⟩
end
end Go.Proofs.YteodlcpeoaggbaaGreat
