/- What these laws need: FnOld, FnWalks: Contracts of putting a number into an ascending list, program and reference. -/
import Derived.Test.YteodlcpeoaggbaaGreatKV2
namespace Go.Proofs.YteodlcpeoaggbaaGreat
section
open Go.ChangeShapes Go.WideShapes Go.ChangeAt Go.RowKit Go.Deep
set_option maxRecDepth 100000
set_option maxHeartbeats 4000000
def insInt (n:Int):List Int→List Int
 | [] => [n]
 | x :: l => if x < n then x :: insInt n l else if x = n then x :: l else n :: x :: l
theorem insInt_len (n:Int) (l:List Int):(insInt n l).length≤l.length+1:=by
 induction l with
 | nil => simp [insInt]
 | cons x l ih => unfold insInt; split <;> (try split) <;> simp <;> omega
def below (n:Int) (l:List Int) (k:Nat):Prop:=∀ (j:Nat) (h:j<l.length),j<k→l[j]<n
theorem below_zero (n:Int) (l:List Int):below n l 0:=fun _ _ h=>absurd h (Nat.not_lt_zero _)
theorem below_succ {n:Int} {l:List Int} {k:Nat} (h:below n l k) (hk:k<l.length) (hx:l[k]<n):below n l (k+1):=by
 intro j hj hjk
 by_cases e:j=k
 ·
  subst e;exact hx
 exact h j hj (by omega)
theorem below_cons {n x:Int} {l:List Int} {k:Nat} (h:below n (x :: l) (k+1)):x<n∧below n l k:=
 ⟨h 0 (by simp) (by omega),fun j hj hjk=>by have:=h (j+1) (by simpa using hj) (by omega);simpa using this⟩
theorem insInt_hit {n:Int}:∀ {l:List Int} {k:Nat},below n l k→(hk:k<l.length)→l[k]=n→insInt n l=l
 | [], k, _, hk, _ => absurd hk (by simp)
 | x :: l, 0, _, _, he => by
  have:x=n:=he;unfold insInt;rw [if_neg (by omega),if_pos this]
 | x :: l, k + 1, h, hk, he => by
  obtain⟨h1,h2⟩:=below_cons h;unfold insInt;rw [if_pos h1,insInt_hit h2 (by simpa using hk) (by simpa using he)]
theorem insInt_put {n:Int}:∀ {l:List Int} {k:Nat},below n l k→k≤l.length→(∀ hk:k<l.length,n<l[k])→insInt n l=(l.take k ++ [n]) ++ l.drop k
 | [], k, _, hk, _ => by
  have:k=0:=by simpa using hk
  subst this;rfl
 | x :: l, 0, _, _, he => by
  have:n<x:=he (by simp);unfold insInt;rw [if_neg (by omega),if_neg (by omega)];rfl
 | x :: l, k + 1, h, hk, he => by
  obtain⟨h1,h2⟩:=below_cons h;unfold insInt;rw [if_pos h1,insInt_put h2 (by simpa using hk) (fun hk'=>by have:=he (by simpa using hk');simpa using this)]
  simp
theorem i_copyInts (l:List Int) (v:Value) (w:World) (hv:RdS Rep.int w v l) (hl:l.length≤1099511627776) :
  Calls Tryz.prog 156 #[v] w fun e w'=>∃ v',e=.returned v'∧OwnF intF 1 w.heap.size 3 w' v' l∧Ext w w':=by
 obtain⟨E⟩:=elemInt
 go_enter Tryz.func156,Tryz.ntmps156
 go_wp2_with (at_builtin;refine appS E intFlen intOne rfl _ _ rfl l rfl (Bj intF 1 w.heap.size _ w (Ae _)) rfl (hv.ext ((Ab _).alloc _)) (by first | omega | (simp;omega)) (by first | (unfold maxLen;omega) | (simp [maxLen];omega)) (by simp) ?_)
 intro v' w' ho' hg';have hx':Ext w w':=((Ab w).alloc _).app hg' (Bj intF 1 w.heap.size 3 w (Ae _)) (Ae _)
 try rw [List.nil_append] at ho'
 clear hg'
 go_wp2
 go_ret
 exact⟨_,rfl,ho',hx'⟩
theorem halves {base:Nat} {e:TypeId} {w:World} {g m cap:Nat} {l:List Int} (h:OwnF intF 1 base e w (.slice (some ⟨g,0,none⟩) m cap) l) (k:Nat) (hk:k≤l.length) :
  RdS Rep.int w (.slice (some ⟨g,0,none⟩) k cap) (l.take k)∧RdS Rep.int w (.slice (some ⟨g,k,none⟩) (m - k) (cap - k)) (l.drop k):=by
 obtain rfl:=h.len;have hr:=Bo h;have h1:=hr.part 0 k (Nat.zero_le _) hk;have h2:=hr.part k l.length hk (Ae _);have hc:Rep.int.cells=1:=rfl;simp only [hc,Nat.zero_add,Nat.mul_one,Nat.sub_zero,List.drop_zero,List.take_length] at h1 h2;exact⟨h1,h2⟩
theorem halvesEnd {base:Nat} {e:TypeId} {w:World} {g m k:Nat} {l:List Int} (h:OwnF intF 1 base e w (.slice (some ⟨g,0,none⟩) m k) l) (hk:k=l.length) :
  RdS Rep.int w (.slice (some ⟨g,0,none⟩) k k) (l.take k)∧RdS Rep.int w (.slice (some ⟨g,0,none⟩) 0 0) (l.drop k):=by
 have hm:=h.len;refine⟨(halves h k (by omega)).1,?_⟩;rw [List.drop_of_length_le (by omega)];exact⟨_,0,rfl,Ae _,by unfold maxLen;omega,fun _=>rfl,fun i hi=>absurd hi (by simp)⟩
theorem i_insertInt (l:List Int) (v:Value) (n:Int) (base:Nat) (w:World) (hown:OwnF intF 1 base 3 w v l) (hb:base≤w.heap.size) (hl:l.length≤1099511627000) :
  Calls Tryz.prog 107 #[v,.int .i64 n] w fun e w'=>∃ v',e=.returned v'∧OwnF intF 1 base 3 w' v' (insInt n l)∧Ext w w':=by
 obtain⟨E⟩:=elemInt
 rcases hown.2 with ⟨rfl,hn⟩ | ⟨g,cap,cur,rfl,hbg,hg,hnc,hcm,_,_⟩
 ·
  have hl0:=List.eq_nil_of_length_eq_zero hn;clear hown hn
  obtain⟨k,hk⟩:∃ k:Nat,k=0:=⟨0,rfl⟩
  have hins:insInt n l=(l.take k ++ [n]) ++ l.drop k:=by rw [hl0,hk];rfl
  have HH:Hid (RdS Rep.int w (.slice none 0 0) (l.take k)∧RdS Rep.int w (.slice none 0 0) (l.drop k)):=Ac (by rw [hl0,hk];exact⟨RdS.nil Rep.int w,RdS.nil Rep.int w⟩);clear hl0 hk
  go_enter Tryz.func107,Tryz.ntmps107
  go_wp2
  refine wp_loop_rounds 1 ?_;rw [rounds_succ];have HI:=Ac hins;clear hins
  go_wp2_with fail
  refine Ax (.blk [0,1,2,4,7,8,9] (.two 3 5 (.one 5 (.one 6 (.one 10 (.blk [11] .done)))) (.one 3 (.one 6 (.one 10 (.blk [11] .done)))))) [6,10] (by kernel_rfl) (by kernel_rfl) ?_;refine blkStep (fun K HK=>?_);simp only [PK]
  go_wp2_with fail
  refine HK.out _ _ ?_;clear HK K;refine twoStep ?_ ?_
  ·
   refine oneStep (fun K HK=>?_);simp only [PK]
   go_wp2_with fail
   refine(i_copyInts (l.take k) _ _ (HH.out.1.ext (Ab w).drew) (by simp only [List.length_take];omega)).mono ?_;rintro e w1 ⟨v1,rfl,o1,h1⟩;have hx1:Ext w w1:=(Ab w).drew.trans h1
   go_wp2_with fail
   refine HK.out _ _ (h1) ?_;clear HK K;refine oneStep (fun K HK=>?_);simp only [PK]
   go_wp2_with fail
   refine HK.out _ _ ((Ab _).alloc _) ?_;clear HK K;refine badStep (by kernel_rfl) (fun K HK=>?_);simp only [PK];refine app1 E intFlen intOne rfl _ _ rfl n rfl (Ay o1 ((Ab w1).alloc _)) rfl (by exact Au (intF n) (blk_new w1 _)) (by simp only [List.length_take];omega) (by simp only [List.length_take,maxLen];omega) (by exact(hx1.alloc _).size) ?_;intro v3 w3 o3 hg3;have hx3:Ext w w3:=(hx1.alloc _).app hg3 o1 (Ae _);clear hg3
   go_wp2_with fail
   refine HK.out _ _ ?_;clear HK K;refine badStep (by kernel_rfl) (fun K HK=>?_);simp only [PK];refine appS E intFlen intOne rfl _ _ rfl (l.drop k) rfl o3 rfl (HH.out.2.ext hx3) (by simp only [List.length_append,List.length_take,List.length_drop,List.length_cons,List.length_nil];omega) (by simp only [List.length_append,List.length_take,List.length_drop,List.length_cons,List.length_nil,maxLen];omega) hx3.size ?_;intro v4 w4 o4 hg4;have hx4:Ext w w4:=hx3.app hg4 o3 (Ae _);rw [← HI.out] at o4;have o4':=o4.mono hb;clear hg4 o4
   go_wp2_with fail
   refine HK.out _ _ ?_;clear HK K;refine blkStep (fun K HK=>?_);simp only [PK]
   go_wp2_with fail
   refine HK.out _ _ ?_;clear HK K;refine Ap (by kernel_rfl) ?_
   go_wp2_with fail
   go_ret
   exact⟨_,rfl,o4',hx4⟩
  refine oneStep (fun K HK=>?_);simp only [PK]
  go_wp2_with fail
  refine HK.out _ _ ((Ab _).alloc _) ?_;clear HK K;refine oneStep (fun K HK=>?_);simp only [PK]
  go_wp2_with fail
  refine(i_copyInts (l.take k) _ _ (HH.out.1.ext ((Ab w).drew.alloc _)) (by simp only [List.length_take];omega)).mono ?_;rintro e w1 ⟨v1,rfl,o1,h1⟩;have hx1:Ext w w1:=((Ab w).drew.alloc _).trans h1
  go_wp2_with fail
  refine HK.out _ _ (h1) ?_;clear HK K;refine badStep (by kernel_rfl) (fun K HK=>?_);simp only [PK];refine app1 E intFlen intOne rfl _ _ rfl n rfl (o1.mono (base':=w.heap.size) (by simp)) rfl (by exact Au (intF n) (h1.block (blk_new w.drew _))) (by simp only [List.length_take];omega) (by simp only [List.length_take,maxLen];omega) hx1.size ?_;intro v3 w3 o3 hg3;have hx3:Ext w w3:=hx1.app hg3 (o1.mono (base':=w.heap.size) (by simp)) (Ae _);clear hg3
  go_wp2_with fail
  refine HK.out _ _ ?_;clear HK K;refine badStep (by kernel_rfl) (fun K HK=>?_);simp only [PK];refine appS E intFlen intOne rfl _ _ rfl (l.drop k) rfl o3 rfl (HH.out.2.ext hx3) (by simp only [List.length_append,List.length_take,List.length_drop,List.length_cons,List.length_nil];omega) (by simp only [List.length_append,List.length_take,List.length_drop,List.length_cons,List.length_nil,maxLen];omega) hx3.size ?_;intro v4 w4 o4 hg4;have hx4:Ext w w4:=hx3.app hg4 o3 (Ae _);rw [← HI.out] at o4;have o4':=o4.mono hb;clear hg4 o4
  go_wp2_with fail
  refine HK.out _ _ ?_;clear HK K;refine blkStep (fun K HK=>?_);simp only [PK]
  go_wp2_with fail
  refine HK.out _ _ ?_;clear HK K;refine Ap (by kernel_rfl) ?_
  go_wp2_with fail
  go_ret
  exact⟨_,rfl,o4',hx4⟩
 clear hg hcm
 go_enter Tryz.func107,Tryz.ntmps107
 go_wp2
 go_loop [5] (fun i=>∃ k:Nat,k≤l.length∧i=.int .i64 k∧below n l k) (fun i=>l.length - (intOf i).toNat)
 case atStart=>exact⟨0,Nat.zero_le _,rfl,below_zero _ _⟩
 case round=>
  obtain⟨k,hk,rfl,hbl⟩:=hrel;have HBL:=Ac hbl;clear hbl;have HH:=Ac (halves hown k hk)
  by_cases hlt:k<l.length
  ·
   have hc:=ints_own_at hown k hlt
   by_cases hx:l[k]<n
   ·
    go_wp2
    go_round
    case rel=>exact⟨k+1,by omega,by go_num,below_succ HBL.out hlt hx⟩
    case measure=>simp [intOf];omega
   by_cases he:l[k]=n
   ·
    have hi:=insInt_hit HBL.out hlt he;have HI:=Ac hi;clear hi;have he2:(l[k] == n)=true:=by simpa using he
    clear he
    go_wp2
    go_ret
    rw [HI.out];exact⟨_,rfl,hown,Ab _⟩
   have hins:=insInt_put HBL.out hk (fun _=>by omega);have he2:(l[k] == n)=false:=by simpa using he
   clear he;have HI:=Ac hins;clear hins
   go_wp2_with fail
   refine Ax (.blk [0,1,2,4,7,8,9] (.two 3 5 (.one 5 (.one 6 (.one 10 (.blk [11] .done)))) (.one 3 (.one 6 (.one 10 (.blk [11] .done)))))) [6,10] (by kernel_rfl) (by kernel_rfl) ?_;refine blkStep (fun K HK=>?_);simp only [PK]
   go_wp2_with fail
   refine HK.out _ _ ?_;clear HK K;refine twoStep ?_ ?_
   ·
    refine oneStep (fun K HK=>?_);simp only [PK]
    go_wp2_with fail
    refine(i_copyInts (l.take k) _ _ (HH.out.1.ext (Ab w).drew) (by simp only [List.length_take];omega)).mono ?_;rintro e w1 ⟨v1,rfl,o1,h1⟩;have hx1:Ext w w1:=(Ab w).drew.trans h1
    go_wp2_with fail
    refine HK.out _ _ (h1) ?_;clear HK K;refine oneStep (fun K HK=>?_);simp only [PK]
    go_wp2_with fail
    refine HK.out _ _ ((Ab _).alloc _) ?_;clear HK K;refine badStep (by kernel_rfl) (fun K HK=>?_);simp only [PK];refine app1 E intFlen intOne rfl _ _ rfl n rfl (Ay o1 ((Ab w1).alloc _)) rfl (by exact Au (intF n) (blk_new w1 _)) (by simp only [List.length_take];omega) (by simp only [List.length_take,maxLen];omega) (by exact(hx1.alloc _).size) ?_;intro v3 w3 o3 hg3;have hx3:Ext w w3:=(hx1.alloc _).app hg3 o1 (Ae _);clear hg3
    go_wp2_with fail
    refine HK.out _ _ ?_;clear HK K;refine badStep (by kernel_rfl) (fun K HK=>?_);simp only [PK];refine appS E intFlen intOne rfl _ _ rfl (l.drop k) rfl o3 rfl (HH.out.2.ext hx3) (by simp only [List.length_append,List.length_take,List.length_drop,List.length_cons,List.length_nil];omega) (by simp only [List.length_append,List.length_take,List.length_drop,List.length_cons,List.length_nil,maxLen];omega) hx3.size ?_;intro v4 w4 o4 hg4;have hx4:Ext w w4:=hx3.app hg4 o3 (Ae _);rw [← HI.out] at o4;have o4':=o4.mono hb;clear hg4 o4
    go_wp2_with fail
    refine HK.out _ _ ?_;clear HK K;refine blkStep (fun K HK=>?_);simp only [PK]
    go_wp2_with fail
    refine HK.out _ _ ?_;clear HK K;refine Ap (by kernel_rfl) ?_
    go_wp2_with fail
    go_ret
    exact⟨_,rfl,o4',hx4⟩
   refine oneStep (fun K HK=>?_);simp only [PK]
   go_wp2_with fail
   refine HK.out _ _ ((Ab _).alloc _) ?_;clear HK K;refine oneStep (fun K HK=>?_);simp only [PK]
   go_wp2_with fail
   refine(i_copyInts (l.take k) _ _ (HH.out.1.ext ((Ab w).drew.alloc _)) (by simp only [List.length_take];omega)).mono ?_;rintro e w1 ⟨v1,rfl,o1,h1⟩;have hx1:Ext w w1:=((Ab w).drew.alloc _).trans h1
   go_wp2_with fail
   refine HK.out _ _ (h1) ?_;clear HK K;refine badStep (by kernel_rfl) (fun K HK=>?_);simp only [PK];refine app1 E intFlen intOne rfl _ _ rfl n rfl (o1.mono (base':=w.heap.size) (by simp)) rfl (by exact Au (intF n) (h1.block (blk_new w.drew _))) (by simp only [List.length_take];omega) (by simp only [List.length_take,maxLen];omega) hx1.size ?_;intro v3 w3 o3 hg3;have hx3:Ext w w3:=hx1.app hg3 (o1.mono (base':=w.heap.size) (by simp)) (Ae _);clear hg3
   go_wp2_with fail
   refine HK.out _ _ ?_;clear HK K;refine badStep (by kernel_rfl) (fun K HK=>?_);simp only [PK];refine appS E intFlen intOne rfl _ _ rfl (l.drop k) rfl o3 rfl (HH.out.2.ext hx3) (by simp only [List.length_append,List.length_take,List.length_drop,List.length_cons,List.length_nil];omega) (by simp only [List.length_append,List.length_take,List.length_drop,List.length_cons,List.length_nil,maxLen];omega) hx3.size ?_;intro v4 w4 o4 hg4;have hx4:Ext w w4:=hx3.app hg4 o3 (Ae _);rw [← HI.out] at o4;have o4':=o4.mono hb;clear hg4 o4
   go_wp2_with fail
   refine HK.out _ _ ?_;clear HK K;refine blkStep (fun K HK=>?_);simp only [PK]
   go_wp2_with fail
   refine HK.out _ _ ?_;clear HK K;refine Ap (by kernel_rfl) ?_
   go_wp2_with fail
   go_ret
   exact⟨_,rfl,o4',hx4⟩
  have hins:=insInt_put HBL.out hk (fun h=>absurd h hlt)
  by_cases hkc:k<cap
  ·
   skip
   have HI:=Ac hins;clear hins
   go_wp2_with fail
   refine Ax (.blk [0,1,2,4,7,8,9] (.two 3 5 (.one 5 (.one 6 (.one 10 (.blk [11] .done)))) (.one 3 (.one 6 (.one 10 (.blk [11] .done)))))) [6,10] (by kernel_rfl) (by kernel_rfl) ?_;refine blkStep (fun K HK=>?_);simp only [PK]
   go_wp2_with fail
   refine HK.out _ _ ?_;clear HK K;refine twoStep ?_ ?_
   ·
    refine oneStep (fun K HK=>?_);simp only [PK]
    go_wp2_with fail
    refine(i_copyInts (l.take k) _ _ (HH.out.1.ext (Ab w).drew) (by simp only [List.length_take];omega)).mono ?_;rintro e w1 ⟨v1,rfl,o1,h1⟩;have hx1:Ext w w1:=(Ab w).drew.trans h1
    go_wp2_with fail
    refine HK.out _ _ (h1) ?_;clear HK K;refine oneStep (fun K HK=>?_);simp only [PK]
    go_wp2_with fail
    refine HK.out _ _ ((Ab _).alloc _) ?_;clear HK K;refine badStep (by kernel_rfl) (fun K HK=>?_);simp only [PK];refine app1 E intFlen intOne rfl _ _ rfl n rfl (Ay o1 ((Ab w1).alloc _)) rfl (by exact Au (intF n) (blk_new w1 _)) (by simp only [List.length_take];omega) (by simp only [List.length_take,maxLen];omega) (by exact(hx1.alloc _).size) ?_;intro v3 w3 o3 hg3;have hx3:Ext w w3:=(hx1.alloc _).app hg3 o1 (Ae _);clear hg3
    go_wp2_with fail
    refine HK.out _ _ ?_;clear HK K;refine badStep (by kernel_rfl) (fun K HK=>?_);simp only [PK];refine appS E intFlen intOne rfl _ _ rfl (l.drop k) rfl o3 rfl (HH.out.2.ext hx3) (by simp only [List.length_append,List.length_take,List.length_drop,List.length_cons,List.length_nil];omega) (by simp only [List.length_append,List.length_take,List.length_drop,List.length_cons,List.length_nil,maxLen];omega) hx3.size ?_;intro v4 w4 o4 hg4;have hx4:Ext w w4:=hx3.app hg4 o3 (Ae _);rw [← HI.out] at o4;have o4':=o4.mono hb;clear hg4 o4
    go_wp2_with fail
    refine HK.out _ _ ?_;clear HK K;refine blkStep (fun K HK=>?_);simp only [PK]
    go_wp2_with fail
    refine HK.out _ _ ?_;clear HK K;refine Ap (by kernel_rfl) ?_
    go_wp2_with fail
    go_ret
    exact⟨_,rfl,o4',hx4⟩
   refine oneStep (fun K HK=>?_);simp only [PK]
   go_wp2_with fail
   refine HK.out _ _ ((Ab _).alloc _) ?_;clear HK K;refine oneStep (fun K HK=>?_);simp only [PK]
   go_wp2_with fail
   refine(i_copyInts (l.take k) _ _ (HH.out.1.ext ((Ab w).drew.alloc _)) (by simp only [List.length_take];omega)).mono ?_;rintro e w1 ⟨v1,rfl,o1,h1⟩;have hx1:Ext w w1:=((Ab w).drew.alloc _).trans h1
   go_wp2_with fail
   refine HK.out _ _ (h1) ?_;clear HK K;refine badStep (by kernel_rfl) (fun K HK=>?_);simp only [PK];refine app1 E intFlen intOne rfl _ _ rfl n rfl (o1.mono (base':=w.heap.size) (by simp)) rfl (by exact Au (intF n) (h1.block (blk_new w.drew _))) (by simp only [List.length_take];omega) (by simp only [List.length_take,maxLen];omega) hx1.size ?_;intro v3 w3 o3 hg3;have hx3:Ext w w3:=hx1.app hg3 (o1.mono (base':=w.heap.size) (by simp)) (Ae _);clear hg3
   go_wp2_with fail
   refine HK.out _ _ ?_;clear HK K;refine badStep (by kernel_rfl) (fun K HK=>?_);simp only [PK];refine appS E intFlen intOne rfl _ _ rfl (l.drop k) rfl o3 rfl (HH.out.2.ext hx3) (by simp only [List.length_append,List.length_take,List.length_drop,List.length_cons,List.length_nil];omega) (by simp only [List.length_append,List.length_take,List.length_drop,List.length_cons,List.length_nil,maxLen];omega) hx3.size ?_;intro v4 w4 o4 hg4;have hx4:Ext w w4:=hx3.app hg4 o3 (Ae _);rw [← HI.out] at o4;have o4':=o4.mono hb;clear hg4 o4
   go_wp2_with fail
   refine HK.out _ _ ?_;clear HK K;refine blkStep (fun K HK=>?_);simp only [PK]
   go_wp2_with fail
   refine HK.out _ _ ?_;clear HK K;refine Ap (by kernel_rfl) ?_
   go_wp2_with fail
   go_ret
   exact⟨_,rfl,o4',hx4⟩
  obtain rfl:k=cap:=by omega
  have HH:=Ac (halvesEnd hown (by omega));have HI:=Ac hins;clear hins
  go_wp2_with fail
  refine Ax (.blk [0,1,2,4,7,8,9] (.two 3 5 (.one 5 (.one 6 (.one 10 (.blk [11] .done)))) (.one 3 (.one 6 (.one 10 (.blk [11] .done)))))) [6,10] (by kernel_rfl) (by kernel_rfl) ?_;refine blkStep (fun K HK=>?_);simp only [PK]
  go_wp2_with fail
  refine HK.out _ _ ?_;clear HK K;refine twoStep ?_ ?_
  ·
   refine oneStep (fun K HK=>?_);simp only [PK]
   go_wp2_with fail
   refine(i_copyInts (l.take k) _ _ (HH.out.1.ext (Ab w).drew) (by simp only [List.length_take];omega)).mono ?_;rintro e w1 ⟨v1,rfl,o1,h1⟩;have hx1:Ext w w1:=(Ab w).drew.trans h1
   go_wp2_with fail
   refine HK.out _ _ (h1) ?_;clear HK K;refine oneStep (fun K HK=>?_);simp only [PK]
   go_wp2_with fail
   refine HK.out _ _ ((Ab _).alloc _) ?_;clear HK K;refine badStep (by kernel_rfl) (fun K HK=>?_);simp only [PK];refine app1 E intFlen intOne rfl _ _ rfl n rfl (Ay o1 ((Ab w1).alloc _)) rfl (by exact Au (intF n) (blk_new w1 _)) (by simp only [List.length_take];omega) (by simp only [List.length_take,maxLen];omega) (by exact(hx1.alloc _).size) ?_;intro v3 w3 o3 hg3;have hx3:Ext w w3:=(hx1.alloc _).app hg3 o1 (Ae _);clear hg3
   go_wp2_with fail
   refine HK.out _ _ ?_;clear HK K;refine badStep (by kernel_rfl) (fun K HK=>?_);simp only [PK];refine appS E intFlen intOne rfl _ _ rfl (l.drop k) rfl o3 rfl (HH.out.2.ext hx3) (by simp only [List.length_append,List.length_take,List.length_drop,List.length_cons,List.length_nil];omega) (by simp only [List.length_append,List.length_take,List.length_drop,List.length_cons,List.length_nil,maxLen];omega) hx3.size ?_;intro v4 w4 o4 hg4;have hx4:Ext w w4:=hx3.app hg4 o3 (Ae _);rw [← HI.out] at o4;have o4':=o4.mono hb;clear hg4 o4
   go_wp2_with fail
   refine HK.out _ _ ?_;clear HK K;refine blkStep (fun K HK=>?_);simp only [PK]
   go_wp2_with fail
   refine HK.out _ _ ?_;clear HK K;refine Ap (by kernel_rfl) ?_
   go_wp2_with fail
   go_ret
   exact⟨_,rfl,o4',hx4⟩
  refine oneStep (fun K HK=>?_);simp only [PK]
  go_wp2_with fail
  refine HK.out _ _ ((Ab _).alloc _) ?_;clear HK K;refine oneStep (fun K HK=>?_);simp only [PK]
  go_wp2_with fail
  refine(i_copyInts (l.take k) _ _ (HH.out.1.ext ((Ab w).drew.alloc _)) (by simp only [List.length_take];omega)).mono ?_;rintro e w1 ⟨v1,rfl,o1,h1⟩;have hx1:Ext w w1:=((Ab w).drew.alloc _).trans h1
  go_wp2_with fail
  refine HK.out _ _ (h1) ?_;clear HK K;refine badStep (by kernel_rfl) (fun K HK=>?_);simp only [PK];refine app1 E intFlen intOne rfl _ _ rfl n rfl (o1.mono (base':=w.heap.size) (by simp)) rfl (by exact Au (intF n) (h1.block (blk_new w.drew _))) (by simp only [List.length_take];omega) (by simp only [List.length_take,maxLen];omega) hx1.size ?_;intro v3 w3 o3 hg3;have hx3:Ext w w3:=hx1.app hg3 (o1.mono (base':=w.heap.size) (by simp)) (Ae _);clear hg3
  go_wp2_with fail
  refine HK.out _ _ ?_;clear HK K;refine badStep (by kernel_rfl) (fun K HK=>?_);simp only [PK];refine appS E intFlen intOne rfl _ _ rfl (l.drop k) rfl o3 rfl (HH.out.2.ext hx3) (by simp only [List.length_append,List.length_take,List.length_drop,List.length_cons,List.length_nil];omega) (by simp only [List.length_append,List.length_take,List.length_drop,List.length_cons,List.length_nil,maxLen];omega) hx3.size ?_;intro v4 w4 o4 hg4;have hx4:Ext w w4:=hx3.app hg4 o3 (Ae _);rw [← HI.out] at o4;have o4':=o4.mono hb;clear hg4 o4
  go_wp2_with fail
  refine HK.out _ _ ?_;clear HK K;refine blkStep (fun K HK=>?_);simp only [PK]
  go_wp2_with fail
  refine HK.out _ _ ?_;clear HK K;refine Ap (by kernel_rfl) ?_
  go_wp2_with fail
  go_ret
  exact⟨_,rfl,o4',hx4⟩
theorem s_l5Put (l:List Int) (v:Value) (n:Int) (base:Nat) (w:World) (hown:OwnF intF 1 base 3 w v l) (hb:base≤w.heap.size) (hl:l.length≤1099511627000) :
  Calls Tryz.prog 111 #[v,.int .i64 n] w fun e w'=>∃ v',e=.returned v'∧OwnF intF 1 base 3 w' v' (insInt n l)∧Ext w w':=by
 obtain⟨E⟩:=elemInt
 rcases hown.2 with ⟨rfl,hn⟩ | ⟨g,cap,cur,rfl,hbg,hg,hnc,hcm,_,_⟩
 ·
  have hl0:=List.eq_nil_of_length_eq_zero hn;clear hown hn
  obtain⟨k,hk⟩:∃ k:Nat,k=0:=⟨0,rfl⟩
  have hins:insInt n l=(l.take k ++ [n]) ++ l.drop k:=by rw [hl0,hk];rfl
  have HH:Hid (RdS Rep.int w (.slice none 0 0) (l.take k)∧RdS Rep.int w (.slice none 0 0) (l.drop k)):=Ac (by rw [hl0,hk];exact⟨RdS.nil Rep.int w,RdS.nil Rep.int w⟩);clear hl0 hk
  go_enter Tryz.func111,Tryz.ntmps111
  go_wp2
  refine wp_loop_rounds 1 ?_;rw [rounds_succ];have HI:=Ac hins;clear hins
  go_wp2_with fail
  refine Ax (.blk [1,2,3,5,8,9,10] (.two 0 6 (.two 4 6 (.one 6 (.one 7 (.one 11 (.blk [12] .done)))) (.one 4 (.one 7 (.one 11 (.blk [12] .done))))) (.one 0 (.one 4 (.one 7 (.one 11 (.blk [12] .done))))))) [4,7,11] (by kernel_rfl) (by kernel_rfl) ?_;refine blkStep (fun K HK=>?_);simp only [PK]
  go_wp2_with fail
  refine HK.out _ _ ?_;clear HK K;refine twoStep ?_ ?_
  ·
   refine oneStep (fun K HK=>?_);simp only [pick,List.filterMap_cons,List.filterMap_nil,List.getElem?_toArray,List.getElem?_cons_zero]
   go_wp2_with fail
   refine HK.out _ _ ((Ab _).alloc _) ?_;clear HK K;refine twoStep ?_ ?_
   ·
    refine badStep (by kernel_rfl) (fun K HK=>?_);simp only [PK];refine appS (v:=.slice (some ⟨w.heap.size,0,none⟩) 0 0) (l:=[]) E intFlen intOne rfl _ _ rfl (l.take k) rfl (Bj intF 1 w.heap.size 3 w.drew (by simp)) rfl (HH.out.1.ext ((Ab w).drew.alloc _)) (by simp only [List.length_take,List.length_nil];omega) (by simp only [List.length_take,List.length_nil,maxLen];omega) ((Ab w).drew.alloc _).size ?_;intro v1 w1 o1 hg1;have hx1:Ext w w1:=((Ab w).drew.alloc _).app hg1 (Bj intF 1 w.heap.size 3 w.drew (by simp)) (Ae _)
    try rw [List.nil_append] at o1
    clear hg1
    go_wp2_with fail
    refine HK.out _ _ ?_;clear HK K;refine oneStep (fun K HK=>?_);simp only [PK]
    go_wp2_with fail
    refine HK.out _ _ ((Ab _).alloc _) ?_;clear HK K;refine badStep (by kernel_rfl) (fun K HK=>?_);simp only [PK];refine app1 E intFlen intOne rfl _ _ rfl n rfl (Ay o1 ((Ab w1).alloc _)) rfl (by exact Au (intF n) (blk_new w1 _)) (by simp only [List.length_take];omega) (by simp only [List.length_take,maxLen];omega) (by exact(hx1.alloc _).size) ?_;intro v3 w3 o3 hg3;have hx3:Ext w w3:=(hx1.alloc _).app hg3 o1 (Ae _);clear hg3
    go_wp2_with fail
    refine HK.out _ _ ?_;clear HK K;refine badStep (by kernel_rfl) (fun K HK=>?_);simp only [PK];refine appS E intFlen intOne rfl _ _ rfl (l.drop k) rfl o3 rfl (HH.out.2.ext hx3) (by simp only [List.length_append,List.length_take,List.length_drop,List.length_cons,List.length_nil];omega) (by simp only [List.length_append,List.length_take,List.length_drop,List.length_cons,List.length_nil,maxLen];omega) hx3.size ?_;intro v4 w4 o4 hg4;have hx4:Ext w w4:=hx3.app hg4 o3 (Ae _);rw [← HI.out] at o4;have o4':=o4.mono hb;clear hg4 o4
    go_wp2_with fail
    refine HK.out _ _ ?_;clear HK K;refine blkStep (fun K HK=>?_);simp only [PK]
    go_wp2_with fail
    refine HK.out _ _ ?_;clear HK K;refine Ap (by kernel_rfl) ?_
    go_wp2_with fail
    go_ret
    exact⟨_,rfl,o4',hx4⟩
   refine oneStep (fun K HK=>?_);simp only [PK]
   go_wp2_with fail
   refine HK.out _ _ ((Ab _).alloc _) ?_;clear HK K;refine badStep (by kernel_rfl) (fun K HK=>?_);simp only [PK];refine appS (v:=.slice (some ⟨w.heap.size,0,none⟩) 0 0) (l:=[]) E intFlen intOne rfl _ _ rfl (l.take k) rfl (Ay (Bj intF 1 w.heap.size 3 w.drew (by simp)) ((Ab _).alloc (.cells #[.int .i64 n] 3))) rfl (HH.out.1.ext (((Ab w).drew.alloc _).alloc _)) (by simp only [List.length_take,List.length_nil];omega) (by simp only [List.length_take,List.length_nil,maxLen];omega) (((Ab w).drew.alloc _).alloc _).size ?_;intro v1 w1 o1 hg1;have hx1:Ext w w1:=(((Ab w).drew.alloc _).alloc _).app hg1 (Ay (Bj intF 1 w.heap.size 3 w.drew (by simp)) ((Ab _).alloc (.cells #[.int .i64 n] 3))) (Ae _)
   try rw [List.nil_append] at o1
   have hb1:=hg1.block (w.heap.size+1) (by simp) (by simp [Value.ownBlock]);have hb2:=hb1.trans (blk_new2 w.drew (.cells #[] 3) (.cells #[.int .i64 n] 3));clear hg1 hb1
   go_wp2_with fail
   refine HK.out _ _ ?_;clear HK K;refine badStep (by kernel_rfl) (fun K HK=>?_);simp only [PK];refine app1 E intFlen intOne rfl _ _ rfl n rfl o1 rfl (by exact Au (intF n) hb2) (by simp only [List.length_take];omega) (by simp only [List.length_take,maxLen];omega) hx1.size ?_;intro v3 w3 o3 hg3;have hx3:Ext w w3:=hx1.app hg3 o1 (Ae _);clear hg3
   go_wp2_with fail
   refine HK.out _ _ ?_;clear HK K;refine badStep (by kernel_rfl) (fun K HK=>?_);simp only [PK];refine appS E intFlen intOne rfl _ _ rfl (l.drop k) rfl o3 rfl (HH.out.2.ext hx3) (by simp only [List.length_append,List.length_take,List.length_drop,List.length_cons,List.length_nil];omega) (by simp only [List.length_append,List.length_take,List.length_drop,List.length_cons,List.length_nil,maxLen];omega) hx3.size ?_;intro v4 w4 o4 hg4;have hx4:Ext w w4:=hx3.app hg4 o3 (Ae _);rw [← HI.out] at o4;have o4':=o4.mono hb;clear hg4 o4
   go_wp2_with fail
   refine HK.out _ _ ?_;clear HK K;refine blkStep (fun K HK=>?_);simp only [PK]
   go_wp2_with fail
   refine HK.out _ _ ?_;clear HK K;refine Ap (by kernel_rfl) ?_
   go_wp2_with fail
   go_ret
   exact⟨_,rfl,o4',hx4⟩
  refine oneStep (fun K HK=>?_);simp only [PK]
  go_wp2_with fail
  refine HK.out _ _ ((Ab _).alloc _) ?_;clear HK K;refine oneStep (fun K HK=>?_);simp only [pick,List.filterMap_cons,List.filterMap_nil,List.getElem?_toArray,List.getElem?_cons_zero]
  go_wp2_with fail
  refine HK.out _ _ ((Ab _).alloc _) ?_;clear HK K;refine badStep (by kernel_rfl) (fun K HK=>?_);simp only [PK];refine appS (v:=.slice (some ⟨w.heap.size+1,0,none⟩) 0 0) (l:=[]) E intFlen intOne rfl _ _ rfl (l.take k) rfl (Cg (f:=intF) (n:=1) (e:=3) (w:=w.drew.alloc (.cells #[.int .i64 n] 3)) (g:=w.heap.size+1) (base:=w.heap.size) (by simp) (by omega)) rfl (HH.out.1.ext (((Ab w).drew.alloc _).alloc _)) (by simp only [List.length_take,List.length_nil];omega) (by simp only [List.length_take,List.length_nil,maxLen];omega) (((Ab w).drew.alloc _).alloc _).size ?_;intro v1 w1 o1 hg1;have hx1:Ext w w1:=(((Ab w).drew.alloc _).alloc _).app hg1 (Cg (f:=intF) (n:=1) (e:=3) (w:=w.drew.alloc (.cells #[.int .i64 n] 3)) (g:=w.heap.size+1) (base:=w.heap.size) (by simp) (by omega)) (Ae _)
  try rw [List.nil_append] at o1
  have hb1:=hg1.block w.heap.size (by simp;omega) (by simp [Value.ownBlock]);have hb2:=hb1.trans (al2 w.drew (.cells #[.int .i64 n] 3) (.cells #[] 3)).1;clear hg1 hb1
  go_wp2_with fail
  refine HK.out _ _ ?_;clear HK K;refine badStep (by kernel_rfl) (fun K HK=>?_);simp only [PK];refine app1 E intFlen intOne rfl _ _ rfl n rfl o1 rfl (by exact Au (intF n) hb2) (by simp only [List.length_take];omega) (by simp only [List.length_take,maxLen];omega) hx1.size ?_;intro v3 w3 o3 hg3;have hx3:Ext w w3:=hx1.app hg3 o1 (Ae _);clear hg3
  go_wp2_with fail
  refine HK.out _ _ ?_;clear HK K;refine badStep (by kernel_rfl) (fun K HK=>?_);simp only [PK];refine appS E intFlen intOne rfl _ _ rfl (l.drop k) rfl o3 rfl (HH.out.2.ext hx3) (by simp only [List.length_append,List.length_take,List.length_drop,List.length_cons,List.length_nil];omega) (by simp only [List.length_append,List.length_take,List.length_drop,List.length_cons,List.length_nil,maxLen];omega) hx3.size ?_;intro v4 w4 o4 hg4;have hx4:Ext w w4:=hx3.app hg4 o3 (Ae _);rw [← HI.out] at o4;have o4':=o4.mono hb;clear hg4 o4
  go_wp2_with fail
  refine HK.out _ _ ?_;clear HK K;refine blkStep (fun K HK=>?_);simp only [PK]
  go_wp2_with fail
  refine HK.out _ _ ?_;clear HK K;refine Ap (by kernel_rfl) ?_
  go_wp2_with fail
  go_ret
  exact⟨_,rfl,o4',hx4⟩
 clear hg hcm
 go_enter Tryz.func111,Tryz.ntmps111
 go_wp2
 go_loop [5] (fun i=>∃ k:Nat,k≤l.length∧i=.int .i64 k∧below n l k) (fun i=>l.length - (intOf i).toNat)
 case atStart=>exact⟨0,Nat.zero_le _,rfl,below_zero _ _⟩
 case round=>
  obtain⟨k,hk,rfl,hbl⟩:=hrel;have HBL:=Ac hbl;clear hbl;have HH:=Ac (halves hown k hk)
  by_cases hlt:k<l.length
  ·
   have hc:=ints_own_at hown k hlt
   by_cases hx:l[k]<n
   ·
    go_wp2
    go_round
    case rel=>exact⟨k+1,by omega,by go_num,below_succ HBL.out hlt hx⟩
    case measure=>simp [intOf];omega
   by_cases he:l[k]=n
   ·
    have hi:=insInt_hit HBL.out hlt he;have HI:=Ac hi;clear hi;have he2:(l[k] == n)=true:=by simpa using he
    clear he
    go_wp2
    go_ret
    rw [HI.out];exact⟨_,rfl,hown,Ab _⟩
   have hins:=insInt_put HBL.out hk (fun _=>by omega);have he2:(l[k] == n)=false:=by simpa using he
   clear he;have HI:=Ac hins;clear hins
   go_wp2_with fail
   refine Ax (.blk [1,2,3,5,8,9,10] (.two 0 6 (.two 4 6 (.one 6 (.one 7 (.one 11 (.blk [12] .done)))) (.one 4 (.one 7 (.one 11 (.blk [12] .done))))) (.one 0 (.one 4 (.one 7 (.one 11 (.blk [12] .done))))))) [4,7,11] (by kernel_rfl) (by kernel_rfl) ?_;refine blkStep (fun K HK=>?_);simp only [PK]
   go_wp2_with fail
   refine HK.out _ _ ?_;clear HK K;refine twoStep ?_ ?_
   ·
    refine oneStep (fun K HK=>?_);simp only [pick,List.filterMap_cons,List.filterMap_nil,List.getElem?_toArray,List.getElem?_cons_zero]
    go_wp2_with fail
    refine HK.out _ _ ((Ab _).alloc _) ?_;clear HK K;refine twoStep ?_ ?_
    ·
     refine badStep (by kernel_rfl) (fun K HK=>?_);simp only [PK];refine appS (v:=.slice (some ⟨w.heap.size,0,none⟩) 0 0) (l:=[]) E intFlen intOne rfl _ _ rfl (l.take k) rfl (Bj intF 1 w.heap.size 3 w.drew (by simp)) rfl (HH.out.1.ext ((Ab w).drew.alloc _)) (by simp only [List.length_take,List.length_nil];omega) (by simp only [List.length_take,List.length_nil,maxLen];omega) ((Ab w).drew.alloc _).size ?_;intro v1 w1 o1 hg1;have hx1:Ext w w1:=((Ab w).drew.alloc _).app hg1 (Bj intF 1 w.heap.size 3 w.drew (by simp)) (Ae _)
     try rw [List.nil_append] at o1
     clear hg1
     go_wp2_with fail
     refine HK.out _ _ ?_;clear HK K;refine oneStep (fun K HK=>?_);simp only [PK]
     go_wp2_with fail
     refine HK.out _ _ ((Ab _).alloc _) ?_;clear HK K;refine badStep (by kernel_rfl) (fun K HK=>?_);simp only [PK];refine app1 E intFlen intOne rfl _ _ rfl n rfl (Ay o1 ((Ab w1).alloc _)) rfl (by exact Au (intF n) (blk_new w1 _)) (by simp only [List.length_take];omega) (by simp only [List.length_take,maxLen];omega) (by exact(hx1.alloc _).size) ?_;intro v3 w3 o3 hg3;have hx3:Ext w w3:=(hx1.alloc _).app hg3 o1 (Ae _);clear hg3
     go_wp2_with fail
     refine HK.out _ _ ?_;clear HK K;refine badStep (by kernel_rfl) (fun K HK=>?_);simp only [PK];refine appS E intFlen intOne rfl _ _ rfl (l.drop k) rfl o3 rfl (HH.out.2.ext hx3) (by simp only [List.length_append,List.length_take,List.length_drop,List.length_cons,List.length_nil];omega) (by simp only [List.length_append,List.length_take,List.length_drop,List.length_cons,List.length_nil,maxLen];omega) hx3.size ?_;intro v4 w4 o4 hg4;have hx4:Ext w w4:=hx3.app hg4 o3 (Ae _);rw [← HI.out] at o4;have o4':=o4.mono hb;clear hg4 o4
     go_wp2_with fail
     refine HK.out _ _ ?_;clear HK K;refine blkStep (fun K HK=>?_);simp only [PK]
     go_wp2_with fail
     refine HK.out _ _ ?_;clear HK K;refine Ap (by kernel_rfl) ?_
     go_wp2_with fail
     go_ret
     exact⟨_,rfl,o4',hx4⟩
    refine oneStep (fun K HK=>?_);simp only [PK]
    go_wp2_with fail
    refine HK.out _ _ ((Ab _).alloc _) ?_;clear HK K;refine badStep (by kernel_rfl) (fun K HK=>?_);simp only [PK];refine appS (v:=.slice (some ⟨w.heap.size,0,none⟩) 0 0) (l:=[]) E intFlen intOne rfl _ _ rfl (l.take k) rfl (Ay (Bj intF 1 w.heap.size 3 w.drew (by simp)) ((Ab _).alloc (.cells #[.int .i64 n] 3))) rfl (HH.out.1.ext (((Ab w).drew.alloc _).alloc _)) (by simp only [List.length_take,List.length_nil];omega) (by simp only [List.length_take,List.length_nil,maxLen];omega) (((Ab w).drew.alloc _).alloc _).size ?_;intro v1 w1 o1 hg1;have hx1:Ext w w1:=(((Ab w).drew.alloc _).alloc _).app hg1 (Ay (Bj intF 1 w.heap.size 3 w.drew (by simp)) ((Ab _).alloc (.cells #[.int .i64 n] 3))) (Ae _)
    try rw [List.nil_append] at o1
    have hb1:=hg1.block (w.heap.size+1) (by simp) (by simp [Value.ownBlock]);have hb2:=hb1.trans (blk_new2 w.drew (.cells #[] 3) (.cells #[.int .i64 n] 3));clear hg1 hb1
    go_wp2_with fail
    refine HK.out _ _ ?_;clear HK K;refine badStep (by kernel_rfl) (fun K HK=>?_);simp only [PK];refine app1 E intFlen intOne rfl _ _ rfl n rfl o1 rfl (by exact Au (intF n) hb2) (by simp only [List.length_take];omega) (by simp only [List.length_take,maxLen];omega) hx1.size ?_;intro v3 w3 o3 hg3;have hx3:Ext w w3:=hx1.app hg3 o1 (Ae _);clear hg3
    go_wp2_with fail
    refine HK.out _ _ ?_;clear HK K;refine badStep (by kernel_rfl) (fun K HK=>?_);simp only [PK];refine appS E intFlen intOne rfl _ _ rfl (l.drop k) rfl o3 rfl (HH.out.2.ext hx3) (by simp only [List.length_append,List.length_take,List.length_drop,List.length_cons,List.length_nil];omega) (by simp only [List.length_append,List.length_take,List.length_drop,List.length_cons,List.length_nil,maxLen];omega) hx3.size ?_;intro v4 w4 o4 hg4;have hx4:Ext w w4:=hx3.app hg4 o3 (Ae _);rw [← HI.out] at o4;have o4':=o4.mono hb;clear hg4 o4
    go_wp2_with fail
    refine HK.out _ _ ?_;clear HK K;refine blkStep (fun K HK=>?_);simp only [PK]
    go_wp2_with fail
    refine HK.out _ _ ?_;clear HK K;refine Ap (by kernel_rfl) ?_
    go_wp2_with fail
    go_ret
    exact⟨_,rfl,o4',hx4⟩
   refine oneStep (fun K HK=>?_);simp only [PK]
   go_wp2_with fail
   refine HK.out _ _ ((Ab _).alloc _) ?_;clear HK K;refine oneStep (fun K HK=>?_);simp only [pick,List.filterMap_cons,List.filterMap_nil,List.getElem?_toArray,List.getElem?_cons_zero]
   go_wp2_with fail
   refine HK.out _ _ ((Ab _).alloc _) ?_;clear HK K;refine badStep (by kernel_rfl) (fun K HK=>?_);simp only [PK];refine appS (v:=.slice (some ⟨w.heap.size+1,0,none⟩) 0 0) (l:=[]) E intFlen intOne rfl _ _ rfl (l.take k) rfl (Cg (f:=intF) (n:=1) (e:=3) (w:=w.drew.alloc (.cells #[.int .i64 n] 3)) (g:=w.heap.size+1) (base:=w.heap.size) (by simp) (by omega)) rfl (HH.out.1.ext (((Ab w).drew.alloc _).alloc _)) (by simp only [List.length_take,List.length_nil];omega) (by simp only [List.length_take,List.length_nil,maxLen];omega) (((Ab w).drew.alloc _).alloc _).size ?_;intro v1 w1 o1 hg1;have hx1:Ext w w1:=(((Ab w).drew.alloc _).alloc _).app hg1 (Cg (f:=intF) (n:=1) (e:=3) (w:=w.drew.alloc (.cells #[.int .i64 n] 3)) (g:=w.heap.size+1) (base:=w.heap.size) (by simp) (by omega)) (Ae _)
   try rw [List.nil_append] at o1
   have hb1:=hg1.block w.heap.size (by simp;omega) (by simp [Value.ownBlock]);have hb2:=hb1.trans (al2 w.drew (.cells #[.int .i64 n] 3) (.cells #[] 3)).1;clear hg1 hb1
   go_wp2_with fail
   refine HK.out _ _ ?_;clear HK K;refine badStep (by kernel_rfl) (fun K HK=>?_);simp only [PK];refine app1 E intFlen intOne rfl _ _ rfl n rfl o1 rfl (by exact Au (intF n) hb2) (by simp only [List.length_take];omega) (by simp only [List.length_take,maxLen];omega) hx1.size ?_;intro v3 w3 o3 hg3;have hx3:Ext w w3:=hx1.app hg3 o1 (Ae _);clear hg3
   go_wp2_with fail
   refine HK.out _ _ ?_;clear HK K;refine badStep (by kernel_rfl) (fun K HK=>?_);simp only [PK];refine appS E intFlen intOne rfl _ _ rfl (l.drop k) rfl o3 rfl (HH.out.2.ext hx3) (by simp only [List.length_append,List.length_take,List.length_drop,List.length_cons,List.length_nil];omega) (by simp only [List.length_append,List.length_take,List.length_drop,List.length_cons,List.length_nil,maxLen];omega) hx3.size ?_;intro v4 w4 o4 hg4;have hx4:Ext w w4:=hx3.app hg4 o3 (Ae _);rw [← HI.out] at o4;have o4':=o4.mono hb;clear hg4 o4
   go_wp2_with fail
   refine HK.out _ _ ?_;clear HK K;refine blkStep (fun K HK=>?_);simp only [PK]
   go_wp2_with fail
   refine HK.out _ _ ?_;clear HK K;refine Ap (by kernel_rfl) ?_
   go_wp2_with fail
   go_ret
   exact⟨_,rfl,o4',hx4⟩
  have hins:=insInt_put HBL.out hk (fun h=>absurd h hlt)
  by_cases hkc:k<cap
  ·
   skip
   have HI:=Ac hins;clear hins
   go_wp2_with fail
   refine Ax (.blk [1,2,3,5,8,9,10] (.two 0 6 (.two 4 6 (.one 6 (.one 7 (.one 11 (.blk [12] .done)))) (.one 4 (.one 7 (.one 11 (.blk [12] .done))))) (.one 0 (.one 4 (.one 7 (.one 11 (.blk [12] .done))))))) [4,7,11] (by kernel_rfl) (by kernel_rfl) ?_;refine blkStep (fun K HK=>?_);simp only [PK]
   go_wp2_with fail
   refine HK.out _ _ ?_;clear HK K;refine twoStep ?_ ?_
   ·
    refine oneStep (fun K HK=>?_);simp only [pick,List.filterMap_cons,List.filterMap_nil,List.getElem?_toArray,List.getElem?_cons_zero]
    go_wp2_with fail
    refine HK.out _ _ ((Ab _).alloc _) ?_;clear HK K;refine twoStep ?_ ?_
    ·
     refine badStep (by kernel_rfl) (fun K HK=>?_);simp only [PK];refine appS (v:=.slice (some ⟨w.heap.size,0,none⟩) 0 0) (l:=[]) E intFlen intOne rfl _ _ rfl (l.take k) rfl (Bj intF 1 w.heap.size 3 w.drew (by simp)) rfl (HH.out.1.ext ((Ab w).drew.alloc _)) (by simp only [List.length_take,List.length_nil];omega) (by simp only [List.length_take,List.length_nil,maxLen];omega) ((Ab w).drew.alloc _).size ?_;intro v1 w1 o1 hg1;have hx1:Ext w w1:=((Ab w).drew.alloc _).app hg1 (Bj intF 1 w.heap.size 3 w.drew (by simp)) (Ae _)
     try rw [List.nil_append] at o1
     clear hg1
     go_wp2_with fail
     refine HK.out _ _ ?_;clear HK K;refine oneStep (fun K HK=>?_);simp only [PK]
     go_wp2_with fail
     refine HK.out _ _ ((Ab _).alloc _) ?_;clear HK K;refine badStep (by kernel_rfl) (fun K HK=>?_);simp only [PK];refine app1 E intFlen intOne rfl _ _ rfl n rfl (Ay o1 ((Ab w1).alloc _)) rfl (by exact Au (intF n) (blk_new w1 _)) (by simp only [List.length_take];omega) (by simp only [List.length_take,maxLen];omega) (by exact(hx1.alloc _).size) ?_;intro v3 w3 o3 hg3;have hx3:Ext w w3:=(hx1.alloc _).app hg3 o1 (Ae _);clear hg3
     go_wp2_with fail
     refine HK.out _ _ ?_;clear HK K;refine badStep (by kernel_rfl) (fun K HK=>?_);simp only [PK];refine appS E intFlen intOne rfl _ _ rfl (l.drop k) rfl o3 rfl (HH.out.2.ext hx3) (by simp only [List.length_append,List.length_take,List.length_drop,List.length_cons,List.length_nil];omega) (by simp only [List.length_append,List.length_take,List.length_drop,List.length_cons,List.length_nil,maxLen];omega) hx3.size ?_;intro v4 w4 o4 hg4;have hx4:Ext w w4:=hx3.app hg4 o3 (Ae _);rw [← HI.out] at o4;have o4':=o4.mono hb;clear hg4 o4
     go_wp2_with fail
     refine HK.out _ _ ?_;clear HK K;refine blkStep (fun K HK=>?_);simp only [PK]
     go_wp2_with fail
     refine HK.out _ _ ?_;clear HK K;refine Ap (by kernel_rfl) ?_
     go_wp2_with fail
     go_ret
     exact⟨_,rfl,o4',hx4⟩
    refine oneStep (fun K HK=>?_);simp only [PK]
    go_wp2_with fail
    refine HK.out _ _ ((Ab _).alloc _) ?_;clear HK K;refine badStep (by kernel_rfl) (fun K HK=>?_);simp only [PK];refine appS (v:=.slice (some ⟨w.heap.size,0,none⟩) 0 0) (l:=[]) E intFlen intOne rfl _ _ rfl (l.take k) rfl (Ay (Bj intF 1 w.heap.size 3 w.drew (by simp)) ((Ab _).alloc (.cells #[.int .i64 n] 3))) rfl (HH.out.1.ext (((Ab w).drew.alloc _).alloc _)) (by simp only [List.length_take,List.length_nil];omega) (by simp only [List.length_take,List.length_nil,maxLen];omega) (((Ab w).drew.alloc _).alloc _).size ?_;intro v1 w1 o1 hg1;have hx1:Ext w w1:=(((Ab w).drew.alloc _).alloc _).app hg1 (Ay (Bj intF 1 w.heap.size 3 w.drew (by simp)) ((Ab _).alloc (.cells #[.int .i64 n] 3))) (Ae _)
    try rw [List.nil_append] at o1
    have hb1:=hg1.block (w.heap.size+1) (by simp) (by simp [Value.ownBlock]);have hb2:=hb1.trans (blk_new2 w.drew (.cells #[] 3) (.cells #[.int .i64 n] 3));clear hg1 hb1
    go_wp2_with fail
    refine HK.out _ _ ?_;clear HK K;refine badStep (by kernel_rfl) (fun K HK=>?_);simp only [PK];refine app1 E intFlen intOne rfl _ _ rfl n rfl o1 rfl (by exact Au (intF n) hb2) (by simp only [List.length_take];omega) (by simp only [List.length_take,maxLen];omega) hx1.size ?_;intro v3 w3 o3 hg3;have hx3:Ext w w3:=hx1.app hg3 o1 (Ae _);clear hg3
    go_wp2_with fail
    refine HK.out _ _ ?_;clear HK K;refine badStep (by kernel_rfl) (fun K HK=>?_);simp only [PK];refine appS E intFlen intOne rfl _ _ rfl (l.drop k) rfl o3 rfl (HH.out.2.ext hx3) (by simp only [List.length_append,List.length_take,List.length_drop,List.length_cons,List.length_nil];omega) (by simp only [List.length_append,List.length_take,List.length_drop,List.length_cons,List.length_nil,maxLen];omega) hx3.size ?_;intro v4 w4 o4 hg4;have hx4:Ext w w4:=hx3.app hg4 o3 (Ae _);rw [← HI.out] at o4;have o4':=o4.mono hb;clear hg4 o4
    go_wp2_with fail
    refine HK.out _ _ ?_;clear HK K;refine blkStep (fun K HK=>?_);simp only [PK]
    go_wp2_with fail
    refine HK.out _ _ ?_;clear HK K;refine Ap (by kernel_rfl) ?_
    go_wp2_with fail
    go_ret
    exact⟨_,rfl,o4',hx4⟩
   refine oneStep (fun K HK=>?_);simp only [PK]
   go_wp2_with fail
   refine HK.out _ _ ((Ab _).alloc _) ?_;clear HK K;refine oneStep (fun K HK=>?_);simp only [pick,List.filterMap_cons,List.filterMap_nil,List.getElem?_toArray,List.getElem?_cons_zero]
   go_wp2_with fail
   refine HK.out _ _ ((Ab _).alloc _) ?_;clear HK K;refine badStep (by kernel_rfl) (fun K HK=>?_);simp only [PK];refine appS (v:=.slice (some ⟨w.heap.size+1,0,none⟩) 0 0) (l:=[]) E intFlen intOne rfl _ _ rfl (l.take k) rfl (Cg (f:=intF) (n:=1) (e:=3) (w:=w.drew.alloc (.cells #[.int .i64 n] 3)) (g:=w.heap.size+1) (base:=w.heap.size) (by simp) (by omega)) rfl (HH.out.1.ext (((Ab w).drew.alloc _).alloc _)) (by simp only [List.length_take,List.length_nil];omega) (by simp only [List.length_take,List.length_nil,maxLen];omega) (((Ab w).drew.alloc _).alloc _).size ?_;intro v1 w1 o1 hg1;have hx1:Ext w w1:=(((Ab w).drew.alloc _).alloc _).app hg1 (Cg (f:=intF) (n:=1) (e:=3) (w:=w.drew.alloc (.cells #[.int .i64 n] 3)) (g:=w.heap.size+1) (base:=w.heap.size) (by simp) (by omega)) (Ae _)
   try rw [List.nil_append] at o1
   have hb1:=hg1.block w.heap.size (by simp;omega) (by simp [Value.ownBlock]);have hb2:=hb1.trans (al2 w.drew (.cells #[.int .i64 n] 3) (.cells #[] 3)).1;clear hg1 hb1
   go_wp2_with fail
   refine HK.out _ _ ?_;clear HK K;refine badStep (by kernel_rfl) (fun K HK=>?_);simp only [PK];refine app1 E intFlen intOne rfl _ _ rfl n rfl o1 rfl (by exact Au (intF n) hb2) (by simp only [List.length_take];omega) (by simp only [List.length_take,maxLen];omega) hx1.size ?_;intro v3 w3 o3 hg3;have hx3:Ext w w3:=hx1.app hg3 o1 (Ae _);clear hg3
   go_wp2_with fail
   refine HK.out _ _ ?_;clear HK K;refine badStep (by kernel_rfl) (fun K HK=>?_);simp only [PK];refine appS E intFlen intOne rfl _ _ rfl (l.drop k) rfl o3 rfl (HH.out.2.ext hx3) (by simp only [List.length_append,List.length_take,List.length_drop,List.length_cons,List.length_nil];omega) (by simp only [List.length_append,List.length_take,List.length_drop,List.length_cons,List.length_nil,maxLen];omega) hx3.size ?_;intro v4 w4 o4 hg4;have hx4:Ext w w4:=hx3.app hg4 o3 (Ae _);rw [← HI.out] at o4;have o4':=o4.mono hb;clear hg4 o4
   go_wp2_with fail
   refine HK.out _ _ ?_;clear HK K;refine blkStep (fun K HK=>?_);simp only [PK]
   go_wp2_with fail
   refine HK.out _ _ ?_;clear HK K;refine Ap (by kernel_rfl) ?_
   go_wp2_with fail
   go_ret
   exact⟨_,rfl,o4',hx4⟩
  obtain rfl:k=cap:=by omega
  have HH:=Ac (halvesEnd hown (by omega));have HI:=Ac hins;clear hins
  go_wp2_with fail
  refine Ax (.blk [1,2,3,5,8,9,10] (.two 0 6 (.two 4 6 (.one 6 (.one 7 (.one 11 (.blk [12] .done)))) (.one 4 (.one 7 (.one 11 (.blk [12] .done))))) (.one 0 (.one 4 (.one 7 (.one 11 (.blk [12] .done))))))) [4,7,11] (by kernel_rfl) (by kernel_rfl) ?_;refine blkStep (fun K HK=>?_);simp only [PK]
  go_wp2_with fail
  refine HK.out _ _ ?_;clear HK K;refine twoStep ?_ ?_
  ·
   refine oneStep (fun K HK=>?_);simp only [pick,List.filterMap_cons,List.filterMap_nil,List.getElem?_toArray,List.getElem?_cons_zero]
   go_wp2_with fail
   refine HK.out _ _ ((Ab _).alloc _) ?_;clear HK K;refine twoStep ?_ ?_
   ·
    refine badStep (by kernel_rfl) (fun K HK=>?_);simp only [PK];refine appS (v:=.slice (some ⟨w.heap.size,0,none⟩) 0 0) (l:=[]) E intFlen intOne rfl _ _ rfl (l.take k) rfl (Bj intF 1 w.heap.size 3 w.drew (by simp)) rfl (HH.out.1.ext ((Ab w).drew.alloc _)) (by simp only [List.length_take,List.length_nil];omega) (by simp only [List.length_take,List.length_nil,maxLen];omega) ((Ab w).drew.alloc _).size ?_;intro v1 w1 o1 hg1;have hx1:Ext w w1:=((Ab w).drew.alloc _).app hg1 (Bj intF 1 w.heap.size 3 w.drew (by simp)) (Ae _)
    try rw [List.nil_append] at o1
    clear hg1
    go_wp2_with fail
    refine HK.out _ _ ?_;clear HK K;refine oneStep (fun K HK=>?_);simp only [PK]
    go_wp2_with fail
    refine HK.out _ _ ((Ab _).alloc _) ?_;clear HK K;refine badStep (by kernel_rfl) (fun K HK=>?_);simp only [PK];refine app1 E intFlen intOne rfl _ _ rfl n rfl (Ay o1 ((Ab w1).alloc _)) rfl (by exact Au (intF n) (blk_new w1 _)) (by simp only [List.length_take];omega) (by simp only [List.length_take,maxLen];omega) (by exact(hx1.alloc _).size) ?_;intro v3 w3 o3 hg3;have hx3:Ext w w3:=(hx1.alloc _).app hg3 o1 (Ae _);clear hg3
    go_wp2_with fail
    refine HK.out _ _ ?_;clear HK K;refine badStep (by kernel_rfl) (fun K HK=>?_);simp only [PK];refine appS E intFlen intOne rfl _ _ rfl (l.drop k) rfl o3 rfl (HH.out.2.ext hx3) (by simp only [List.length_append,List.length_take,List.length_drop,List.length_cons,List.length_nil];omega) (by simp only [List.length_append,List.length_take,List.length_drop,List.length_cons,List.length_nil,maxLen];omega) hx3.size ?_;intro v4 w4 o4 hg4;have hx4:Ext w w4:=hx3.app hg4 o3 (Ae _);rw [← HI.out] at o4;have o4':=o4.mono hb;clear hg4 o4
    go_wp2_with fail
    refine HK.out _ _ ?_;clear HK K;refine blkStep (fun K HK=>?_);simp only [PK]
    go_wp2_with fail
    refine HK.out _ _ ?_;clear HK K;refine Ap (by kernel_rfl) ?_
    go_wp2_with fail
    go_ret
    exact⟨_,rfl,o4',hx4⟩
   refine oneStep (fun K HK=>?_);simp only [PK]
   go_wp2_with fail
   refine HK.out _ _ ((Ab _).alloc _) ?_;clear HK K;refine badStep (by kernel_rfl) (fun K HK=>?_);simp only [PK];refine appS (v:=.slice (some ⟨w.heap.size,0,none⟩) 0 0) (l:=[]) E intFlen intOne rfl _ _ rfl (l.take k) rfl (Ay (Bj intF 1 w.heap.size 3 w.drew (by simp)) ((Ab _).alloc (.cells #[.int .i64 n] 3))) rfl (HH.out.1.ext (((Ab w).drew.alloc _).alloc _)) (by simp only [List.length_take,List.length_nil];omega) (by simp only [List.length_take,List.length_nil,maxLen];omega) (((Ab w).drew.alloc _).alloc _).size ?_;intro v1 w1 o1 hg1;have hx1:Ext w w1:=(((Ab w).drew.alloc _).alloc _).app hg1 (Ay (Bj intF 1 w.heap.size 3 w.drew (by simp)) ((Ab _).alloc (.cells #[.int .i64 n] 3))) (Ae _)
   try rw [List.nil_append] at o1
   have hb1:=hg1.block (w.heap.size+1) (by simp) (by simp [Value.ownBlock]);have hb2:=hb1.trans (blk_new2 w.drew (.cells #[] 3) (.cells #[.int .i64 n] 3));clear hg1 hb1
   go_wp2_with fail
   refine HK.out _ _ ?_;clear HK K;refine badStep (by kernel_rfl) (fun K HK=>?_);simp only [PK];refine app1 E intFlen intOne rfl _ _ rfl n rfl o1 rfl (by exact Au (intF n) hb2) (by simp only [List.length_take];omega) (by simp only [List.length_take,maxLen];omega) hx1.size ?_;intro v3 w3 o3 hg3;have hx3:Ext w w3:=hx1.app hg3 o1 (Ae _);clear hg3
   go_wp2_with fail
   refine HK.out _ _ ?_;clear HK K;refine badStep (by kernel_rfl) (fun K HK=>?_);simp only [PK];refine appS E intFlen intOne rfl _ _ rfl (l.drop k) rfl o3 rfl (HH.out.2.ext hx3) (by simp only [List.length_append,List.length_take,List.length_drop,List.length_cons,List.length_nil];omega) (by simp only [List.length_append,List.length_take,List.length_drop,List.length_cons,List.length_nil,maxLen];omega) hx3.size ?_;intro v4 w4 o4 hg4;have hx4:Ext w w4:=hx3.app hg4 o3 (Ae _);rw [← HI.out] at o4;have o4':=o4.mono hb;clear hg4 o4
   go_wp2_with fail
   refine HK.out _ _ ?_;clear HK K;refine blkStep (fun K HK=>?_);simp only [PK]
   go_wp2_with fail
   refine HK.out _ _ ?_;clear HK K;refine Ap (by kernel_rfl) ?_
   go_wp2_with fail
   go_ret
   exact⟨_,rfl,o4',hx4⟩
  refine oneStep (fun K HK=>?_);simp only [PK]
  go_wp2_with fail
  refine HK.out _ _ ((Ab _).alloc _) ?_;clear HK K;refine oneStep (fun K HK=>?_);simp only [pick,List.filterMap_cons,List.filterMap_nil,List.getElem?_toArray,List.getElem?_cons_zero]
  go_wp2_with fail
  refine HK.out _ _ ((Ab _).alloc _) ?_;clear HK K;refine badStep (by kernel_rfl) (fun K HK=>?_);simp only [PK];refine appS (v:=.slice (some ⟨w.heap.size+1,0,none⟩) 0 0) (l:=[]) E intFlen intOne rfl _ _ rfl (l.take k) rfl (Cg (f:=intF) (n:=1) (e:=3) (w:=w.drew.alloc (.cells #[.int .i64 n] 3)) (g:=w.heap.size+1) (base:=w.heap.size) (by simp) (by omega)) rfl (HH.out.1.ext (((Ab w).drew.alloc _).alloc _)) (by simp only [List.length_take,List.length_nil];omega) (by simp only [List.length_take,List.length_nil,maxLen];omega) (((Ab w).drew.alloc _).alloc _).size ?_;intro v1 w1 o1 hg1;have hx1:Ext w w1:=(((Ab w).drew.alloc _).alloc _).app hg1 (Cg (f:=intF) (n:=1) (e:=3) (w:=w.drew.alloc (.cells #[.int .i64 n] 3)) (g:=w.heap.size+1) (base:=w.heap.size) (by simp) (by omega)) (Ae _)
  try rw [List.nil_append] at o1
  have hb1:=hg1.block w.heap.size (by simp;omega) (by simp [Value.ownBlock]);have hb2:=hb1.trans (al2 w.drew (.cells #[.int .i64 n] 3) (.cells #[] 3)).1;clear hg1 hb1
  go_wp2_with fail
  refine HK.out _ _ ?_;clear HK K;refine badStep (by kernel_rfl) (fun K HK=>?_);simp only [PK];refine app1 E intFlen intOne rfl _ _ rfl n rfl o1 rfl (by exact Au (intF n) hb2) (by simp only [List.length_take];omega) (by simp only [List.length_take,maxLen];omega) hx1.size ?_;intro v3 w3 o3 hg3;have hx3:Ext w w3:=hx1.app hg3 o1 (Ae _);clear hg3
  go_wp2_with fail
  refine HK.out _ _ ?_;clear HK K;refine badStep (by kernel_rfl) (fun K HK=>?_);simp only [PK];refine appS E intFlen intOne rfl _ _ rfl (l.drop k) rfl o3 rfl (HH.out.2.ext hx3) (by simp only [List.length_append,List.length_take,List.length_drop,List.length_cons,List.length_nil];omega) (by simp only [List.length_append,List.length_take,List.length_drop,List.length_cons,List.length_nil,maxLen];omega) hx3.size ?_;intro v4 w4 o4 hg4;have hx4:Ext w w4:=hx3.app hg4 o3 (Ae _);rw [← HI.out] at o4;have o4':=o4.mono hb;clear hg4 o4
  go_wp2_with fail
  refine HK.out _ _ ?_;clear HK K;refine blkStep (fun K HK=>?_);simp only [PK]
  go_wp2_with fail
  refine HK.out _ _ ?_;clear HK K;refine Ap (by kernel_rfl) ?_
  go_wp2_with fail
  go_ret
  exact⟨_,rfl,o4',hx4⟩
end
end Go.Proofs.YteodlcpeoaggbaaGreat
