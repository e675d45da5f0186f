/- What these laws need: FnOld, FnWalks: Contracts of digests, codes and hop fields, program and reference. Contracts of chains of residues, of comparing rows of numbers, and of keys, program and reference. Contracts of the far ends of links, of rows of hop fields and of parts, program and reference. Contracts of kinds of interfaces, of steps that are allowed, and of members of a set, program and reference. The walk of a packet, as a plain function. The steps of a path, once more: from a place in it on, hop by hop. -/
import Derived.Deep.LoopGhost
import Derived.Test.YteodlcpeoaggbaaGreatKV9
namespace Go.Proofs.YteodlcpeoaggbaaGreat
section
open Go.ChangeShapes Go.WideShapes Go.ChangeAt Go.RowKit Go.Deep
set_option maxRecDepth 100000
set_option maxHeartbeats 8000000
theorem ExtW.out {w w1:World} (h:∃ x:ExtW w,w1=x.w'):Ext w w1:=by obtain⟨y,rfl⟩:=h;exact y.h
theorem tmod_bd (n:Int):-2147483647<n.tmod 2147483647∧n.tmod 2147483647<2147483647:=by
 rw [Int.tmod_eq_emod];split <;> omega
theorem mod_pos (n:Int):(n.tmod 2147483647+2147483647) % 2147483647=n % 2147483647:=by
 rw [Int.add_emod_right,Int.tmod_eq_emod]
 split <;> omega
theorem mod_pos' (n:Int):(n.tmod 2147483647+2147483647).tmod 2147483647=n % 2147483647:=by
 have:=tmod_bd n;rw [Int.tmod_eq_emod_of_nonneg (by omega)];exact mod_pos n
theorem digest_snoc {l:List Int} {k:Nat} (hk:k<l.length):digest (l.take (k+1))=digStep (digest (l.take k)) l[k]:=by
 unfold digest;rw [List.take_succ_eq_append_getElem hk,List.foldl_append];rfl
theorem digest_res (l:List Int):0≤digest l∧digest l≤2147483646:=by
 rcases List.eq_nil_or_concat l with rfl | ⟨l',x,rfl⟩
 ·
  exact⟨by decide,by decide⟩
 unfold digest;rw [List.concat_eq_append,List.foldl_append];exact digStep_res _ x
theorem i_Mod (n:Int) (w:World) :
  Calls Tryz.prog 208 #[.int .i64 n,.int .i64 2147483647] w fun e w'=>e=.returned (.int .i64 (n % 2147483647))∧w=w':=by
 go_enter Tryz.func208,Tryz.ntmps208
 have hb:=tmod_bd n;obtain⟨hb1,hb2⟩:=hb;have HM:=Ac (mod_pos n);have HM2:=Ac (mod_pos' n)
 go_wp2_with (go_at_call 110;refine(i_InRange _ _ _ _).mono ?_;rintro e w' ⟨rfl,rfl⟩)
 all_goals
  first
  | (go_ret; first | exact ⟨ret_int HM.out, rfl⟩ | exact ⟨ret_int HM2.out, rfl⟩)
  | (exfalso; rename_i h; revert h; decide)
theorem s_Mod (n:Int) (w:World) :
  Calls Tryz.prog 207 #[.int .i64 n,.int .i64 2147483647] w fun e w'=>e=.returned (.int .i64 (n % 2147483647))∧w=w':=by
 go_enter Tryz.func207,Tryz.ntmps207
 have hb:=tmod_bd n;obtain⟨hb1,hb2⟩:=hb;have HM:=Ac (mod_pos n);have HM2:=Ac (mod_pos' n)
 go_wp2_with (go_at_call 117;refine(s_l1In _ _ _ _).mono ?_;rintro e w' ⟨rfl,rfl⟩)
 all_goals
  first
  | (go_ret; first | exact ⟨ret_int HM.out, rfl⟩ | exact ⟨ret_int HM2.out, rfl⟩)
  | (exfalso; rename_i h; revert h; decide)
theorem i_Digest (l:List Int) (v:Value) (w:World) (hv:RdS Rep.int w v l) :
  Calls Tryz.prog 205 #[v] w fun e w'=>e=.returned (.int .i64 (digest l))∧w=w':=by
 obtain⟨o,cap,rfl,hsm⟩:=hv.shape
 go_enter Tryz.func205,Tryz.ntmps205
 go_wp2
 go_loop [3,8] (fun d i=>∃ k:Nat,k≤l.length∧i=.int .i64 k∧d=.int .i64 (digest (l.take k))) (fun _ i=>l.length - (intOf i).toNat)
 case atStart=>exact⟨0,Nat.zero_le _,rfl,rfl⟩
 case round=>
  obtain⟨k,hk,rfl,rfl⟩:=hrel
  by_cases hlt:k<l.length
  ·
   obtain⟨b,off,rfl,hc⟩:=ints_at hv k hlt;have HS:=Ac (digest_snoc hlt);obtain⟨d1,d2⟩:=digest_res (l.take k);generalize digest (l.take k)=d at *
   go_wp2_with fail
   refine(i_Mod l[k] _).mono ?_;rintro e w' ⟨rfl,rfl⟩;have hm1:0≤l[k] % 2147483647:=by omega
   have hm2:l[k] % 2147483647<2147483647:=by omega
   go_wp2_with fail
   go_round
   case rel=>exact⟨k+1,by omega,by go_num,by rw [HS.out];rfl⟩
   case measure=>simp [intOf];omega
  go_wp2
  go_ret
  exact⟨ret_int (by rw [List.take_of_length_le (by omega)]),rfl⟩
theorem s_Digest (l:List Int) (v:Value) (w:World) (hv:RdS Rep.int w v l) :
  Calls Tryz.prog 204 #[v] w fun e w'=>e=.returned (.int .i64 (digest l))∧w=w':=by
 obtain⟨o,cap,rfl,hsm⟩:=hv.shape
 go_enter Tryz.func204,Tryz.ntmps204
 go_wp2
 go_loop [3,4] (fun d i=>∃ k:Nat,k≤l.length∧i=.int .i64 k∧d=.int .i64 (digest (l.take k))) (fun _ i=>l.length - (intOf i).toNat)
 case atStart=>exact⟨0,Nat.zero_le _,rfl,rfl⟩
 case round=>
  obtain⟨k,hk,rfl,rfl⟩:=hrel
  by_cases hlt:k<l.length
  ·
   obtain⟨b,off,rfl,hc⟩:=ints_at hv k hlt;have HS:=Ac (digest_snoc hlt);obtain⟨d1,d2⟩:=digest_res (l.take k);generalize digest (l.take k)=d at *
   go_wp2_with fail
   refine(s_Mod l[k] _).mono ?_;rintro e w' ⟨rfl,rfl⟩;have hm1:0≤l[k] % 2147483647:=by omega
   have hm2:l[k] % 2147483647<2147483647:=by omega
   go_wp2_with fail
   go_round
   case rel=>exact⟨k+1,by omega,by go_num,by rw [HS.out];rfl⟩
   case measure=>simp [intOf];omega
  go_wp2
  go_ret
  exact⟨ret_int (by rw [List.take_of_length_le (by omega)]),rfl⟩
theorem i_ComputeMAC (key:Int) (l:List Int) (v:Value) (w:World) (hv:RdS Rep.int w v l) (hl:l.length≤1048576) :
  Calls Tryz.prog 202 #[.int .i64 key,v] w fun e w'=>e=.returned (.int .i64 (macOf key l))∧Ext w w':=by
 obtain⟨E⟩:=elemInt;obtain⟨o,cap,rfl,hsm⟩:=hv.shape;have h1:Ext w (w.alloc (.cells #[.int .i64 key] 3)):=(Ab _).alloc _;have ho1:=OwnF.lit (f:=intF) intFlen w.heap.size 3 w [key] (Ae _) (by simp [maxLen]);have hr1:=hv.ext h1
 go_enter Tryz.func202,Tryz.ntmps202
 go_wp2_with (at_builtin;refine appS E intFlen intOne rfl _ _ rfl l rfl ho1 rfl hr1 (by simp;omega) (by simp [maxLen];omega) (by simp) ?_)
 intro v2 w2 ho2 hg2;have h2:Ext w w2:=h1.app hg2 ho1 (Ae _);have h3:Ext w2 (w2.alloc (.cells #[.int .i64 key] 3)):=(Ab _).alloc _;clear hg2 hr1
 go_wp2_with (at_builtin;refine app1 E intFlen intOne rfl _ _ rfl key rfl (ho2.ext h3) rfl (by exact Au (intF key) (blk_new w2 _)) (by simp;omega) (by simp [maxLen];omega) (by exact(h2.trans h3).size) ?_)
 intro v4 w4 ho4 hg4;have h4:Ext w w4:=(h2.trans h3).app hg4 ho2 (Ae _);clear hg4
 go_wp2_with fail
 refine(i_Digest _ _ _ (Bo ho4)).mono ?_;rintro e w5 ⟨rfl,rfl⟩
 go_wp2_with fail
 go_ret
 exact⟨rfl,h4⟩
theorem s_ComputeMAC (key:Int) (l:List Int) (v:Value) (w:World) (hv:RdS Rep.int w v l) (hl:l.length≤1048576) :
  Calls Tryz.prog 197 #[.int .i64 key,v] w fun e w'=>e=.returned (.int .i64 (macOf key l))∧Ext w w':=by
 obtain⟨E⟩:=elemInt;obtain⟨o,cap,rfl,hsm⟩:=hv.shape;have h1:Ext w (w.alloc (.cells #[.int .i64 key] 3)):=(Ab _).alloc _;have ho1:=OwnF.lit (f:=intF) intFlen w.heap.size 3 w [key] (Ae _) (by simp [maxLen]);have hr1:=hv.ext h1
 go_enter Tryz.func197,Tryz.ntmps197
 go_wp2_with (at_builtin;refine appS E intFlen intOne rfl _ _ rfl l rfl ho1 rfl hr1 (by simp;omega) (by simp [maxLen];omega) (by simp) ?_)
 intro v2 w2 ho2 hg2;have h2:Ext w w2:=h1.app hg2 ho1 (Ae _);have h3:Ext w2 (w2.alloc (.cells #[.int .i64 key] 3)):=(Ab _).alloc _;clear hg2 hr1
 go_wp2_with (at_builtin;refine app1 E intFlen intOne rfl _ _ rfl key rfl (ho2.ext h3) rfl (by exact Au (intF key) (blk_new w2 _)) (by simp;omega) (by simp [maxLen];omega) (by exact(h2.trans h3).size) ?_)
 intro v4 w4 ho4 hg4;have h4:Ext w w4:=(h2.trans h3).app hg4 ho2 (Ae _);clear hg4
 go_wp2_with fail
 refine(s_Digest _ _ _ (Bo ho4)).mono ?_;rintro e w5 ⟨rfl,rfl⟩
 go_wp2_with fail
 go_ret
 exact⟨rfl,h4⟩
theorem i_HopMAC (key ts beta:Int) (h:Hop) (w:World) :
  Calls Tryz.prog 193 #[.int .i64 key,.int .i64 ts,.int .i64 beta,.agg #[.int .i64 h.asn,.int .i64 h.ing,.int .i64 h.eg,.int .i64 h.exp,.int .i64 h.mac]] w fun e w'=>e=.returned (.int .i64 (hopMac key ts beta h))∧Ext w w':=by
 have h1:Ext w (w.alloc (.cells #[.int .i64 h.asn,.int .i64 h.ing,.int .i64 h.eg,.int .i64 h.exp,.int .i64 h.mac] 103)):=(Ab _).alloc _;have ho1:=OwnF.lit (f:=intF) intFlen 0 3 (w.alloc (.cells #[.int .i64 h.asn,.int .i64 h.ing,.int .i64 h.eg,.int .i64 h.exp,.int .i64 h.mac] 103)) [ts,beta,h.asn,h.ing,h.eg,h.exp] (Nat.zero_le _) (by simp [maxLen]);have h2:=h1.alloc (.cells #[.int .i64 ts,.int .i64 beta,.int .i64 h.asn,.int .i64 h.ing,.int .i64 h.eg,.int .i64 h.exp] 3)
 have hr:RdS Rep.int ((w.alloc (.cells #[.int .i64 h.asn,.int .i64 h.ing,.int .i64 h.eg,.int .i64 h.exp,.int .i64 h.mac] 103)).alloc (.cells #[.int .i64 ts,.int .i64 beta,.int .i64 h.asn,.int .i64 h.ing,.int .i64 h.eg,.int .i64 h.exp] 3)) (.slice (some ⟨w.heap.size+1,0,none⟩) 6 6) [ts,beta,h.asn,h.ing,h.eg,h.exp]:=by
  have h:=Bo ho1;rw [nblk_alloc] at h;exact h
 clear ho1
 go_enter Tryz.func193,Tryz.ntmps193
 go_wp2_with fail
 refine(i_ComputeMAC key [ts,beta,h.asn,h.ing,h.eg,h.exp] _ _ hr (by simp)).mono ?_;rintro e w3 ⟨rfl,h3⟩
 go_wp2_with fail
 go_ret
 exact⟨rfl,h2.trans h3⟩
theorem s_HopMAC (key ts beta:Int) (h:Hop) (w:World) :
  Calls Tryz.prog 173 #[.int .i64 key,.int .i64 ts,.int .i64 beta,.agg #[.int .i64 h.asn,.int .i64 h.ing,.int .i64 h.eg,.int .i64 h.exp,.int .i64 h.mac]] w fun e w'=>e=.returned (.int .i64 (hopMac key ts beta h))∧Ext w w':=by
 have h1:Ext w (w.alloc (.cells #[.int .i64 h.asn,.int .i64 h.ing,.int .i64 h.eg,.int .i64 h.exp,.int .i64 h.mac] 103)):=(Ab _).alloc _;have ho1:=OwnF.lit (f:=intF) intFlen 0 3 (w.alloc (.cells #[.int .i64 h.asn,.int .i64 h.ing,.int .i64 h.eg,.int .i64 h.exp,.int .i64 h.mac] 103)) [ts,beta,h.asn,h.ing,h.eg,h.exp] (Nat.zero_le _) (by simp [maxLen]);have h2:=h1.alloc (.cells #[.int .i64 ts,.int .i64 beta,.int .i64 h.asn,.int .i64 h.ing,.int .i64 h.eg,.int .i64 h.exp] 3)
 have hr:RdS Rep.int ((w.alloc (.cells #[.int .i64 h.asn,.int .i64 h.ing,.int .i64 h.eg,.int .i64 h.exp,.int .i64 h.mac] 103)).alloc (.cells #[.int .i64 ts,.int .i64 beta,.int .i64 h.asn,.int .i64 h.ing,.int .i64 h.eg,.int .i64 h.exp] 3)) (.slice (some ⟨w.heap.size+1,0,none⟩) 6 6) [ts,beta,h.asn,h.ing,h.eg,h.exp]:=by
  have h:=Bo ho1;rw [nblk_alloc] at h;exact h
 clear ho1
 go_enter Tryz.func173,Tryz.ntmps173
 go_wp2_with fail
 refine(s_ComputeMAC key [ts,beta,h.asn,h.ing,h.eg,h.exp] _ _ hr (by simp)).mono ?_;rintro e w3 ⟨rfl,h3⟩
 go_wp2_with fail
 go_ret
 exact⟨rfl,h2.trans h3⟩
theorem i_ValidHop (h:Hop) (w:World) :
  Calls Tryz.prog 192 #[.agg #[.int .i64 h.asn,.int .i64 h.ing,.int .i64 h.eg,.int .i64 h.exp,.int .i64 h.mac]] w fun e w'=>e=.returned (.bool (validHop h))∧Ext w w':=by
 go_enter Tryz.func192,Tryz.ntmps192
 go_wp2_with (first | (go_at_call 110;refine(i_InRange _ _ _ _).mono ?_;rintro e w' ⟨rfl,rfl⟩) | (go_at_call 177;refine(i_isResidue _ _).mono ?_;rintro e w' ⟨rfl,rfl⟩))
 all_goals
  go_ret
  refine⟨Ah ?_,(Ab _).alloc _⟩
  simp [validHop, *]
theorem s_ValidHop (h:Hop) (w:World) :
  Calls Tryz.prog 200 #[.agg #[.int .i64 h.asn,.int .i64 h.ing,.int .i64 h.eg,.int .i64 h.exp,.int .i64 h.mac]] w fun e w'=>e=.returned (.bool (validHop h))∧Ext w w':=by
 go_enter Tryz.func200,Tryz.ntmps200
 go_wp2_with (first | (go_at_call 117;refine(s_l1In _ _ _ _).mono ?_;rintro e w' ⟨rfl,rfl⟩) | (go_at_call 149;refine(s_l3Ok _ _).mono ?_;rintro e w' ⟨rfl,rfl⟩))
 all_goals
  go_ret
  refine⟨Ah ?_,(Ab _).alloc _⟩
  simp [validHop, *]
theorem i_isAS (t:Topo) (v1 v2:Value) (r:Int) (w:World) (ha:RdS ASd.rep w v1 t.ases) :
  Calls Tryz.prog 157 #[.agg #[v1,v2],.int .i64 r] w fun e w'=>e=.returned (.bool (isAs t r))∧Ext w w':=by
 obtain⟨o,cap,rfl,hsm⟩:=ha.shape
 go_enter Tryz.func157,Tryz.ntmps157
 go_wp2_with (go_at_call 110;refine(i_InRange _ _ _ _).mono ?_;rintro e w' ⟨rfl,rfl⟩)
 go_ret
 exact⟨rfl,(Ab _).alloc _⟩
theorem s_l5Realm (t:Topo) (v1 v2:Value) (r:Int) (w:World) (ha:RdS ASd.rep w v1 t.ases) :
  Calls Tryz.prog 118 #[.agg #[v1,v2],.int .i64 r] w fun e w'=>e=.returned (.bool (isAs t r))∧Ext w w':=by
 obtain⟨o,cap,rfl,hsm⟩:=ha.shape
 go_enter Tryz.func118,Tryz.ntmps118
 go_wp2_with (go_at_call 117;refine(s_l1In _ _ _ _).mono ?_;rintro e w' ⟨rfl,rfl⟩)
 go_ret
 exact⟨rfl,(Ab _).alloc _⟩
theorem i_VerifyHop (t:Topo) (v1 v2:Value) (ts beta:Int) (h:Hop) (w:World) (ha:RdS ASd.rep w v1 t.ases) :
  Calls Tryz.prog 161 #[.agg #[v1,v2],.int .i64 ts,.int .i64 beta,.agg #[.int .i64 h.asn,.int .i64 h.ing,.int .i64 h.eg,.int .i64 h.exp,.int .i64 h.mac]] w fun e w'=>e=.returned (.bool (verHop t ts beta h))∧Ext w w':=by
 obtain⟨o,cap,rfl,hsm⟩:=ha.shape;obtain⟨hx0,HB⟩:=ea2 w (.cells #[.slice o t.ases.length cap,v2] 27) (.cells #[.int .i64 h.asn,.int .i64 h.ing,.int .i64 h.eg,.int .i64 h.exp,.int .i64 h.mac] 103);replace HB:=Ac HB
 go_enter Tryz.func161,Tryz.ntmps161
 go_wp2
 have hc1:=blk2 HB.out.1;have hc2:=blk5 HB.out.2
 cases h1:validHop h
 ·
  have HE:=Ac (show verHop t ts beta h=false by unfold verHop;rw [h1];rfl);refine Al (by kernel_rfl) (by kernel_rfl) ?_;have q0:=Br hc1;have q2:=Bv hc2
  repeat (first | go_big_quiet_step (((first | (go_at_call 192;exact Ai (i_ValidHop h _))))) | quiet_step (((first | (go_at_call 192;exact Ai (i_ValidHop h _))))))
  refine wpQuiet_nil ?_;intro w9 hw9;have h9:=ExtW.out hw9;clear hw9 q0 q2;clear hc1 hc2
  go_wp2_with fail
  go_ret
  exact⟨Ah HE.out.symm,hx0.trans h9⟩
 cases h2:isAs t h.asn
 ·
  have HE:=Ac (show verHop t ts beta h=false by unfold verHop;rw [h1,h2];rfl);refine Al (by kernel_rfl) (by kernel_rfl) ?_;have q0:=Br hc1;have q2:=Bv hc2
  repeat (first | go_big_quiet_step (((first | (go_at_call 192;exact Ai (i_ValidHop h _)) | (go_at_call 157;exact Ai (i_isAS t _ _ h.asn _ ((ha.ext hx0).ext (ExtW.h _))))))) | quiet_step (((first | (go_at_call 192;exact Ai (i_ValidHop h _)) | (go_at_call 157;exact Ai (i_isAS t _ _ h.asn _ ((ha.ext hx0).ext (ExtW.h _))))))))
  refine wpQuiet_nil ?_;intro w9 hw9;have h9:=ExtW.out hw9;clear hw9 q0 q2;clear hc1 hc2
  go_wp2_with fail
  go_ret
  exact⟨Ah HE.out.symm,hx0.trans h9⟩
 obtain⟨hp1,hp2⟩:=isAs_lt h2;have HE:=Ac (show verHop t ts beta h=(h.mac == hopMac t.ases[h.asn.toNat].key ts beta h) by unfold verHop;rw [h1,h2,asAt_at hp1 hp2];rfl);obtain⟨b,off,rfl,hc⟩:=ASd.at (ha.ext hx0) h.asn.toNat hp2;have hp3:h.asn<t.ases.length:=by omega
 refine Al (by kernel_rfl) (by kernel_rfl) ?_;have q0:=Br hc1;have q2:=Bv hc2;have q7:=ExtW.c3 hc
 repeat (first | go_big_quiet_step (((first | (go_at_call 192;exact Ai (i_ValidHop h _)) | (go_at_call 157;exact Ai (i_isAS t _ _ h.asn _ ((ha.ext hx0).ext (ExtW.h _)))) | (go_at_call 193;exact Ai (i_HopMAC _ _ _ h _))))) | quiet_step (((first | (go_at_call 192;exact Ai (i_ValidHop h _)) | (go_at_call 157;exact Ai (i_isAS t _ _ h.asn _ ((ha.ext hx0).ext (ExtW.h _)))) | (go_at_call 193;exact Ai (i_HopMAC _ _ _ h _))))))
 refine wpQuiet_nil ?_;intro w9 hw9;have h9:=ExtW.out hw9;clear hw9 q0 q2 q7;clear hc1 hc2
 go_wp2_with fail
 go_ret
 exact⟨Ah HE.out.symm,hx0.trans h9⟩
theorem s_VerifyHop (t:Topo) (v1 v2:Value) (ts beta:Int) (h:Hop) (w:World) (ha:RdS ASd.rep w v1 t.ases) :
  Calls Tryz.prog 186 #[.agg #[v1,v2],.int .i64 ts,.int .i64 beta,.agg #[.int .i64 h.asn,.int .i64 h.ing,.int .i64 h.eg,.int .i64 h.exp,.int .i64 h.mac]] w fun e w'=>e=.returned (.bool (verHop t ts beta h))∧Ext w w':=by
 obtain⟨o,cap,rfl,hsm⟩:=ha.shape;obtain⟨hx0,HB⟩:=ea2 w (.cells #[.slice o t.ases.length cap,v2] 27) (.cells #[.int .i64 h.asn,.int .i64 h.ing,.int .i64 h.eg,.int .i64 h.exp,.int .i64 h.mac] 103);replace HB:=Ac HB
 go_enter Tryz.func186,Tryz.ntmps186
 go_wp2
 have hc1:=blk2 HB.out.1;have hc2:=blk5 HB.out.2
 cases h1:validHop h
 ·
  have HE:=Ac (show verHop t ts beta h=false by unfold verHop;rw [h1];rfl);refine Al (by kernel_rfl) (by kernel_rfl) ?_;have q0:=Br hc1;have q2:=Bv hc2
  repeat (first | go_big_quiet_step (((first | (go_at_call 200;exact Ai (s_ValidHop h _))))) | quiet_step (((first | (go_at_call 200;exact Ai (s_ValidHop h _))))))
  refine wpQuiet_nil ?_;intro w9 hw9;have h9:=ExtW.out hw9;clear hw9 q0 q2;clear hc1 hc2
  go_wp2_with fail
  go_ret
  exact⟨Ah HE.out.symm,hx0.trans h9⟩
 cases h2:isAs t h.asn
 ·
  have HE:=Ac (show verHop t ts beta h=false by unfold verHop;rw [h1,h2];rfl);refine Al (by kernel_rfl) (by kernel_rfl) ?_;have q0:=Br hc1;have q2:=Bv hc2
  repeat (first | go_big_quiet_step (((first | (go_at_call 200;exact Ai (s_ValidHop h _)) | (go_at_call 118;exact Ai (s_l5Realm t _ _ h.asn _ ((ha.ext hx0).ext (ExtW.h _))))))) | quiet_step (((first | (go_at_call 200;exact Ai (s_ValidHop h _)) | (go_at_call 118;exact Ai (s_l5Realm t _ _ h.asn _ ((ha.ext hx0).ext (ExtW.h _))))))))
  refine wpQuiet_nil ?_;intro w9 hw9;have h9:=ExtW.out hw9;clear hw9 q0 q2;clear hc1 hc2
  go_wp2_with fail
  go_ret
  exact⟨Ah HE.out.symm,hx0.trans h9⟩
 obtain⟨hp1,hp2⟩:=isAs_lt h2;have HE:=Ac (show verHop t ts beta h=(h.mac == hopMac t.ases[h.asn.toNat].key ts beta h) by unfold verHop;rw [h1,h2,asAt_at hp1 hp2];rfl);obtain⟨b,off,rfl,hc⟩:=ASd.at (ha.ext hx0) h.asn.toNat hp2;have hp3:h.asn<t.ases.length:=by omega
 refine Al (by kernel_rfl) (by kernel_rfl) ?_;have q0:=Br hc1;have q2:=Bv hc2;have q7:=ExtW.c3 hc
 repeat (first | go_big_quiet_step (((first | (go_at_call 200;exact Ai (s_ValidHop h _)) | (go_at_call 118;exact Ai (s_l5Realm t _ _ h.asn _ ((ha.ext hx0).ext (ExtW.h _)))) | (go_at_call 173;exact Ai (s_HopMAC _ _ _ h _))))) | quiet_step (((first | (go_at_call 200;exact Ai (s_ValidHop h _)) | (go_at_call 118;exact Ai (s_l5Realm t _ _ h.asn _ ((ha.ext hx0).ext (ExtW.h _)))) | (go_at_call 173;exact Ai (s_HopMAC _ _ _ h _))))))
 refine wpQuiet_nil ?_;intro w9 hw9;have h9:=ExtW.out hw9;clear hw9 q0 q2 q7;clear hc1 hc2
 go_wp2_with fail
 go_ret
 exact⟨Ah HE.out.symm,hx0.trans h9⟩
theorem s_ChainAdd (b:Int) (l:List Int) (v:Value) (w:World) (hv:RdS Rep.int w v l) :
  Calls Tryz.prog 174 #[.int .i64 b,v] w fun e w'=>e=.returned (.int .i64 (chainAdd b l))∧w=w':=by
 obtain⟨o,cap,rfl,hsm⟩:=hv.shape
 go_enter Tryz.func174,Tryz.ntmps174
 go_wp2
 go_loopg [0,5] l.length (fun gk bb i wr=>∃ (k:Nat),gk+k=l.length∧i=.int .i64 k∧bb=.int .i64 (chainAdd b (l.take k))∧w=wr)
 case atStart=>exact⟨0,rfl,rfl,rfl,rfl⟩
 case round=>
  obtain⟨k,hgk,rfl,rfl,rfl⟩:=hrel
  by_cases hlt:k<l.length
  ·
   obtain⟨b1,off,rfl,hcell⟩:=ints_at hv k hlt;have hg0:gk - 1+(k+1)=l.length∧gk - 1<gk:=by omega
   have HG:=Ac hg0;clear hg0 hgk;have HN:=Ac (chainAdd_snoc (b:=b) hlt)
   go_wp2_with fail
   refine(s_AddMod _ _ _).mono ?_;rintro e w1 ⟨rfl,rfl⟩
   go_wp2_with fail
   go_roundg (gk - 1)
   case measure=>exact HG.out.2
   case rel=>exact⟨k+1,HG.out.1,by go_num,by rw [HN.out],rfl⟩
  have HE:=Ac (show chainAdd b (l.take k)=chainAdd b l by rw [List.take_of_length_le (by omega)])
  go_wp2_with fail
  go_ret
  exact⟨ret_int HE.out,rfl⟩
theorem l_sameInts (a:List Int) (va:Value) (b:List Int) (vb:Value) (w:World) (ha:RdS Rep.int w va a) (hb:RdS Rep.int w vb b) :
  Calls Tryz.prog 18 #[va,vb] w fun e w'=>e=.returned (.bool (decide (a=b)))∧Ext w w':=by
 obtain⟨oa,ca,rfl,hsa⟩:=ha.shape;obtain⟨ob,cb,rfl,hsb⟩:=hb.shape
 by_cases hne:a.length=b.length
 ·
  have Hne:=Ac hne;have t1:((a.length:Int) != (b.length:Int))=false:=by simp [hne]
  clear hne
  go_enter Tryz.func18,Tryz.ntmps18
  go_wp2
  go_loopg [5] a.length (fun gk i wr=>∃ (k:Nat),gk+k=a.length∧i=.int .i64 k∧Hid (a.take k=b.take k)∧Ext w wr)
  case atStart=>exact⟨0,rfl,rfl,Ac rfl,Ab _⟩
  case round=>
   obtain⟨k,hgk,rfl,Htk,hx⟩:=hrel
   by_cases hlt:k<a.length
   ·
    have hlb:k<b.length:=by rw [← Hne.out];exact hlt
    have hg0:gk - 1+(k+1)=a.length∧gk - 1<gk:=by omega
    have HG:=Ac hg0;clear hg0 hgk;obtain⟨b1,off1,rfl,hc1⟩:=ints_at (ha.ext hx) k hlt;obtain⟨b2,off2,rfl,hc2⟩:=ints_at (hb.ext hx) k hlb
    go_wp2_with fail
    refine Al (by kernel_rfl) (by kernel_rfl) ?_;have q0:=Bd hc1;have q1:=Bd hc2
    repeat (first | go_big_quiet_step (fail) | quiet_step (fail))
    refine wpQuiet_nil ?_;intro w1 hw1;have hz1:=ExtW.out hw1;clear hw1 q0 q1
    by_cases he:a[k]=b[k]
    ·
     have he2:(a[k] != b[k])=false:=by simp [he]
     have HT:=Ac (take_snoc2 Htk.out hlt hlb he);clear he
     go_wp2_with fail
     go_roundg (gk - 1)
     case measure=>exact HG.out.2
     case rel=>exact⟨k+1,HG.out.1,by go_num,HT,hx.trans hz1⟩
    have he2:(a[k] != b[k])=true:=by simp [he]
    have HF:Hid (decide (a=b)=false):=Ac (decide_eq_false (by rintro rfl;exact he rfl));clear he
    go_wp2_with fail
    go_ret
    exact⟨Ah HF.out.symm,hx.trans hz1⟩
   have hab:decide (a=b)=true:=by
    have:=Htk.out;rw [List.take_of_length_le (by omega),List.take_of_length_le (by rw [← Hne.out];omega)] at this
    simp [this]
   have Hab:=Ac hab;clear hab
   go_wp2_with fail
   go_ret
   exact⟨Ah Hab.out.symm,hx⟩
 have t1:((a.length:Int) != (b.length:Int))=true:=by simp [bne_iff_ne];omega
 have hab:decide (a=b)=false:=by
  rw [decide_eq_false_iff_not];rintro rfl;exact hne rfl
 have Hab:=Ac hab;clear hab;clear hne
 go_enter Tryz.func18,Tryz.ntmps18
 go_wp2
 go_ret
 exact⟨Ah Hab.out.symm,Ab _⟩
theorem remEnd_no {t:Topo} {r d:Int} (h:linkIdx t.links r d<0):remEnd t r d=(-1,0):=if_pos h
theorem remEnd_at {t:Topo} {r d:Int} (h:¬ linkIdx t.links r d<0) (hl:(linkIdx t.links r d).toNat<t.links.length) :
  remEnd t r d=if (t.links[(linkIdx t.links r d).toNat].a == r) && (t.links[(linkIdx t.links r d).toNat].ai == d) then (t.links[(linkIdx t.links r d).toNat].b,t.links[(linkIdx t.links r d).toNat].bi) else (t.links[(linkIdx t.links r d).toNat].a,t.links[(linkIdx t.links r d).toNat].ai):=by
 unfold remEnd;rw [if_neg h,List.getElem?_eq_getElem hl]
theorem ret_pair {a b:Int} {x:Int×Int} (h:x=(a,b)):Ending.returned (.tuple #[.int .i64 a,.int .i64 b])=.returned (.tuple #[.int .i64 x.1,.int .i64 x.2]):=by rw [h]
theorem i_RemoteEnd (t:Topo) (v1 v2:Value) (r d:Int) (w:World) (hk:RdS Lnk.rep w v2 t.links) :
  Calls Tryz.prog 43 #[.agg #[v1,v2],.int .i64 r,.int .i64 d] w fun e w'=>e=.returned (.tuple #[.int .i64 (remEnd t r d).1,.int .i64 (remEnd t r d).2])∧Ext w w':=by
 obtain⟨o,cap,rfl,hsm⟩:=hk.shape;obtain⟨hx0,HB0⟩:=ea1 w (.cells #[v1,.slice o t.links.length cap] 27);replace HB0:=Ac HB0
 go_enter Tryz.func43,Tryz.ntmps43
 have cf1:=blk2 HB0.out
 go_wp2_with fail
 refine(i_LinkIndex t _ _ r d _ (hk.ext hx0)).mono ?_;rintro e w1 ⟨rfl,hz1⟩;have hil:=linkIdx_lt t.links r d
 by_cases hn:linkIdx t.links r d<0
 ·
  have HE:=Ac (remEnd_no hn)
  try clear cf1
  have cf2:=blk2 (Aa hz1 HB0.out)
  go_wp2_with fail
  go_ret2
  exact⟨ret_pair HE.out,(hx0.t hz1)⟩
 have hin:(linkIdx t.links r d).toNat<t.links.length:=by omega
 have HE:=Ac (remEnd_at hn hin);have hn0:0≤linkIdx t.links r d:=by omega
 obtain⟨b,off,rfl,hc⟩:=Lnk.at (hk.ext (hx0.t hz1)) _ hin;generalize linkIdx t.links r d=i at *;generalize t.links[i.toNat]=x at *
 try clear cf1
 have cf3:=blk2 (Aa hz1 HB0.out);obtain⟨hx1,HB1⟩:=ea1 w1 (.cells #[.int .i64 x.a,.int .i64 x.ai,.int .i64 x.b,.int .i64 x.bi,.int .i64 x.kind] 127);replace HB1:=Ac HB1
 cases b1:(x.a == r) <;> cases b2:(x.ai == d)
 all_goals
  go_wp2_with fail
  have cl:=blk5 HB1.out;refine Al (by kernel_rfl) (by kernel_rfl) ?_;have q0:=Bv cl
  repeat (first | go_big_quiet_step (fail) | quiet_step (fail))
  refine wpQuiet_nil ?_;intro w9 hw9;have h9:=ExtW.out hw9;clear hw9 q0 cl
  go_wp2_with fail
  go_ret2
  exact⟨ret_pair (by rw [HE.out,b1,b2];rfl),((hx0.t hz1).t hx1).trans h9⟩
theorem s_RemoteEnd (t:Topo) (v1 v2:Value) (r d:Int) (w:World) (hk:RdS Lnk.rep w v2 t.links) :
  Calls Tryz.prog 50 #[.agg #[v1,v2],.int .i64 r,.int .i64 d] w fun e w'=>e=.returned (.tuple #[.int .i64 (remEnd t r d).1,.int .i64 (remEnd t r d).2])∧Ext w w':=by
 obtain⟨o,cap,rfl,hsm⟩:=hk.shape;obtain⟨hx0,HB0⟩:=ea1 w (.cells #[v1,.slice o t.links.length cap] 27);replace HB0:=Ac HB0
 go_enter Tryz.func50,Tryz.ntmps50
 have cf1:=blk2 HB0.out
 go_wp2_with fail
 refine(s_LinkIndex t _ _ r d _ (hk.ext hx0)).mono ?_;rintro e w1 ⟨rfl,hz1⟩;have hil:=linkIdx_lt t.links r d
 by_cases hn:linkIdx t.links r d<0
 ·
  have HE:=Ac (remEnd_no hn)
  try clear cf1
  have cf2:=blk2 (Aa hz1 HB0.out)
  go_wp2_with fail
  go_ret2
  exact⟨ret_pair HE.out,(hx0.t hz1)⟩
 have hin:(linkIdx t.links r d).toNat<t.links.length:=by omega
 have HE:=Ac (remEnd_at hn hin);have hn0:0≤linkIdx t.links r d:=by omega
 obtain⟨b,off,rfl,hc⟩:=Lnk.at (hk.ext (hx0.t hz1)) _ hin;generalize linkIdx t.links r d=i at *;generalize t.links[i.toNat]=x at *
 try clear cf1
 have cf3:=blk2 (Aa hz1 HB0.out);obtain⟨hx1,HB1⟩:=ea1 w1 (.cells #[.int .i64 x.a,.int .i64 x.ai,.int .i64 x.b,.int .i64 x.bi,.int .i64 x.kind] 127);replace HB1:=Ac HB1
 cases b1:(x.a == r) <;> cases b2:(x.ai == d)
 all_goals
  go_wp2_with fail
  have cl:=blk5 HB1.out;refine Al (by kernel_rfl) (by kernel_rfl) ?_;have q0:=Bv cl
  repeat (first | go_big_quiet_step (fail) | quiet_step (fail))
  refine wpQuiet_nil ?_;intro w9 hw9;have h9:=ExtW.out hw9;clear hw9 q0 cl
  go_wp2_with fail
  go_ret2
  exact⟨ret_pair (by rw [HE.out,b1,b2];rfl),((hx0.t hz1).t hx1).trans h9⟩
theorem i_hopsOk (t:Topo) (v1 v2:Value) (l:List Hop) (v:Value) (w:World) (ha:RdS ASd.rep w v1 t.ases) (hv:RdS Hop.rep w v l) :
  Calls Tryz.prog 189 #[.agg #[v1,v2],v] w fun e w'=>e=.returned (.bool (hopsOk t l))∧Ext w w':=by
 obtain⟨o,cap,rfl,hsm⟩:=hv.shape;have hcap:=hv.capLe;obtain⟨hx0,HB0⟩:=ea1 w (.cells #[v1,v2] 27);replace HB0:=Ac HB0
 go_enter Tryz.func189,Tryz.ntmps189
 have cf1:=blk2 HB0.out
 go_wp2_with fail
 refine(i_InRange _ _ _ _).mono ?_;rintro e _ ⟨rfl,rfl⟩
 cases hr:inR (l.length:Int) 1 8
 ·
  have HE:=Ac (show hopsOk t l=false by unfold hopsOk;rw [hr];rfl)
  go_wp2_with fail
  go_ret
  exact⟨Ah HE.out.symm,hx0⟩
 have HL:=Ac (show hopsOk t l=allTo (hopFresh t l) l.length by unfold hopsOk;rw [hr];rfl);clear hr
 go_wp2_with fail
 go_loopg [15] l.length (fun gk i wr=>∃ k:Nat,gk+k=l.length∧i=.int .i64 k∧Hid (allTo (hopFresh t l) k=true)∧Ext (w.alloc (.cells #[v1,v2] 27)) wr)
 case atStart=>exact⟨0,rfl,rfl,Ac rfl,Ab _⟩
 case round=>
  obtain⟨k,hgk,rfl,HK,hx⟩:=hrel
  by_cases hlt:k<l.length
  ·
   have HG:=Ac (show gk - 1+(k+1)=l.length∧gk - 1<gk by omega);clear hgk;have HAT:=Ac (Bz hlt);obtain⟨b,off,rfl,hc⟩:=Ca (hv.ext (hx0.t hx)) k hlt
   try clear cf1
   have cf2:=blk2 (Aa hx HB0.out);generalize hlk:l[k]=h at *;have HLK:=Ac hlk;clear hlk;obtain⟨hx1,HB1⟩:=ea1 wr (.cells #[.int .i64 h.asn,.int .i64 h.ing,.int .i64 h.eg,.int .i64 h.exp,.int .i64 h.mac] 103);replace HB1:=Ac HB1
   go_wp2_with fail
   refine(i_ValidHop h _).mono ?_;rintro e w2 ⟨rfl,hz2⟩
   cases b1:validHop h
   ·
    have HE:=Ac (HL.out.trans (allTo_no hlt (show hopFresh t l k=false by unfold hopFresh;rw [HAT.out];rw [b1];rfl)));have cf3:=blk2 (Aa ((hx.t hx1).t hz2) HB0.out);have cf4:=blk5 (Aa hz2 HB1.out)
    go_wp2_with fail
    go_ret
    exact⟨Ah HE.out.symm,(((hx0.t hx).t hx1).t hz2)⟩
   have cf5:=blk2 (Aa ((hx.t hx1).t hz2) HB0.out);have cf6:=blk5 (Aa hz2 HB1.out)
   go_wp2_with fail
   refine(i_isAS t _ _ h.asn _ (ha.ext (((hx0.t hx).t hx1).t hz2))).mono ?_;rintro e w3 ⟨rfl,hz3⟩
   cases b2:isAs t h.asn
   ·
    have HE:=Ac (HL.out.trans (allTo_no hlt (show hopFresh t l k=false by unfold hopFresh;rw [HAT.out];rw [b1,b2];rfl)))
    try clear cf5
    try clear cf6
    have cf7:=blk2 (Aa (((hx.t hx1).t hz2).t hz3) HB0.out);have cf8:=blk5 (Aa (hz2.t hz3) HB1.out)
    go_wp2_with fail
    go_ret
    exact⟨Ah HE.out.symm,((((hx0.t hx).t hx1).t hz2).t hz3)⟩
   try clear cf5
   try clear cf6
   have cf9:=blk2 (Aa (((hx.t hx1).t hz2).t hz3) HB0.out);have cf10:=blk5 (Aa (hz2.t hz3) HB1.out)
   go_wp2_with fail
   obtain⟨go,hgo⟩:∃ go:Nat,go=gk:=⟨_,rfl⟩
   subst hgo
   obtain⟨wo,hwo⟩:∃ wo:World,wo=wr:=⟨_,rfl⟩
   subst hwo;have hkc:k≤cap:=by omega
   go_loopg [34] k (fun gk j ws=>∃ m:Nat,gk+m=k∧j=.int .i64 m∧Hid (hasI ((l.map (·.asn)).take m) h.asn=false)∧Ext w3 ws)
   case atStart=>exact⟨0,rfl,rfl,Ac rfl,Ab _⟩
   case round=>
    obtain⟨m,hgm,rfl,HM,hy⟩:=hrel
    by_cases hmk:m<k
    ·
     have hml:m<l.length:=by omega
     have HG2:=Ac (show gk - 1+(m+1)=k∧gk - 1<gk by omega);clear hgm;obtain⟨b2,off2,he2,hd⟩:=Ca (hv.ext (((((hx0.t hx).t hx1).t hz2).t hz3).trans hy)) m hml
     cases he2
     have HS:=Ac (any_snoc (fun x=>x == h.asn) (l:=l.map (·.asn)) (k:=m) (by simpa using hml))
     try clear cf9
     try clear cf10
     have cf11:=blk2 (Aa ((((hx.t hx1).t hz2).t hz3).trans hy) HB0.out);have cf12:=blk5 (Aa ((hz2.t hz3).trans hy) HB1.out);have cy:=blk5 (Aa (((hz2.t hz3).trans hy).trans ((Ab wr).alloc (.cells #[.int .i64 l[m].asn,.int .i64 l[m].ing,.int .i64 l[m].eg,.int .i64 l[m].exp,.int .i64 l[m].mac] 103))) HB1.out)
     cases b3:(l[m].asn == h.asn)
     ·
      have HM2:=Ac (show hasI ((l.map (·.asn)).take (m+1)) h.asn=false by unfold hasI at HM ⊢;rw [HS.out,HM.out];simpa using b3)
      go_wp2_with fail
      go_roundg (gk - 1)
      case measure=>exact HG2.out.2
      case rel=>exact⟨m+1,HG2.out.1,by go_num,HM2,hy.alloc _⟩
     have HE:=Ac (HL.out.trans (allTo_no hlt (show hopFresh t l k=false by unfold hopFresh;rw [HAT.out,b1,b2];simp only [Bool.true_and,Bool.not_eq_false'];exact List.any_eq_true.2 ⟨l[m].asn,List.mem_take_iff_getElem.2 ⟨m,by simp;omega,by simp⟩,b3⟩)))
     go_wp2_with fail
     go_ret
     exact⟨Ah HE.out.symm,(((((hx0.t hx).t hx1).t hz2).t hz3).trans hy).alloc _⟩
    obtain rfl:m=k:=by omega
    have HK2:=Ac (Ch HK.out (show hopFresh t l m=true by unfold hopFresh;rw [HAT.out,b1,b2,HM.out];rfl))
    go_wp2
    go_roundg (go - 1)
    case measure=>exact HG.out.2
    case rel=>exact⟨m+1,HG.out.1,by go_num,HK2,((((hx.t hx1).t hz2).t hz3).trans hy)⟩
  obtain rfl:k=l.length:=by omega
  have HE:=Ac (HL.out.trans HK.out)
  try clear cf1
  have cf13:=blk2 (Aa hx HB0.out)
  go_wp2_with fail
  go_ret
  exact⟨Ah HE.out.symm,(hx0.t hx)⟩
theorem ifKind_at {t:Topo} {r d:Int} (hd:(d == 0)=false) (h:¬ linkIdx t.links r d<0) (hl:(linkIdx t.links r d).toNat<t.links.length) :
  ifKind t r d=(if t.links[(linkIdx t.links r d).toNat].kind == 1 then 1 else if t.links[(linkIdx t.links r d).toNat].kind == 3 then 4 else if t.links[(linkIdx t.links r d).toNat].kind == 2 then (if (t.links[(linkIdx t.links r d).toNat].a == r) && (t.links[(linkIdx t.links r d).toNat].ai == d) then 2 else 3) else 0):=by
 unfold ifKind;rw [hd,if_neg (by decide),if_neg h,List.getElem?_eq_getElem hl]
theorem and1 (m:Int) (h0:0≤m) (h1:m<9223372036854775808):bits .and .i64 m 1=m % 2:=by
 obtain⟨k,rfl⟩:=Int.eq_ofNat_of_zero_le h0;have:=and_nat k 1 (by omega) (by omega);have h2:k &&& 1=k % 2:=Nat.and_two_pow_sub_one_eq_mod k 1;rw [h2] at this;have e:((1:Nat):Int)=1:=rfl;rw [e] at this;rw [this];omega
theorem i_InterfaceKind (t:Topo) (v1 v2:Value) (r d:Int) (w:World) (hk:RdS Lnk.rep w v2 t.links) :
  Calls Tryz.prog 163 #[.agg #[v1,v2],.int .i64 r,.int .i64 d] w fun e w'=>e=.returned (.int .i64 (ifKind t r d))∧Ext w w':=by
 obtain⟨o,cap,rfl,hsm⟩:=hk.shape;obtain⟨hx0,HB0⟩:=ea1 w (.cells #[v1,.slice o t.links.length cap] 27);replace HB0:=Ac HB0
 go_enter Tryz.func163,Tryz.ntmps163
 cases b0:(d == 0)
 ·
  have cf1:=blk2 HB0.out
  go_wp2_with fail
  refine(i_LinkIndex t _ _ r d _ (hk.ext hx0)).mono ?_;rintro e w1 ⟨rfl,hz1⟩;have hil:=linkIdx_lt t.links r d
  by_cases hn:linkIdx t.links r d<0
  ·
   have HE:=Ac (show ifKind t r d=0 by unfold ifKind;rw [b0,if_neg (by decide),if_pos hn])
   try clear cf1
   have cf2:=blk2 (Aa hz1 HB0.out)
   go_wp2_with fail
   go_ret
   exact⟨ret_int HE.out.symm,(hx0.t hz1)⟩
  have hin:(linkIdx t.links r d).toNat<t.links.length:=by omega
  have HE:=Ac (ifKind_at b0 hn hin);have hn0:0≤linkIdx t.links r d:=by omega
  obtain⟨b,off,rfl,hc⟩:=Lnk.at (hk.ext (hx0.t hz1)) _ hin;generalize linkIdx t.links r d=i at *;generalize t.links[i.toNat]=x at *
  try clear cf1
  have cf3:=blk2 (Aa hz1 HB0.out);have hxl:=(hx0.t hz1).alloc (.cells #[.int .i64 x.a,.int .i64 x.ai,.int .i64 x.b,.int .i64 x.bi,.int .i64 x.kind] 127)
  cases b1:(x.kind == 1) <;> cases b2:(x.kind == 3) <;> cases b3:(x.kind == 2) <;> cases b4:(x.a == r) <;> cases b5:(x.ai == d)
  all_goals
   have b3':(x.kind != 2)=!(x.kind == 2):=rfl;rw [b3] at b3'
   first | replace b3':(x.kind != 2)=true:=b3' | replace b3':(x.kind != 2)=false:=b3'
   go_wp2_with fail
   go_ret
   exact⟨ret_int (by rw [HE.out,b1,b2,b3,b4,b5];rfl),hxl⟩
 have HE:=Ac (show ifKind t r d=5 by unfold ifKind;rw [b0];rfl);have cf4:=blk2 HB0.out
 go_wp2_with fail
 go_ret
 exact⟨ret_int HE.out.symm,hx0⟩
theorem s_InterfaceKind (t:Topo) (v1 v2:Value) (r d:Int) (w:World) (hk:RdS Lnk.rep w v2 t.links) :
  Calls Tryz.prog 155 #[.agg #[v1,v2],.int .i64 r,.int .i64 d] w fun e w'=>e=.returned (.int .i64 (ifKind t r d))∧Ext w w':=by
 obtain⟨o,cap,rfl,hsm⟩:=hk.shape;obtain⟨hx0,HB0⟩:=ea1 w (.cells #[v1,.slice o t.links.length cap] 27);replace HB0:=Ac HB0
 go_enter Tryz.func155,Tryz.ntmps155
 cases b0:(d == 0)
 ·
  have cf1:=blk2 HB0.out
  go_wp2_with fail
  refine(s_LinkIndex t _ _ r d _ (hk.ext hx0)).mono ?_;rintro e w1 ⟨rfl,hz1⟩;have hil:=linkIdx_lt t.links r d
  by_cases hn:linkIdx t.links r d<0
  ·
   have HE:=Ac (show ifKind t r d=0 by unfold ifKind;rw [b0,if_neg (by decide),if_pos hn])
   try clear cf1
   have cf2:=blk2 (Aa hz1 HB0.out)
   go_wp2_with fail
   go_ret
   exact⟨ret_int HE.out.symm,(hx0.t hz1)⟩
  have hin:(linkIdx t.links r d).toNat<t.links.length:=by omega
  have HE:=Ac (ifKind_at b0 hn hin);have hn0:0≤linkIdx t.links r d:=by omega
  obtain⟨b,off,rfl,hc⟩:=Lnk.at (hk.ext (hx0.t hz1)) _ hin;generalize linkIdx t.links r d=i at *;generalize t.links[i.toNat]=x at *
  try clear cf1
  have cf3:=blk2 (Aa hz1 HB0.out);have hxl:=(hx0.t hz1).alloc (.cells #[.int .i64 x.a,.int .i64 x.ai,.int .i64 x.b,.int .i64 x.bi,.int .i64 x.kind] 127)
  cases b1:(x.kind == 1) <;> cases b2:(x.kind == 3) <;> cases b3:(x.kind == 2) <;> cases b4:(x.a == r) <;> cases b5:(x.ai == d)
  all_goals
   have b3':(x.kind != 2)=!(x.kind == 2):=rfl;rw [b3] at b3'
   first | replace b3':(x.kind != 2)=true:=b3' | replace b3':(x.kind != 2)=false:=b3'
   go_wp2_with fail
   go_ret
   exact⟨ret_int (by rw [HE.out,b1,b2,b3,b4,b5];rfl),hxl⟩
 have HE:=Ac (show ifKind t r d=5 by unfold ifKind;rw [b0];rfl);have cf4:=blk2 HB0.out
 go_wp2_with fail
 go_ret
 exact⟨ret_int HE.out.symm,hx0⟩
theorem i_TransitAllowed (a b:Int) (w:World) :
  Calls Tryz.prog 162 #[.int .i64 a,.int .i64 b] w fun e w'=>e=.returned (.bool (transitOk a b))∧w=w':=by
 cases b2:(b == 2) <;> cases b4:(b == 5)
 all_goals
  have hb:=Ac b2;have hb4:=Ac b4
  cases a1:(a == 5) <;> cases a2:(a == 2)
  ·
   cases a3:(a == 3)
   ·
    cases a4:(a == 1)
    ·
     go_enter Tryz.func162,Tryz.ntmps162
     go_wp2
     go_ret
     exact⟨Ah (by unfold transitOk;rw [a1,a2,a3,a4];rfl),rfl⟩
    cases b1:(b == 1)
    all_goals
     go_enter Tryz.func162,Tryz.ntmps162
     go_wp2
     go_ret
     exact⟨Ah (by unfold transitOk;rw [a1,a2,a3,a4,b1,hb.out,hb4.out];rfl),rfl⟩
   go_enter Tryz.func162,Tryz.ntmps162
   go_wp2
   go_ret
   exact⟨Ah (by unfold transitOk;rw [a1,a2,a3,hb.out,hb4.out];rfl),rfl⟩
  all_goals
   cases b1:(b == 1) <;> cases b3:(b == 3)
   all_goals
    go_enter Tryz.func162,Tryz.ntmps162
    go_wp2
    go_ret
    exact⟨Ah (by unfold transitOk;rw [a1,a2,b1,hb.out,b3,hb4.out];rfl),rfl⟩
theorem s_TransitAllowed (a b:Int) (w:World) :
  Calls Tryz.prog 154 #[.int .i64 a,.int .i64 b] w fun e w'=>e=.returned (.bool (transitOk a b))∧w=w':=by
 cases b2:(b == 2) <;> cases b4:(b == 5)
 all_goals
  have hb:=Ac b2;have hb4:=Ac b4
  cases a1:(a == 5) <;> cases a2:(a == 2)
  ·
   cases a3:(a == 3)
   ·
    cases a4:(a == 1)
    ·
     go_enter Tryz.func154,Tryz.ntmps154
     go_wp2
     go_ret
     exact⟨Ah (by unfold transitOk;rw [a1,a2,a3,a4];rfl),rfl⟩
    cases b1:(b == 1)
    all_goals
     go_enter Tryz.func154,Tryz.ntmps154
     go_wp2
     go_ret
     exact⟨Ah (by unfold transitOk;rw [a1,a2,a3,a4,b1,hb.out,hb4.out];rfl),rfl⟩
   go_enter Tryz.func154,Tryz.ntmps154
   go_wp2
   go_ret
   exact⟨Ah (by unfold transitOk;rw [a1,a2,a3,hb.out,hb4.out];rfl),rfl⟩
  all_goals
   cases b1:(b == 1) <;> cases b3:(b == 3)
   all_goals
    go_enter Tryz.func154,Tryz.ntmps154
    go_wp2
    go_ret
    exact⟨Ah (by unfold transitOk;rw [a1,a2,b1,hb.out,b3,hb4.out];rfl),rfl⟩
theorem i_StepAllowed (t:Topo) (v1 v2:Value) (s:Step) (w:World) (hk:RdS Lnk.rep w v2 t.links) :
  Calls Tryz.prog 123 #[.agg #[v1,v2],.agg #[.int .i64 s.asn,.int .i64 s.ing,.int .i64 s.eg]] w fun e w'=>e=.returned (.bool (stepOk t s))∧Ext w w':=by
 obtain⟨hx0,HB0⟩:=ea2 w (.cells #[v1,v2] 27) (.cells #[.int .i64 s.asn,.int .i64 s.ing,.int .i64 s.eg] 79);replace HB0:=Ac HB0
 go_enter Tryz.func123,Tryz.ntmps123
 cases b1:(s.ing == s.eg)
 ·
  have b1':(s.ing != s.eg)=true:=by simp only [bne,b1];rfl
  have HE:=Ac (show stepOk t s=transitOk (ifKind t s.asn s.ing) (ifKind t s.asn s.eg) by unfold stepOk;rw [b1'];simp)
  cases b2:transitOk (ifKind t s.asn s.ing) (ifKind t s.asn s.eg)
  ·
   rw [b2] at HE;have cf1:=blk2 HB0.out.1;have cf2:=blk3 HB0.out.2
   go_wp2_with fail
   refine Al (by kernel_rfl) (by kernel_rfl) ?_;have q0:=Br cf1;have q2:=ExtW.c3 cf2
   repeat (first | go_big_quiet_step (((first | (go_at_call 163;exact Ai (i_InterfaceKind t _ _ _ _ _ ((hk.ext hx0).ext (ExtW.h _)))) | (go_at_call 162;exact Am (i_TransitAllowed _ _ _))))) | quiet_step (((first | (go_at_call 163;exact Ai (i_InterfaceKind t _ _ _ _ _ ((hk.ext hx0).ext (ExtW.h _)))) | (go_at_call 162;exact Am (i_TransitAllowed _ _ _))))))
   refine wpQuiet_nil ?_;intro w1 hw1;have hz1:=ExtW.out hw1;clear hw1 q0 q2
   try clear cf1
   try clear cf2
   have cf3:=blk2 (Aa hz1 HB0.out.1);have cf4:=blk3 (Aa hz1 HB0.out.2)
   go_wp2_with fail
   go_ret
   exact⟨Ah HE.out.symm,(hx0.t hz1)⟩
  rw [b2] at HE;have cf5:=blk2 HB0.out.1;have cf6:=blk3 HB0.out.2
  go_wp2_with fail
  refine Al (by kernel_rfl) (by kernel_rfl) ?_;have q0:=Br cf5;have q2:=ExtW.c3 cf6
  repeat (first | go_big_quiet_step (((first | (go_at_call 163;exact Ai (i_InterfaceKind t _ _ _ _ _ ((hk.ext hx0).ext (ExtW.h _)))) | (go_at_call 162;exact Am (i_TransitAllowed _ _ _))))) | quiet_step (((first | (go_at_call 163;exact Ai (i_InterfaceKind t _ _ _ _ _ ((hk.ext hx0).ext (ExtW.h _)))) | (go_at_call 162;exact Am (i_TransitAllowed _ _ _))))))
  refine wpQuiet_nil ?_;intro w2 hw2;have hz2:=ExtW.out hw2;clear hw2 q0 q2
  try clear cf5
  try clear cf6
  have cf7:=blk2 (Aa hz2 HB0.out.1);have cf8:=blk3 (Aa hz2 HB0.out.2)
  go_wp2_with fail
  go_ret
  exact⟨Ah HE.out.symm,(hx0.t hz2)⟩
 have b1':(s.ing != s.eg)=false:=by simp only [bne,b1];rfl
 cases b3:(s.ing == 0)
 ·
  have b3':(s.ing != 0)=true:=by simp only [bne,b3];rfl
  have HE:=Ac (show stepOk t s=false by unfold stepOk;rw [b1',b3];simp)
  cases b2:transitOk (ifKind t s.asn s.ing) (ifKind t s.asn s.eg)
  ·
   have cf9:=blk2 HB0.out.1;have cf10:=blk3 HB0.out.2
   go_wp2_with fail
   refine Al (by kernel_rfl) (by kernel_rfl) ?_;have q0:=Br cf9;have q2:=ExtW.c3 cf10
   repeat (first | go_big_quiet_step (((first | (go_at_call 163;exact Ai (i_InterfaceKind t _ _ _ _ _ ((hk.ext hx0).ext (ExtW.h _)))) | (go_at_call 162;exact Am (i_TransitAllowed _ _ _))))) | quiet_step (((first | (go_at_call 163;exact Ai (i_InterfaceKind t _ _ _ _ _ ((hk.ext hx0).ext (ExtW.h _)))) | (go_at_call 162;exact Am (i_TransitAllowed _ _ _))))))
   refine wpQuiet_nil ?_;intro w3 hw3;have hz3:=ExtW.out hw3;clear hw3 q0 q2
   try clear cf9
   try clear cf10
   have cf11:=blk2 (Aa hz3 HB0.out.1);have cf12:=blk3 (Aa hz3 HB0.out.2)
   go_wp2_with fail
   go_ret
   exact⟨Ah HE.out.symm,(hx0.t hz3)⟩
  have cf13:=blk2 HB0.out.1;have cf14:=blk3 HB0.out.2
  go_wp2_with fail
  refine Al (by kernel_rfl) (by kernel_rfl) ?_;have q0:=Br cf13;have q2:=ExtW.c3 cf14
  repeat (first | go_big_quiet_step (((first | (go_at_call 163;exact Ai (i_InterfaceKind t _ _ _ _ _ ((hk.ext hx0).ext (ExtW.h _)))) | (go_at_call 162;exact Am (i_TransitAllowed _ _ _))))) | quiet_step (((first | (go_at_call 163;exact Ai (i_InterfaceKind t _ _ _ _ _ ((hk.ext hx0).ext (ExtW.h _)))) | (go_at_call 162;exact Am (i_TransitAllowed _ _ _))))))
  refine wpQuiet_nil ?_;intro w4 hw4;have hz4:=ExtW.out hw4;clear hw4 q0 q2
  try clear cf13
  try clear cf14
  have cf15:=blk2 (Aa hz4 HB0.out.1);have cf16:=blk3 (Aa hz4 HB0.out.2)
  go_wp2_with fail
  go_ret
  exact⟨Ah HE.out.symm,(hx0.t hz4)⟩
 have b3':(s.ing != 0)=false:=by simp only [bne,b3];rfl
 have HE:=Ac (show stepOk t s=transitOk (ifKind t s.asn s.ing) (ifKind t s.asn s.eg) by unfold stepOk;rw [b1',b3];simp)
 cases b2:transitOk (ifKind t s.asn s.ing) (ifKind t s.asn s.eg)
 ·
  rw [b2] at HE;have cf17:=blk2 HB0.out.1;have cf18:=blk3 HB0.out.2
  go_wp2_with fail
  refine Al (by kernel_rfl) (by kernel_rfl) ?_;have q0:=Br cf17;have q2:=ExtW.c3 cf18
  repeat (first | go_big_quiet_step (((first | (go_at_call 163;exact Ai (i_InterfaceKind t _ _ _ _ _ ((hk.ext hx0).ext (ExtW.h _)))) | (go_at_call 162;exact Am (i_TransitAllowed _ _ _))))) | quiet_step (((first | (go_at_call 163;exact Ai (i_InterfaceKind t _ _ _ _ _ ((hk.ext hx0).ext (ExtW.h _)))) | (go_at_call 162;exact Am (i_TransitAllowed _ _ _))))))
  refine wpQuiet_nil ?_;intro w5 hw5;have hz5:=ExtW.out hw5;clear hw5 q0 q2
  try clear cf17
  try clear cf18
  have cf19:=blk2 (Aa hz5 HB0.out.1);have cf20:=blk3 (Aa hz5 HB0.out.2)
  go_wp2_with fail
  go_ret
  exact⟨Ah HE.out.symm,(hx0.t hz5)⟩
 rw [b2] at HE;have cf21:=blk2 HB0.out.1;have cf22:=blk3 HB0.out.2
 go_wp2_with fail
 refine Al (by kernel_rfl) (by kernel_rfl) ?_;have q0:=Br cf21;have q2:=ExtW.c3 cf22
 repeat (first | go_big_quiet_step (((first | (go_at_call 163;exact Ai (i_InterfaceKind t _ _ _ _ _ ((hk.ext hx0).ext (ExtW.h _)))) | (go_at_call 162;exact Am (i_TransitAllowed _ _ _))))) | quiet_step (((first | (go_at_call 163;exact Ai (i_InterfaceKind t _ _ _ _ _ ((hk.ext hx0).ext (ExtW.h _)))) | (go_at_call 162;exact Am (i_TransitAllowed _ _ _))))))
 refine wpQuiet_nil ?_;intro w6 hw6;have hz6:=ExtW.out hw6;clear hw6 q0 q2
 try clear cf21
 try clear cf22
 have cf23:=blk2 (Aa hz6 HB0.out.1);have cf24:=blk3 (Aa hz6 HB0.out.2)
 go_wp2_with fail
 go_ret
 exact⟨Ah HE.out.symm,(hx0.t hz6)⟩
theorem s_StepAllowed (t:Topo) (v1 v2:Value) (s:Step) (w:World) (hk:RdS Lnk.rep w v2 t.links) :
  Calls Tryz.prog 105 #[.agg #[v1,v2],.agg #[.int .i64 s.asn,.int .i64 s.ing,.int .i64 s.eg]] w fun e w'=>e=.returned (.bool (stepOk t s))∧Ext w w':=by
 obtain⟨hx0,HB0⟩:=ea2 w (.cells #[v1,v2] 27) (.cells #[.int .i64 s.asn,.int .i64 s.ing,.int .i64 s.eg] 79);replace HB0:=Ac HB0
 go_enter Tryz.func105,Tryz.ntmps105
 cases b1:(s.ing == s.eg)
 ·
  have b1':(s.ing != s.eg)=true:=by simp only [bne,b1];rfl
  have HE:=Ac (show stepOk t s=transitOk (ifKind t s.asn s.ing) (ifKind t s.asn s.eg) by unfold stepOk;rw [b1'];simp);have cf1:=blk2 HB0.out.1;have cf2:=blk3 HB0.out.2
  go_wp2_with fail
  refine Al (by kernel_rfl) (by kernel_rfl) ?_;have q0:=Br cf1;have q2:=ExtW.c3 cf2
  repeat (first | go_big_quiet_step (((first | (go_at_call 155;exact Ai (s_InterfaceKind t _ _ _ _ _ ((hk.ext hx0).ext (ExtW.h _)))) | (go_at_call 154;exact Am (s_TransitAllowed _ _ _))))) | quiet_step (((first | (go_at_call 155;exact Ai (s_InterfaceKind t _ _ _ _ _ ((hk.ext hx0).ext (ExtW.h _)))) | (go_at_call 154;exact Am (s_TransitAllowed _ _ _))))))
  refine wpQuiet_nil ?_;intro w1 hw1;have hz1:=ExtW.out hw1;clear hw1 q0 q2
  try clear cf1
  try clear cf2
  have cf3:=blk2 (Aa hz1 HB0.out.1);have cf4:=blk3 (Aa hz1 HB0.out.2)
  go_wp2_with fail
  go_ret
  exact⟨Ah HE.out.symm,(hx0.t hz1)⟩
 have b1':(s.ing != s.eg)=false:=by simp only [bne,b1];rfl
 cases b3:(s.ing == 0)
 ·
  have b3':(s.ing != 0)=true:=by simp only [bne,b3];rfl
  have HE:=Ac (show stepOk t s=false by unfold stepOk;rw [b1',b3];simp);have cf5:=blk2 HB0.out.1;have cf6:=blk3 HB0.out.2
  go_wp2_with fail
  go_ret
  exact⟨Ah HE.out.symm,hx0⟩
 have b3':(s.ing != 0)=false:=by simp only [bne,b3];rfl
 have HE:=Ac (show stepOk t s=transitOk (ifKind t s.asn s.ing) (ifKind t s.asn s.eg) by unfold stepOk;rw [b1',b3];simp);have cf7:=blk2 HB0.out.1;have cf8:=blk3 HB0.out.2
 go_wp2_with fail
 refine Al (by kernel_rfl) (by kernel_rfl) ?_;have q0:=Br cf7;have q2:=ExtW.c3 cf8
 repeat (first | go_big_quiet_step (((first | (go_at_call 155;exact Ai (s_InterfaceKind t _ _ _ _ _ ((hk.ext hx0).ext (ExtW.h _)))) | (go_at_call 154;exact Am (s_TransitAllowed _ _ _))))) | quiet_step (((first | (go_at_call 155;exact Ai (s_InterfaceKind t _ _ _ _ _ ((hk.ext hx0).ext (ExtW.h _)))) | (go_at_call 154;exact Am (s_TransitAllowed _ _ _))))))
 refine wpQuiet_nil ?_;intro w2 hw2;have hz2:=ExtW.out hw2;clear hw2 q0 q2
 try clear cf7
 try clear cf8
 have cf9:=blk2 (Aa hz2 HB0.out.1);have cf10:=blk3 (Aa hz2 HB0.out.2)
 go_wp2_with fail
 go_ret
 exact⟨Ah HE.out.symm,(hx0.t hz2)⟩
theorem i_Contains (s i:Int) (w:World) :
  Calls Tryz.prog 146 #[.int .i64 s,.int .i64 i] w fun e w'=>e=.returned (.bool (inSet s i))∧w=w':=by
 go_enter Tryz.func146,Tryz.ntmps146
 go_wp2_with fail
 refine(i_ValidSet _ _).mono ?_;rintro e w1 ⟨rfl,rfl⟩
 cases h1:inR s 0 65535
 ·
  have HE:=Ac (show inSet s i=false by unfold inSet;rw [h1];rfl)
  go_wp2_with fail
  go_ret
  exact⟨Ah HE.out.symm,rfl⟩
 go_wp2_with fail
 refine(i_InRange _ _ _ _).mono ?_;rintro e w1 ⟨rfl,rfl⟩
 cases h2:inR i 0 15
 ·
  have HE:=Ac (show inSet s i=false by unfold inSet;rw [h1,h2];rfl)
  go_wp2_with fail
  go_ret
  exact⟨Ah HE.out.symm,rfl⟩
 have HE:=Ac (show inSet s i=bitAt s i.toNat by unfold inSet;rw [h1,h2];rfl);obtain⟨a1,a2⟩:=Bk.1 h1;obtain⟨a3,a4⟩:=Bk.1 h2;clear h1 h2;have hi:i=0∨i=1∨i=2∨i=3∨i=4∨i=5∨i=6∨i=7∨i=8∨i=9∨i=10∨i=11∨i=12∨i=13∨i=14∨i=15:=by omega
 clear a3 a4
 rcases hi with rfl | rfl | rfl | rfl | rfl | rfl | rfl | rfl | rfl | rfl | rfl | rfl | rfl | rfl | rfl | rfl
 all_goals
  go_wp2_with fail
  go_ret
  exact⟨Ah (by rw [HE.out];unfold bitAt;rw [and1 _ (by omega) (by omega)];first | rfl | simp),rfl⟩
theorem s_Contains (s i:Int) (w:World) :
  Calls Tryz.prog 106 #[.int .i64 s,.int .i64 i] w fun e w'=>e=.returned (.bool (inSet s i))∧w=w':=by
 go_enter Tryz.func106,Tryz.ntmps106
 go_wp2_with fail
 refine(s_ValidSet _ _).mono ?_;rintro e w1 ⟨rfl,rfl⟩
 cases h1:inR s 0 65535
 ·
  have HE:=Ac (show inSet s i=false by unfold inSet;rw [h1];rfl)
  go_wp2_with fail
  go_ret
  exact⟨Ah HE.out.symm,rfl⟩
 go_wp2_with fail
 refine(s_l4One _ _).mono ?_;rintro e w1 ⟨rfl,rfl⟩
 cases h2:inR i 0 15
 ·
  have HE:=Ac (show inSet s i=false by unfold inSet;rw [h1,h2];rfl)
  go_wp2_with fail
  go_ret
  exact⟨Ah HE.out.symm,rfl⟩
 have HE:=Ac (show inSet s i=bitAt s i.toNat by unfold inSet;rw [h1,h2];rfl);obtain⟨a1,a2⟩:=Bk.1 h1;obtain⟨a3,a4⟩:=Bk.1 h2;clear h1 h2;have hi:i=0∨i=1∨i=2∨i=3∨i=4∨i=5∨i=6∨i=7∨i=8∨i=9∨i=10∨i=11∨i=12∨i=13∨i=14∨i=15:=by omega
 clear a3 a4
 rcases hi with rfl | rfl | rfl | rfl | rfl | rfl | rfl | rfl | rfl | rfl | rfl | rfl | rfl | rfl | rfl | rfl
 all_goals
  go_wp2_with fail
  go_ret
  exact⟨Ah (by rw [HE.out];unfold bitAt;rw [and1 _ (by omega) (by omega)];first | rfl | simp),rfl⟩
end
section
open Go.RowKit
def trav (t:Topo) (now:Int) (dead:List Int):Nat→Int→Int→Pkt→List Step→Trc
  | 0, _, _, x, l => ⟨0, l, x⟩
  | f + 1, r, inn, x, l =>
    if (forward t r now (failedIfs t dead r) inn x).code=0 then trav t now dead f (remEnd t r (forward t r now (failedIfs t dead r) inn x).eg).1 (remEnd t r (forward t r now (failedIfs t dead r) inn x).eg).2 (forward t r now (failedIfs t dead r) inn x).pkt (l ++ [⟨r,inn,(forward t r now (failedIfs t dead r) inn x).eg⟩])
    else if (forward t r now (failedIfs t dead r) inn x).code=1 then ⟨1,l ++ [⟨r,inn,(forward t r now (failedIfs t dead r) inn x).eg⟩],(forward t r now (failedIfs t dead r) inn x).pkt⟩
    else ⟨(forward t r now (failedIfs t dead r) inn x).code,l,(forward t r now (failedIfs t dead r) inn x).pkt⟩
def traverse (t:Topo) (now:Int) (dead:List Int) (x:Pkt):Trc:=trav t now dead 30 x.src 0 x []
theorem trav_go {t:Topo} {now:Int} {dead:List Int} {f:Nat} {r inn eg:Int} {x z:Pkt} {l:List Step} (hv:forward t r now (failedIfs t dead r) inn x=⟨0,eg,z⟩) :
  trav t now dead (f+1) r inn x l=trav t now dead f (remEnd t r eg).1 (remEnd t r eg).2 z (l ++ [⟨r,inn,eg⟩]):=by simp [trav,hv]
theorem trav_del {t:Topo} {now:Int} {dead:List Int} {f:Nat} {r inn eg:Int} {x z:Pkt} {l:List Step} (hv:forward t r now (failedIfs t dead r) inn x=⟨1,eg,z⟩) :
  trav t now dead (f+1) r inn x l=⟨1,l ++ [⟨r,inn,eg⟩],z⟩:=by simp [trav,hv]
theorem trav_bad {t:Topo} {now:Int} {dead:List Int} {f:Nat} {r inn cd eg:Int} {x z:Pkt} {l:List Step} (hv:forward t r now (failedIfs t dead r) inn x=⟨cd,eg,z⟩) (h0:¬ cd=0) (h1:¬ cd=1) :
  trav t now dead (f+1) r inn x l=⟨cd,l,z⟩:=by simp [trav,hv,h0,h1]
def wHops (cont:Int→Int→Hop→List Step) (k:Int):Int→List Hop→List Step
  | _, [] => []
  | inn, [h] => cont k inn h
  | inn, h :: h' :: hs => ⟨h.asn, inn, hopEg k h⟩ :: wHops cont k (hopIn k h') (h' :: hs)
def wParts (z:Int→Hop→Int):List Part→Int→Int→Hop→List Step
  | [], k, inn, h => [⟨h.asn, inn, z k h⟩]
  | p :: ps, _, inn, _ => wHops (wParts z ps) p.kind inn p.hops
end
abbrev Bc := @ExtW.out
end Go.Proofs.YteodlcpeoaggbaaGreat
