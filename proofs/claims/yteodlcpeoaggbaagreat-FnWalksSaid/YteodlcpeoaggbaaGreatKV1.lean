/- What these laws need: FnOld, FnWalks: The base of all walks over this seat: what a law owes to its statement, the readings of slices, and small facts on worlds. Readings of values as data: how a row of cells reads as a datum, and a slice value as a list of data. From the row's reading of an argument to data: integers, bools, structs, slices, to any depth. Appending one datum to a row of the call's own. Slices of int: how they read, and the contracts of the laws' helper functions over them. Facts on single blocks: what a store leaves of a block. Ownership of slices whose elements may hold slices of their own: what a row owns is a set of blocks. -/
import Derived.Test.YteodlcpeoaggbaaGreatRows
import Derived.WalkKit
import Derived.WalkSpells
import Derived.WalkLawsBesides
import Derived.ProofKit
import Derived.OpenShut
import Derived.Lib.Hide
import Derived.Deep.Slices
import Derived.Deep.Heap
import Derived.Lib.SmallJoins
import Derived.Deep.QuietTactic
import Derived.BigQuiet
import Derived.StillTailTactics
import Derived.Deep.RegionHeld3
import Derived.Deep.AppendLies
import Derived.Laws.AppendOwnNone
import Derived.Maps.AppendAt
namespace Go.Proofs.YteodlcpeoaggbaaGreat
section
open Go.ChangeShapes Go.WideShapes Go.ChangeAt Go.RowKit Go.Deep
def Ext (a b:World):Prop:=Below a.heap.size a b
theorem Ext.below {a b:World} (h:Ext a b):Below a.heap.size a b:=h
theorem Ext.size {a b:World} (h:Ext a b):a.heap.size≤b.heap.size:=h.below.size
theorem Ext.refl (a:World):Ext a a:=Below.refl _ _
theorem Ext.trans {a b c:World} (h:Ext a b) (k:Ext b c):Ext a c:=Below.trans h (Below.mono k h.size)
theorem Ext.t {a b c:World} (h:Ext a b) (k:Ext b c):Ext a c:=h.trans k
theorem Ext.drew {a b:World} (h:Ext a b):Ext a b.drew:=Below.drew h
theorem Ext.drewN {a b:World} (h:Ext a b) (n:Nat):Ext a (b.drewN n):=⟨h.os,h.tape,h.output,h.size,h.block⟩
theorem Ext.alloc {a b:World} (h:Ext a b) (o:Obj):Ext a (b.alloc o):=Below.alloc h h.size o
theorem Ext.setCell {a b:World} (h:Ext a b) {p:Addr} (hp:a.heap.size≤p.block) (u:Value):Ext a (b.setCell p u):=Below.setCell h hp u
theorem Ext.cell {a b:World} (h:Ext a b) {p:Addr} {v:Value} (hc:a.cell? p=some v):b.cell? p=some v:=
 (Below.cell h (World.block_lt_of_cell? a p hc)).trans hc
theorem Ext.block {a b:World} (h:Ext a b) {k:Nat} {o:Obj} (hc:a.heap[k]?=some o):b.heap[k]?=some o:=
 (Below.block h k (Array.getElem?_eq_some_iff.1 hc).1).trans hc
theorem blk_new (w:World) (o:Obj):(w.alloc o).heap[w.heap.size]?=some o:=blk_alloc_new w o
theorem blk_cell {w:World} {b:Nat} {arr:Array Value} {t:TypeId} {f:Nat×Nat} (h:w.heap[b]?=some (.cells arr t f)) (o:Nat):w.cell? ⟨b,o,none⟩=arr[o]?:=by
 simp [World.cell?,h]
theorem blk_frozen {w:World} {b:Nat} {arr:Array Value} {t:TypeId} (h:w.heap[b]?=some (.cells arr t (0,0))) (o:Nat):w.frozen? ⟨b,o,none⟩=false:=by
 simp [World.frozen?,h]
theorem blk1 {w:World} {b:Nat} {x0:Value} {t:TypeId} {f:Nat×Nat} (h:w.heap[b]?=some (.cells #[x0] t f)):w.cell? ⟨b,0,none⟩=some x0:=blk_cell h 0
theorem blk3 {w:World} {b:Nat} {x0 x1 x2:Value} {t:TypeId} {f:Nat×Nat} (h:w.heap[b]?=some (.cells #[x0,x1,x2] t f)) :
  w.cell? ⟨b,0,none⟩=some x0∧w.cell? ⟨b,1,none⟩=some x1∧w.cell? ⟨b,2,none⟩=some x2:=⟨blk_cell h 0,blk_cell h 1,blk_cell h 2⟩
theorem blk2 {w:World} {b:Nat} {x0 x1:Value} {t:TypeId} {f:Nat×Nat} (h:w.heap[b]?=some (.cells #[x0,x1] t f)) :
  w.cell? ⟨b,0,none⟩=some x0∧w.cell? ⟨b,1,none⟩=some x1:=⟨blk_cell h 0,blk_cell h 1⟩
theorem blk4 {w:World} {b:Nat} {x0 x1 x2 x3:Value} {t:TypeId} {f:Nat×Nat} (h:w.heap[b]?=some (.cells #[x0,x1,x2,x3] t f)) :
  w.cell? ⟨b,0,none⟩=some x0∧w.cell? ⟨b,1,none⟩=some x1∧w.cell? ⟨b,2,none⟩=some x2∧w.cell? ⟨b,3,none⟩=some x3:=⟨blk_cell h 0,blk_cell h 1,blk_cell h 2,blk_cell h 3⟩
theorem blk5 {w:World} {b:Nat} {x0 x1 x2 x3 x4:Value} {t:TypeId} {f:Nat×Nat} (h:w.heap[b]?=some (.cells #[x0,x1,x2,x3,x4] t f)) :
  w.cell? ⟨b,0,none⟩=some x0∧w.cell? ⟨b,1,none⟩=some x1∧w.cell? ⟨b,2,none⟩=some x2∧w.cell? ⟨b,3,none⟩=some x3∧w.cell? ⟨b,4,none⟩=some x4:=
 ⟨blk_cell h 0,blk_cell h 1,blk_cell h 2,blk_cell h 3,blk_cell h 4⟩
theorem Ext.grown {a b c:World} {row:Option Nat} (h:Ext a b) (hg:b.grownBy c row) (hr:∀ k,row=some k→a.heap.size≤k):Ext a c:=Below.grown h hg h.size hr
theorem Ext.grownNone {a b c:World} (h:Ext a b) (hg:b.grownBy c none):Ext a c:=h.grown hg (fun _ e=>by cases e)
structure Rep (α : Type) where
  cells:Nat
  rd:World→List Value→α→Prop
  len:∀ {w:World} {cs:List Value} {a:α},rd w cs a→cs.length=cells
  ext:∀ {w w':World} {cs:List Value} {a:α},Ext w w'→rd w cs a→rd w' cs a
def RdS {α:Type} (r:Rep α) (w:World) (v:Value) (l:List α):Prop:=
  ∃ (o:Option Addr) (cap:Nat),v=.slice o l.length cap∧l.length≤cap∧cap≤maxLen∧(o=none→cap=0) ∧
    ∀ (i:Nat) (h:i<l.length),∃ (b off:Nat) (cs:List Value),o=some ⟨b,off,none⟩ ∧
      (∀ j u,cs[j]?=some u→w.cell? ⟨b,off+i * r.cells+j,none⟩=some u)∧r.rd w cs l[i]
theorem RdS.ext {α:Type} {r:Rep α} {w w':World} {v:Value} {l:List α} (h:RdS r w v l) (e:Ext w w'):RdS r w' v l:=by
 obtain⟨o,cap,hv,h1,h2,hn,h3⟩:=h;refine⟨o,cap,hv,h1,h2,hn,fun i hi=>?_⟩;obtain⟨b,off,cs,ho,hc,hr⟩:=h3 i hi;exact⟨b,off,cs,ho,fun j u hj=>e.cell (hc j u hj),r.ext e hr⟩
theorem RdS.nil {α:Type} (r:Rep α) (w:World):RdS r w (.slice none 0 0) []:=
 ⟨none,0,rfl,Nat.le_refl _,by decide,fun _=>rfl,fun i h=>absurd h (by simp)⟩
theorem RdS.small {α:Type} {r:Rep α} {w:World} {v:Value} {l:List α} (h:RdS r w v l):l.length≤9223372036854775807:=by
 obtain⟨o,cap,hv,h1,h2,hn,h3⟩:=h;unfold maxLen at h2;omega
def Rep.slice {α:Type} (r:Rep α):Rep (List α) where
  cells:=1
  rd w cs l:=∃ v,cs=[v]∧RdS r w v l
  len:=by rintro w cs a ⟨v,rfl,_⟩;rfl
  ext:=by rintro w w' cs a e ⟨v,rfl,h⟩;exact⟨v,rfl,h.ext e⟩
def Rep.flat {α:Type} (n:Nat) (f:α→List Value) (hf:∀ a,(f a).length=n):Rep α where
  cells:=n
  rd _ cs a:=cs=f a
  len:=by rintro w cs a rfl;exact hf a
  ext:=by rintro w w' cs a _ rfl;rfl
def Rep.int:Rep Int:=Rep.flat 1 (fun n=>[.int .i64 n]) (fun _=>rfl)
def Rep.bool:Rep Bool:=Rep.flat 1 (fun b=>[.bool b]) (fun _=>rfl)
def Rep.byte:Rep Int:=Rep.flat 1 (fun n=>[.int .u8 n]) (fun _=>rfl)
theorem RdS.at_flat {α:Type} {n:Nat} {f:α→List Value} {hf:∀ a,(f a).length=n} {w:World} {o:Option Addr} {m cap:Nat} {l:List α} (h:RdS (Rep.flat n f hf) w (.slice o m cap) l) (k:Nat) (hk:k<l.length) :
  ∃ b off,o=some ⟨b,off,none⟩∧∀ j u,(f l[k])[j]?=some u→w.cell? ⟨b,off+k * n+j,none⟩=some u:=by
 obtain⟨o',cap',hv,h1,h2,hn,h3⟩:=h;obtain⟨b,off,cs,ho,hc,rfl⟩:=h3 k hk
 cases hv
 exact⟨b,off,ho,hc⟩
theorem RdS.shape {α:Type} {r:Rep α} {w:World} {v:Value} {l:List α} (h:RdS r w v l):∃ o cap,v=.slice o l.length cap∧l.length≤9223372036854775807:=by
 have:=h.small;obtain⟨o,cap,hv,h1,h2,hn,h3⟩:=h;exact⟨o,cap,hv,this⟩
theorem flatMap_at {α:Type} {n:Nat} {f:α→List Value} (hf:∀ a,(f a).length=n):∀ (l:List α) (k:Nat) (hk:k<l.length) (j:Nat),j<n→(l.flatMap f)[k * n+j]?=(f l[k])[j]?
 | [], k, hk, _, _ => absurd hk (by simp)
 | a :: l, 0, _, j, hj => by
  rw [List.flatMap_cons,Nat.zero_mul,Nat.zero_add,List.getElem?_append_left (by rw [hf];exact hj)];rfl
 | a :: l, k + 1, hk, j, hj => by
  rw [List.flatMap_cons,List.getElem?_append_right (by rw [hf,Nat.succ_mul];omega),hf,show(k+1) * n+j - n=k * n+j from by rw [Nat.succ_mul];omega];exact flatMap_at hf l k (by simpa using hk) j hj
theorem flatMap_len {α:Type} {n:Nat} {f:α→List Value} (hf:∀ a,(f a).length=n) (l:List α):(l.flatMap f).length=l.length * n:=by
 induction l with
 | nil => simp
 | cons a l ih => rw [List.flatMap_cons, List.length_append, hf, ih, List.length_cons, Nat.succ_mul]; omega
def OwnF {α:Type} (f:α→List Value) (n:Nat) (base:Nat) (e:TypeId) (w:World) (v:Value) (l:List α):Prop:=w.ownsRow base e n v l.length (l.flatMap f)
theorem OwnF.rd {α:Type} {n:Nat} {f:α→List Value} {hf:∀ a,(f a).length=n} {base:Nat} {e:TypeId} {w:World} {v:Value} {l:List α} (h:OwnF f n base e w v l):RdS (Rep.flat n f hf) w v l:=by
 obtain⟨h1,h2⟩:=h
 rcases h2 with ⟨rfl,hn⟩ | ⟨g,cap,cur,rfl,hb,hg,hnc,hcm,hcs,ht⟩
 ·
  obtain rfl:=List.eq_nil_of_length_eq_zero hn;exact RdS.nil _ _
 refine⟨some ⟨g,0,none⟩,cap,rfl,hnc,hcm,(fun e=>by cases e),fun i hi=>⟨g,0,f l[i],rfl,fun j u hu=>?_,rfl⟩⟩
 show w.cell? ⟨g,0+i * n+j,none⟩=_
 have hj:j<n:=by have:=(List.getElem?_eq_some_iff.1 hu).1;rw [hf] at this;exact this
 have hx:i * n+j<l.length * n:=by
  have:(i+1) * n≤l.length * n:=Nat.mul_le_mul_right _ hi;rw [Nat.succ_mul] at this;omega
 have:=flatMap_at hf l i hi j hj;rw [hu,← ht,List.getElem?_take,if_pos hx] at this;rw [Nat.zero_add,blk_cell hg]
 simpa using this
theorem OwnF.ext {α:Type} {n:Nat} {f:α→List Value} {base:Nat} {e:TypeId} {w w':World} {v:Value} {l:List α} (h:OwnF f n base e w v l) (x:Ext w w'):OwnF f n base e w' v l:=by
 obtain⟨h1,h2⟩:=h;refine⟨h1,?_⟩
 rcases h2 with h2 | ⟨g,cap,cur,hv,hb,hg,r⟩
 ·
  exact .inl h2
 exact .inr ⟨g,cap,cur,hv,hb,x.block hg,r⟩
theorem OwnF.mono {α:Type} {n:Nat} {f:α→List Value} {base base':Nat} {e:TypeId} {w:World} {v:Value} {l:List α} (h:OwnF f n base e w v l) (x:base'≤base):OwnF f n base' e w v l:=by
 obtain⟨h1,h2⟩:=h;refine⟨h1,?_⟩
 rcases h2 with h2 | ⟨g,cap,cur,hv,hb,r⟩
 ·
  exact .inl h2
 exact .inr ⟨g,cap,cur,hv,Nat.le_trans x hb,r⟩
theorem OwnF.kept {α:Type} {n:Nat} {f:α→List Value} {base:Nat} {e:TypeId} {w w':World} {v:Value} {l:List α} {row:Option Nat} (h:OwnF f n base e w v l) (hg:w.grownBy w' row) (hr:∀ k,row=some k→k<base):OwnF f n base e w' v l:=by
 refine World.ownsRow.kept h hg ?_
 cases hv:v.ownBlock with
 | none => exact .inl rfl
 | some k =>
  right
  rintro rfl;have:=(h.lt k hv).1;have:=hr k rfl;omega
theorem OwnF.block {α:Type} {n:Nat} {f:α→List Value} {base:Nat} {e:TypeId} {w:World} {v:Value} {l:List α} (h:OwnF f n base e w v l):∀ k,v.ownBlock=some k→base≤k∧k<w.heap.size:=World.ownsRow.lt h
theorem OwnF.some_shape {α:Type} {n:Nat} {f:α→List Value} {base:Nat} {e:TypeId} {w:World} {v:Value} {l:List α} (h:OwnF f n base e w v l) (hl:0<l.length) :
  ∃ g cap,v=.slice (some ⟨g,0,none⟩) l.length cap∧base≤g∧g<w.heap.size:=by
 rcases h.2 with ⟨rfl,hn⟩ | ⟨g,cap,cur,rfl,hb,hg,hnc,hcm,hcs,ht⟩
 ·
  omega
 exact⟨g,cap,rfl,hb,(Array.getElem?_eq_some_iff.1 hg).1⟩
theorem OwnF.cells_flat {α:Type} {n:Nat} {f:α→List Value} (hf:∀ a,(f a).length=n) {base:Nat} {e:TypeId} {w:World} {g m cap:Nat} {l:List α} (h:OwnF f n base e w (.slice (some ⟨g,0,none⟩) m cap) l) (k:Nat) (hk:k<l.length) :
  ∀ j u,(f l[k])[j]?=some u→w.cell? ⟨g,k * n+j,none⟩=some u:=by
 obtain⟨b,off,ho,hc⟩:=RdS.at_flat (OwnF.rd (hf:=hf) h) k hk
 cases ho
 simpa using hc
theorem OwnF.free {α:Type} {n:Nat} {f:α→List Value} {base:Nat} {e:TypeId} {w:World} {g m cap:Nat} {l:List α} (h:OwnF f n base e w (.slice (some ⟨g,0,none⟩) m cap) l) (j:Nat):w.frozen? ⟨g,j,none⟩=false:=by
 rcases h.2 with ⟨h',_⟩ | ⟨g',cap',cur,h',_,hg,_⟩
 ·
  simp at h'
 cases h'
 exact blk_frozen hg j
theorem OwnF.len {α:Type} {n:Nat} {f:α→List Value} {base:Nat} {e:TypeId} {w:World} {o:Option Addr} {m cap:Nat} {l:List α} (h:OwnF f n base e w (.slice o m cap) l):m=l.length:=by
 rcases h.2 with ⟨h',hn⟩ | ⟨g',cap',cur,h',_,hg,_⟩
 ·
  cases h';exact hn.symm
 cases h';rfl
theorem take_snoc2 {α:Type} {a b:List α} {k:Nat} (h:a.take k=b.take k) (ha:k<a.length) (hb:k<b.length) (he:a[k]=b[k]):a.take (k+1)=b.take (k+1):=by
 rw [List.take_succ_eq_append_getElem ha,List.take_succ_eq_append_getElem hb,h,he]
theorem ret_bool {a b:Bool} (h:a=b):Ending.returned (.bool a)=.returned (.bool b):=by rw [h]
theorem ret_int {k:IntKind} {a b:Int} (h:a=b):Ending.returned (.int k a)=.returned (.int k b):=by rw [h]
def I64 (n:Int):Prop:=-9223372036854775808≤n∧n≤9223372036854775807
def U8 (n:Int):Prop:=0≤n∧n≤255
structure Elem (P : Program) (t e : TypeId) (n bytes : Nat) where
  i:TypeInfo
  z:Value
  ht:P.underlying t=some (.slice e)
  hi:P.info? e=some i
  hz:i.zero=some z
  hsize:i.size=n
  hby:i.bytes=bytes
  hzs:z.cells.size=n
  hpos:0<n
theorem Elem.mk' {P:Program} {t e:TypeId} {n bytes:Nat} {z:Value} (ht:P.underlying t=some (.slice e)) (h:(P.info? e).map (fun i=>(i.zero,i.size,i.bytes))=some (some z,n,bytes)) (hzs:z.cells.size=n) (hpos:0<n):Nonempty (Elem P t e n bytes):=by
 obtain⟨i,hi,hz,h1,h2⟩:=info_parts h;exact⟨⟨i,z,ht,hi,hz,h1,h2,hzs,hpos⟩⟩
section
variable {P : Program} {w : World} {ops : Array Oper} {rest : List Oper} {o : Oper} {a : Act} {Q : Exit → Act → World → Prop}
theorem app1 {t e:TypeId} {n bytes:Nat} (E:Elem P t e n bytes) {α:Type} {f:α→List Value} (hf:∀ a,(f a).length=n) (h1:∀ b,∀ u∈f b,u.oneCell'=true) (hgd:o.guard=none) (s x:Operand)
  (ho:o.op=.call { callee:=.builtin .append,args:=#[s,x],argTypes:=#[t,t] }) {base:Nat} {v:Value} {l:List α} (b:α) (hs:a.eval s=v) (hown:OwnF f n base e w v l)
  {g c:Nat} (hx:a.eval x=.slice (some ⟨g,0,none⟩) 1 c) (hnews:∀ j u,(f b)[j]?=some u→w.cell? ⟨g,j,none⟩=some u)
  (hl:(l.length+1) * bytes≤140737488355328) (hm:l.length+1≤maxLen) (hbase:base≤w.heap.size)
  (h:∀ v' w',OwnF f n base e w' v' (l ++ [b])→w.grownBy w' v.ownBlock→wpList P ops Q rest (a.put o.dst v') w'):wpList P ops Q (o :: rest) a w:=by
 refine wpList_append_own w hgd s x t ho base e E.i E.z n bytes E.ht E.hi E.hz E.hsize E.hby E.hzs E.hpos v l.length (l.flatMap f) hs hown ⟨g,0,none⟩ 1 c (f b) hx (by rw [hf,Nat.one_mul]) ?_ (h1 b) hm hl hbase ?_
 ·
  intro j u hu;have hadd:(⟨g,0,none⟩:Addr).add j=⟨g,j,none⟩:=by unfold Addr.add;split <;> simp_all
  rw [hadd];exact hnews j u hu
 intro v' w' ho' hg _;refine h v' w' ?_ hg;unfold OwnF;rw [List.length_append,List.flatMap_append,List.flatMap_cons,List.flatMap_nil,List.append_nil];exact ho'
theorem appS {t e:TypeId} {n bytes:Nat} (E:Elem P t e n bytes) {α:Type} {f:α→List Value} (hf:∀ a,(f a).length=n) (h1:∀ b,∀ u∈f b,u.oneCell'=true) (hgd:o.guard=none) (s x:Operand)
  (ho:o.op=.call { callee:=.builtin .append,args:=#[s,x],argTypes:=#[t,t] }) {base:Nat} {v vs:Value} {l:List α} (src:List α) (hs:a.eval s=v) (hown:OwnF f n base e w v l)
  (hx:a.eval x=vs) (hsrc:RdS (Rep.flat n f hf) w vs src)
  (hl:(l.length+src.length) * bytes≤140737488355328) (hm:l.length+src.length≤maxLen) (hbase:base≤w.heap.size)
  (h:∀ v' w',OwnF f n base e w' v' (l ++ src)→w.grownBy w' v.ownBlock→wpList P ops Q rest (a.put o.dst v') w'):wpList P ops Q (o :: rest) a w:=by
 obtain⟨oa,cap,rfl,hc1,hc2,hn0,hel⟩:=hsrc
 cases oa with
 | none =>
  have hnil:src=[]:=by
   cases src with
   | nil => rfl
   | cons b src => obtain ⟨_, _, _, he, _⟩ := hel 0 (by simp); cases he
  subst hnil;obtain rfl:=hn0 rfl;refine wpList_append_own_none hgd s x t ho base e E.i n E.ht E.hi v l.length (l.flatMap f) hs hown hx ?_;refine h v w ?_ (World.grownBy.refl _ _);rw [List.append_nil];exact hown
 | some ad =>
  refine wpList_append_own w hgd s x t ho base e E.i E.z n bytes E.ht E.hi E.hz E.hsize E.hby E.hzs E.hpos v l.length (l.flatMap f) hs hown ad src.length cap (src.flatMap f) hx (flatMap_len hf src) ?_ ?_ hm hl hbase ?_
  ·
   intro j u hu;have hjl:j<src.length * n:=by rw [← flatMap_len hf src];exact(List.getElem?_eq_some_iff.1 hu).1
   have hk:j / n<src.length:=by rw [Nat.div_lt_iff_lt_mul E.hpos];exact hjl
   have hr:=Nat.mod_lt j E.hpos;obtain⟨b,off,cs,hb,hcell,rfl⟩:=hel (j / n) hk
   cases hb
   have hfm:=flatMap_at hf src (j / n) hk (j % n) hr;have hdm:j / n * n+j % n=j:=by rw [Nat.mul_comm];exact Nat.div_add_mod j n
   rw [hdm,hu] at hfm;have:=hcell (j % n) u hfm.symm;have hadd:(⟨b,off,none⟩:Addr).add j=⟨b,off+j,none⟩:=by unfold Addr.add;split <;> simp_all
   rw [hadd];rw [← this]
   show _=w.cell? ⟨b,off+j / n * n+j % n,none⟩
   rw [Nat.add_assoc,hdm]
  ·
   intro u hu;obtain⟨b,_,hb⟩:=List.mem_flatMap.1 hu;exact h1 b u hb
  intro v' w' ho' hg _;refine h v' w' ?_ hg;unfold OwnF;rw [List.length_append,List.flatMap_append];exact ho'
end
theorem Ext.app {a b c:World} {α:Type} {f:α→List Value} {n base:Nat} {e:TypeId} {v:Value} {l:List α} (h:Ext a b) (hg:b.grownBy c v.ownBlock) {b':World} (ho:OwnF f n base e b' v l) (hb:a.heap.size≤base):Ext a c:=
 h.grown hg fun k hk=>Nat.le_trans hb (OwnF.block ho k hk).1
theorem OwnF.nil {α:Type} (f:α→List Value) (n base:Nat) (e:TypeId) (w:World):OwnF f n base e w (.slice none 0 0) []:=World.ownsRow_nil w base e n
theorem OwnF.empty {α:Type} (f:α→List Value) (n base:Nat) (e:TypeId) (w:World) (hb:base≤w.heap.size):OwnF f n base e (w.alloc (.cells #[] e)) (.slice (some ⟨w.heap.size,0,none⟩) 0 0) []:=
 World.ownsRow_made w #[] 0 hb (by decide) (by simp)
theorem flatMap_set1 {α:Type} {n:Nat} {f:α→List Value} (hf:∀ a,(f a).length=n):∀ (l:List α) (k:Nat) (hk:k<l.length) (j:Nat) (_:j<n) (u:Value) (x:α),f x=(f l[k]).set j u→(l.flatMap f).set (k * n+j) u=(l.set k x).flatMap f
 | [], k, hk, _, _, _, _, _ => absurd hk (by simp)
 | a :: l, 0, _, j, hj, u, x, hx => by
  simp only [List.getElem_cons_zero] at hx;rw [List.flatMap_cons,Nat.zero_mul,Nat.zero_add,List.set_cons_zero,List.flatMap_cons,hx,List.set_append_left _ _ (by rw [hf];exact hj)]
 | a :: l, k + 1, hk, j, hj, u, x, hx => by
  have:=flatMap_set1 hf l k (by simpa using hk) j hj u x (by simpa using hx);rw [List.flatMap_cons,List.set_cons_succ,List.flatMap_cons,← this,List.set_append_right _ _ (by rw [hf,Nat.succ_mul];omega),hf,show(k+1) * n+j - n=k * n+j from by rw [Nat.succ_mul];omega]
theorem OwnF.put1 {α:Type} {n:Nat} {f:α→List Value} (hf:∀ a,(f a).length=n) {base:Nat} {e:TypeId} {w:World} {g m cap:Nat} {l:List α} (h:OwnF f n base e w (.slice (some ⟨g,0,none⟩) m cap) l) (k:Nat) (hk:k<l.length) (j:Nat) (hj:j<n) (u:Value) (x:α)
  (hx:f x=(f l[k]).set j u):OwnF f n base e (w.setCell ⟨g,k * n+j,none⟩ u) (.slice (some ⟨g,0,none⟩) m cap) (l.set k x)∧w.grownBy (w.setCell ⟨g,k * n+j,none⟩ u) (some g):=by
 obtain rfl:=h.len;obtain⟨h0,g0⟩:=World.ownsRow.stored h (k * n+j) u;rw [flatMap_set1 hf l k hk j hj u x hx] at h0;refine⟨?_,g0⟩;unfold OwnF;rw [List.length_set];exact h0
theorem RdS.part {α:Type} {r:Rep α} {w:World} {b off m cap:Nat} {l:List α} (h:RdS r w (.slice (some ⟨b,off,none⟩) m cap) l) (lo hi:Nat) (h1:lo≤hi) (h2:hi≤l.length) :
  RdS r w (.slice (some ⟨b,off+lo * r.cells,none⟩) (hi - lo) (cap - lo)) ((l.take hi).drop lo):=by
 obtain⟨o,cap',hv,c1,c2,hn,hel⟩:=h
 cases hv
 have hlen:((l.take hi).drop lo).length=hi - lo:=by simp;omega
 refine⟨_,_,by rw [hlen],by rw [hlen];omega,by omega,(fun e=>by cases e),fun i hi'=>?_⟩;rw [hlen] at hi';obtain⟨b',off',cs,hb,hc,hr⟩:=hel (lo+i) (by omega)
 cases hb
 refine⟨b,off+lo * r.cells,cs,rfl,fun j u hj=>?_,?_⟩
 ·
  have:=hc j u hj;rw [Nat.add_mul,← Nat.add_assoc] at this;exact this
 simpa using hr
theorem OwnF.emptyAt {α:Type} {f:α→List Value} {n base:Nat} {e:TypeId} {w:World} {g:Nat} (hg:g=w.heap.size) (hb:base≤g):OwnF f n base e (w.alloc (.cells #[] e)) (.slice (some ⟨g,0,none⟩) 0 0) []:=by
 subst hg;exact OwnF.empty f n base e w hb
theorem OwnF.capLe {α:Type} {f:α→List Value} {n base:Nat} {e:TypeId} {w:World} {g m cap:Nat} {l:List α} (h:OwnF f n base e w (.slice (some ⟨g,0,none⟩) m cap) l):m≤cap∧g<w.heap.size:=by
 rcases h.2 with ⟨h',_⟩ | ⟨g',cap',cur,h',_,hg,hc,_⟩
 ·
  cases h'
 cases h';exact⟨hc,(Array.getElem?_eq_some_iff.1 hg).1⟩
theorem blk_lt {w:World} {b:Nat} {o:Obj} (h:w.heap[b]?=some o):b<w.heap.size:=(Array.getElem?_eq_some_iff.1 h).1
theorem RdS.capLe {α:Type} {r:Rep α} {w:World} {o:Option Addr} {m cap:Nat} {l:List α} (h:RdS r w (.slice o m cap) l):l.length≤cap:=by
 obtain⟨o',cap',hv,c1,_⟩:=h
 cases hv
 exact c1
theorem OwnF.lit {α:Type} {n:Nat} {f:α→List Value} (hf:∀ a,(f a).length=n) (base:Nat) (e:TypeId) (w:World) (l:List α) (hb:base≤w.heap.size) (hm:l.length≤maxLen) :
  OwnF f n base e (w.alloc (.cells (l.flatMap f).toArray e)) (.slice (some ⟨w.heap.size,0,none⟩) l.length l.length) l:=by
 have:=World.ownsRow_lit (base:=base) (e:=e) (size:=n) w (l.flatMap f).toArray l.length hb hm (by simpa using flatMap_len hf l);exact this
theorem blk_list {w:World} {b:Nat} (cs:List Value) {t:TypeId} {f:Nat×Nat} (h:w.heap[b]?=some (.cells cs.toArray t f)):∀ j u,cs[j]?=some u→w.cell? ⟨b,j,none⟩=some u:=by
 intro j u hu;rw [blk_cell h]
 simpa using hu
theorem blk_new2 (w:World) (o1 o2:Obj):((w.alloc o1).alloc o2).heap[w.heap.size+1]?=some o2:=by
 have:=blk_new (w.alloc o1) o2
 rwa [nblk_alloc] at this
theorem filter_pos {α:Type} (p:α→Bool) {l:List α} {k:Nat} (hk:k<l.length) (h:p l[k]=true):(l.take k).filter p ++ [l[k]]=(l.take (k+1)).filter p:=by
 rw [List.take_succ_eq_append_getElem hk,List.filter_append,List.filter_cons_of_pos h,List.filter_nil]
theorem filter_neg {α:Type} (p:α→Bool) {l:List α} {k:Nat} (hk:k<l.length) (h:¬ p l[k]=true):(l.take k).filter p=(l.take (k+1)).filter p:=by
 rw [List.take_succ_eq_append_getElem hk,List.filter_append,List.filter_cons_of_neg h,List.filter_nil,List.append_nil]
structure ExtW (w : World) where
  w':World
  h:Ext w w'
instance (w : World) : Nonempty (ExtW w) := ⟨⟨w, Ext.refl w⟩⟩
theorem wp_region_ext {P:Program} {id:Nat} {Q:Exit→Act→World→Prop} {a:Act} {w:World} {l:List Oper} (hm:P.follows .mixedOrders=true) (hB:Region.lexB .any l.toArray=true)
  (h:wpQuiet P l.toArray (fun w1=>∃ x:ExtW w,w1=x.w') (fun a'=>∀ w1,(∃ x:ExtW w,w1=x.w')→Q .normal a' w1) l a):(Code.region id l.toArray true).wp P Q a w:=
 wp_region_quiet (C:=fun w1=>∃ x:ExtW w,w1=x.w') hm hB ⟨⟨_,(Ext.refl w).drew⟩,rfl⟩ (by simpa using h)
theorem Calls.ext_of {P:Program} {f:FuncId} {args:Array Value} {w:World} {x:ExtW w} {v:Value}
  (h:Calls P f args x.w' fun e w1=>e=.returned v∧Ext x.w' w1):Calls P f args x.w' fun e w1=>e=.returned v∧∃ y:ExtW w,w1=y.w':=
 h.mono fun _ w1 ⟨he,hx⟩=>⟨he,⟨w1,x.h.trans hx⟩,rfl⟩
theorem Calls.ext_same {P:Program} {f:FuncId} {args:Array Value} {w:World} {x:ExtW w} {v:Value}
  (h:Calls P f args x.w' fun e w1=>e=.returned v∧x.w'=w1):Calls P f args x.w' fun e w1=>e=.returned v∧∃ y:ExtW w,w1=y.w':=
 h.mono fun _ _ ⟨he,hx⟩=>⟨he,x,hx.symm⟩
theorem ExtW.cell {w:World} {p:Addr} {v:Value} (h:w.cell? p=some v):∀ x:ExtW w,x.w'.cell? p=some v:=fun x=>x.h.cell h
theorem ExtW.c2 {w:World} {p0 p1:Addr} {v0 v1:Value} (h:w.cell? p0=some v0∧w.cell? p1=some v1):(∀ x:ExtW w,x.w'.cell? p0=some v0)∧(∀ x:ExtW w,x.w'.cell? p1=some v1):=⟨ExtW.cell h.1,ExtW.cell h.2⟩
theorem ExtW.c3 {w:World} {p0 p1 p2:Addr} {v0 v1 v2:Value} (h:w.cell? p0=some v0∧w.cell? p1=some v1∧w.cell? p2=some v2):(∀ x:ExtW w,x.w'.cell? p0=some v0)∧(∀ x:ExtW w,x.w'.cell? p1=some v1)∧(∀ x:ExtW w,x.w'.cell? p2=some v2):=⟨ExtW.cell h.1,ExtW.cell h.2.1,ExtW.cell h.2.2⟩
theorem ExtW.c4 {w:World} {p0 p1 p2 p3:Addr} {v0 v1 v2 v3:Value} (h:w.cell? p0=some v0∧w.cell? p1=some v1∧w.cell? p2=some v2∧w.cell? p3=some v3):(∀ x:ExtW w,x.w'.cell? p0=some v0)∧(∀ x:ExtW w,x.w'.cell? p1=some v1)∧(∀ x:ExtW w,x.w'.cell? p2=some v2)∧(∀ x:ExtW w,x.w'.cell? p3=some v3):=⟨ExtW.cell h.1,ExtW.cell h.2.1,ExtW.cell h.2.2.1,ExtW.cell h.2.2.2⟩
theorem ExtW.c5 {w:World} {p0 p1 p2 p3 p4:Addr} {v0 v1 v2 v3 v4:Value} (h:w.cell? p0=some v0∧w.cell? p1=some v1∧w.cell? p2=some v2∧w.cell? p3=some v3∧w.cell? p4=some v4):(∀ x:ExtW w,x.w'.cell? p0=some v0)∧(∀ x:ExtW w,x.w'.cell? p1=some v1)∧(∀ x:ExtW w,x.w'.cell? p2=some v2)∧(∀ x:ExtW w,x.w'.cell? p3=some v3)∧(∀ x:ExtW w,x.w'.cell? p4=some v4):=⟨ExtW.cell h.1,ExtW.cell h.2.1,ExtW.cell h.2.2.1,ExtW.cell h.2.2.2.1,ExtW.cell h.2.2.2.2⟩
theorem ExtW.c10 {w:World} {p0 p1 p2 p3 p4 p5 p6 p7 p8 p9:Addr} {v0 v1 v2 v3 v4 v5 v6 v7 v8 v9:Value} (h:w.cell? p0=some v0∧w.cell? p1=some v1∧w.cell? p2=some v2∧w.cell? p3=some v3∧w.cell? p4=some v4∧w.cell? p5=some v5∧w.cell? p6=some v6∧w.cell? p7=some v7∧w.cell? p8=some v8∧w.cell? p9=some v9):(∀ x:ExtW w,x.w'.cell? p0=some v0)∧(∀ x:ExtW w,x.w'.cell? p1=some v1)∧(∀ x:ExtW w,x.w'.cell? p2=some v2)∧(∀ x:ExtW w,x.w'.cell? p3=some v3)∧(∀ x:ExtW w,x.w'.cell? p4=some v4)∧(∀ x:ExtW w,x.w'.cell? p5=some v5)∧(∀ x:ExtW w,x.w'.cell? p6=some v6)∧(∀ x:ExtW w,x.w'.cell? p7=some v7)∧(∀ x:ExtW w,x.w'.cell? p8=some v8)∧(∀ x:ExtW w,x.w'.cell? p9=some v9):=⟨ExtW.cell h.1,ExtW.cell h.2.1,ExtW.cell h.2.2.1,ExtW.cell h.2.2.2.1,ExtW.cell h.2.2.2.2.1,ExtW.cell h.2.2.2.2.2.1,ExtW.cell h.2.2.2.2.2.2.1,ExtW.cell h.2.2.2.2.2.2.2.1,ExtW.cell h.2.2.2.2.2.2.2.2.1,ExtW.cell h.2.2.2.2.2.2.2.2.2⟩
theorem ExtW.c12 {w:World} {p0 p1 p2 p3 p4 p5 p6 p7 p8 p9 p10 p11:Addr} {v0 v1 v2 v3 v4 v5 v6 v7 v8 v9 v10 v11:Value} (h:w.cell? p0=some v0∧w.cell? p1=some v1∧w.cell? p2=some v2∧w.cell? p3=some v3∧w.cell? p4=some v4∧w.cell? p5=some v5∧w.cell? p6=some v6∧w.cell? p7=some v7∧w.cell? p8=some v8∧w.cell? p9=some v9∧w.cell? p10=some v10∧w.cell? p11=some v11):(∀ x:ExtW w,x.w'.cell? p0=some v0)∧(∀ x:ExtW w,x.w'.cell? p1=some v1)∧(∀ x:ExtW w,x.w'.cell? p2=some v2)∧(∀ x:ExtW w,x.w'.cell? p3=some v3)∧(∀ x:ExtW w,x.w'.cell? p4=some v4)∧(∀ x:ExtW w,x.w'.cell? p5=some v5)∧(∀ x:ExtW w,x.w'.cell? p6=some v6)∧(∀ x:ExtW w,x.w'.cell? p7=some v7)∧(∀ x:ExtW w,x.w'.cell? p8=some v8)∧(∀ x:ExtW w,x.w'.cell? p9=some v9)∧(∀ x:ExtW w,x.w'.cell? p10=some v10)∧(∀ x:ExtW w,x.w'.cell? p11=some v11):=⟨ExtW.cell h.1,ExtW.cell h.2.1,ExtW.cell h.2.2.1,ExtW.cell h.2.2.2.1,ExtW.cell h.2.2.2.2.1,ExtW.cell h.2.2.2.2.2.1,ExtW.cell h.2.2.2.2.2.2.1,ExtW.cell h.2.2.2.2.2.2.2.1,ExtW.cell h.2.2.2.2.2.2.2.2.1,ExtW.cell h.2.2.2.2.2.2.2.2.2.1,ExtW.cell h.2.2.2.2.2.2.2.2.2.2.1,ExtW.cell h.2.2.2.2.2.2.2.2.2.2.2⟩
def intF (n:Int):List Value:=[.int .i64 n]
theorem intFlen (n:Int):(intF n).length=1:=rfl
theorem intOne (n:Int):∀ u∈intF n,u.oneCell'=true:=by
 intro u hu;simp only [intF,List.mem_cons,List.not_mem_nil,or_false] at hu;rw [hu];rfl
theorem ints_rep {base:Nat} {e:TypeId} {w:World} {v:Value} {l:List Int} (h:OwnF intF 1 base e w v l):RdS Rep.int w v l:=OwnF.rd (hf:=intFlen) h
theorem ints_at {w:World} {o:Option Addr} {m cap:Nat} {l:List Int} (h:RdS Rep.int w (.slice o m cap) l) (k:Nat) (hk:k<l.length) :
  ∃ b off,o=some ⟨b,off,none⟩∧w.cell? ⟨b,off+k,none⟩=some (.int .i64 l[k]):=by
 obtain⟨b,off,ho,hc⟩:=RdS.at_flat h k hk;exact⟨b,off,ho,by simpa using hc 0 _ rfl⟩
theorem ints_own_at {base:Nat} {e:TypeId} {w:World} {g m cap:Nat} {l:List Int} (h:OwnF intF 1 base e w (.slice (some ⟨g,0,none⟩) m cap) l) (k:Nat) (hk:k<l.length) :
  w.cell? ⟨g,k,none⟩=some (.int .i64 l[k]):=by
 have hc:=OwnF.cells_flat intFlen h k hk
 simpa using hc 0 _ rfl
theorem Tryz.infoInt:(Tryz.prog.info? 3).map (fun i=>(i.zero,i.size,i.bytes))=some (some (.int .i64 0),1,8):=by kernel_rfl
theorem elemInt:Nonempty (Elem Tryz.prog 33 3 1 8):=Elem.mk' Tryz.underlying33 Tryz.infoInt rfl (by decide)
theorem blk_set {w:World} {b:Nat} {arr:Array Value} {t:TypeId} {f:Nat×Nat} (h:w.heap[b]?=some (.cells arr t f)) (o:Nat) (v:Value):(w.setCell ⟨b,o,none⟩ v).heap[b]?=some (.cells (arr.setIfInBounds o v) t f):=by
 simp [World.setCell,Array.getElem?_modify,h]
theorem blk_set_ne {w:World} {b b':Nat} {ob:Obj} (h:w.heap[b]?=some ob) (hne:b'≠b) (o:Nat) (v:Value):(w.setCell ⟨b',o,none⟩ v).heap[b]?=some ob:=by
 simp [World.setCell,Array.getElem?_modify,hne,h]
theorem fr_of {w:World} {b:Nat} {arr:Array Value} {t:TypeId} (h:w.heap[b]?=some (.cells arr t (0,0))):∀ o,w.frozen? ⟨b,o,none⟩=false:=fun o=>blk_frozen h o
theorem al2 (w:World) (o1 o2:Obj):((w.alloc o1).alloc o2).heap[w.heap.size]?=some o1∧((w.alloc o1).alloc o2).heap[w.heap.size+1]?=some o2:=
 ⟨Ext.block ((Ext.refl _).alloc o2) (blk_new w o1),blk_new2 w o1 o2⟩
theorem al3 (w:World) (o1 o2 o3:Obj):(((w.alloc o1).alloc o2).alloc o3).heap[w.heap.size]?=some o1∧(((w.alloc o1).alloc o2).alloc o3).heap[w.heap.size+1]?=some o2∧(((w.alloc o1).alloc o2).alloc o3).heap[w.heap.size+1+1]?=some o3:=by
 have h:=al2 w o1 o2;refine⟨Ext.block ((Ext.refl _).alloc o3) h.1,Ext.block ((Ext.refl _).alloc o3) h.2,?_⟩;have:=blk_new ((w.alloc o1).alloc o2) o3
 rwa [nblk_alloc,nblk_alloc] at this
theorem ext3 (w:World) (o1 o2 o3:Obj):Ext w (((w.alloc o1).alloc o2).alloc o3):=(((Ext.refl w).alloc o1).alloc o2).alloc o3
theorem ext2 (w:World) (o1 o2:Obj):Ext w ((w.alloc o1).alloc o2):=((Ext.refl w).alloc o1).alloc o2
theorem fr2 {w:World} {b:Nat} {arr:Array Value} {t:TypeId} (h:w.heap[b]?=some (.cells arr t (0,0))):w.frozen? ⟨b,0,none⟩=false∧w.frozen? ⟨b,1,none⟩=false:=⟨fr_of h 0,fr_of h 1⟩
theorem fr3 {w:World} {b:Nat} {arr:Array Value} {t:TypeId} (h:w.heap[b]?=some (.cells arr t (0,0))):w.frozen? ⟨b,0,none⟩=false∧w.frozen? ⟨b,1,none⟩=false∧w.frozen? ⟨b,2,none⟩=false:=⟨fr_of h 0,fr_of h 1,fr_of h 2⟩
theorem fr4 {w:World} {b:Nat} {arr:Array Value} {t:TypeId} (h:w.heap[b]?=some (.cells arr t (0,0))):w.frozen? ⟨b,0,none⟩=false∧w.frozen? ⟨b,1,none⟩=false∧w.frozen? ⟨b,2,none⟩=false∧w.frozen? ⟨b,3,none⟩=false:=⟨fr_of h 0,fr_of h 1,fr_of h 2,fr_of h 3⟩
theorem fr5 {w:World} {b:Nat} {arr:Array Value} {t:TypeId} (h:w.heap[b]?=some (.cells arr t (0,0))):w.frozen? ⟨b,0,none⟩=false∧w.frozen? ⟨b,1,none⟩=false∧w.frozen? ⟨b,2,none⟩=false∧w.frozen? ⟨b,3,none⟩=false∧w.frozen? ⟨b,4,none⟩=false:=⟨fr_of h 0,fr_of h 1,fr_of h 2,fr_of h 3,fr_of h 4⟩
theorem fr10 {w:World} {b:Nat} {arr:Array Value} {t:TypeId} (h:w.heap[b]?=some (.cells arr t (0,0))):w.frozen? ⟨b,0,none⟩=false∧w.frozen? ⟨b,1,none⟩=false∧w.frozen? ⟨b,2,none⟩=false∧w.frozen? ⟨b,3,none⟩=false∧w.frozen? ⟨b,4,none⟩=false∧w.frozen? ⟨b,5,none⟩=false∧w.frozen? ⟨b,6,none⟩=false∧w.frozen? ⟨b,7,none⟩=false∧w.frozen? ⟨b,8,none⟩=false∧w.frozen? ⟨b,9,none⟩=false:=⟨fr_of h 0,fr_of h 1,fr_of h 2,fr_of h 3,fr_of h 4,fr_of h 5,fr_of h 6,fr_of h 7,fr_of h 8,fr_of h 9⟩
theorem fr12 {w:World} {b:Nat} {arr:Array Value} {t:TypeId} (h:w.heap[b]?=some (.cells arr t (0,0))):w.frozen? ⟨b,0,none⟩=false∧w.frozen? ⟨b,1,none⟩=false∧w.frozen? ⟨b,2,none⟩=false∧w.frozen? ⟨b,3,none⟩=false∧w.frozen? ⟨b,4,none⟩=false∧w.frozen? ⟨b,5,none⟩=false∧w.frozen? ⟨b,6,none⟩=false∧w.frozen? ⟨b,7,none⟩=false∧w.frozen? ⟨b,8,none⟩=false∧w.frozen? ⟨b,9,none⟩=false∧w.frozen? ⟨b,10,none⟩=false∧w.frozen? ⟨b,11,none⟩=false:=⟨fr_of h 0,fr_of h 1,fr_of h 2,fr_of h 3,fr_of h 4,fr_of h 5,fr_of h 6,fr_of h 7,fr_of h 8,fr_of h 9,fr_of h 10,fr_of h 11⟩
theorem ea1 (w:World) (o:Obj):Ext w (w.alloc o)∧(w.alloc o).heap[w.heap.size]?=some o:=⟨(Ext.refl _).alloc _,blk_new w o⟩
theorem ea2 (w:World) (o1 o2:Obj):Ext w ((w.alloc o1).alloc o2)∧((w.alloc o1).alloc o2).heap[w.heap.size]?=some o1∧((w.alloc o1).alloc o2).heap[w.heap.size+1]?=some o2:=⟨ext2 w o1 o2,al2 w o1 o2⟩
theorem ea3 (w:World) (o1 o2 o3:Obj):Ext w (((w.alloc o1).alloc o2).alloc o3)∧(((w.alloc o1).alloc o2).alloc o3).heap[w.heap.size]?=some o1∧(((w.alloc o1).alloc o2).alloc o3).heap[w.heap.size+1]?=some o2∧(((w.alloc o1).alloc o2).alloc o3).heap[w.heap.size+1+1]?=some o3:=⟨ext3 w o1 o2 o3,al3 w o1 o2 o3⟩
theorem OwnF.set {α:Type} {n:Nat} {f:α→List Value} {base:Nat} {e:TypeId} {w:World} {v:Value} {l:List α} (h:OwnF f n base e w v l) {p:Addr} (hp:p.block<base) (u:Value):OwnF f n base e (w.setCell p u) v l:=by
 obtain⟨h1,h2⟩:=h;refine⟨h1,?_⟩
 rcases h2 with h2 | ⟨g,cap,cur,hv,hb,hg,r⟩
 ·
  exact .inl h2
 refine .inr ⟨g,cap,cur,hv,hb,?_,r⟩;obtain⟨pb,po,ps⟩:=p;have hne:pb≠g:=by simp only at hp;omega
 simp [World.setCell,Array.getElem?_modify,hne,hg]
theorem blk_set3 {w:World} {b:Nat} {x0 x1 x2:Value} {t:TypeId} {f:Nat×Nat} (h:w.heap[b]?=some (.cells #[x0,x1,x2] t f)) (y0 y1 y2:Value) :
  (((w.setCell ⟨b,0,none⟩ y0).setCell ⟨b,1,none⟩ y1).setCell ⟨b,2,none⟩ y2).heap[b]?=some (.cells #[y0,y1,y2] t f):=by
 have:=blk_set (blk_set (blk_set h 0 y0) 1 y1) 2 y2
 simpa using this
theorem ext_set3 {a w:World} (h:Ext a w) {b:Nat} (hb:a.heap.size≤b) (y0 y1 y2:Value):Ext a (((w.setCell ⟨b,0,none⟩ y0).setCell ⟨b,1,none⟩ y1).setCell ⟨b,2,none⟩ y2):=
 ((h.setCell hb _).setCell hb _).setCell hb _
theorem OwnF.ne {α:Type} {n:Nat} {f:α→List Value} {base:Nat} {e:TypeId} {w:World} {v:Value} {l:List α} (h:OwnF f n base e w v l) {b:Nat} {cs:Array Value} {t:TypeId} {fr:Nat×Nat} (hb:w.heap[b]?=some (.cells cs t fr)) (hne:e≠t):v.ownBlock≠some b:=by
 rcases h.2 with ⟨rfl,_⟩ | ⟨g',cap,cur,rfl,_,hh,_⟩
 ·
  simp [Value.ownBlock]
 intro he;have:g'=b:=by simpa [Value.ownBlock] using he
 subst this;rw [hh] at hb
 injection hb with hb
 injection hb with _ ht
 exact hne ht
theorem own_ne {α:Type} {n:Nat} {f:α→List Value} {base:Nat} {e:TypeId} {w:World} {v:Value} {l:List α} {b:Nat} {cs:Array Value} {t:TypeId} {fr:Nat×Nat} (h:OwnF f n base e w v l) (hb:w.heap[b]?=some (.cells cs t fr)) (hne:e≠t) {w':World} (hg:w.grownBy w' v.ownBlock):w'.heap[b]?=some (.cells cs t fr):=
 (hg.block b (blk_lt hb) (fun e=>h.ne hb hne e.symm)).trans hb
theorem OwnF.keptT {α β:Type} {n m:Nat} {f:α→List Value} {f':β→List Value} {base base':Nat} {e e':TypeId} {w w':World} {v v':Value} {l:List α} {l':List β} (h':OwnF f' m base' e' w v' l') (h:OwnF f n base e w v l) (hne:e≠e') (hg:w.grownBy w' v.ownBlock):OwnF f' m base' e' w' v' l':=by
 obtain⟨h1,h2⟩:=h';refine⟨h1,?_⟩
 rcases h2 with h2 | ⟨g,cap,cur,rfl,hb,hg',r⟩
 ·
  exact .inl h2
 exact .inr ⟨g,cap,cur,rfl,hb,own_ne h hg' hne hg,r⟩
theorem OwnF.trim {α:Type} {n:Nat} {f:α→List Value} (hf:∀ a,(f a).length=n) {base:Nat} {e:TypeId} {w:World} {g m cap:Nat} {l:List α} (h:OwnF f n base e w (.slice (some ⟨g,0,none⟩) m cap) l) (k:Nat) (hk:k≤l.length):OwnF f n base e w (.slice (some ⟨g,0,none⟩) k cap) (l.take k):=by
 obtain rfl:=h.len;obtain⟨h1,h2⟩:=h;have hl:(l.take k).length=k:=by simp;omega
 refine⟨by rw [flatMap_len hf],?_⟩
 rcases h2 with ⟨h2,_⟩ | ⟨g',cap',cur,hv,hb,hg,hc1,hc2,hc3,ht⟩
 ·
  cases h2
 cases hv
 refine .inr ⟨g,cap,cur,by rw [hl],hb,hg,by rw [hl];omega,hc2,hc3,?_⟩
 have e1:(l.take k).flatMap f=(l.flatMap f).take (k * n):=by
  have h3:l.flatMap f=(l.take k).flatMap f ++ (l.drop k).flatMap f:=by rw [← List.flatMap_append,List.take_append_drop]
  rw [h3,List.take_left' (by rw [flatMap_len hf,hl])]
 rw [e1,hl,← ht,List.take_take,Nat.min_eq_left (Nat.mul_le_mul_right _ hk)]
structure Chg (S : Nat → Prop) (w w' : World) : Prop where
  os:w'.os=w.os
  tape:w'.tape=w.tape
  output:w'.output=w.output
  size:w.heap.size≤w'.heap.size
  block:∀ k,k<w.heap.size→¬ S k→w'.heap[k]?=w.heap[k]?
def noB:Nat→Prop:=fun _=>False
def rng (lo hi:Nat):Nat→Prop:=fun b=>lo≤b∧b<hi
theorem Chg.refl (S:Nat→Prop) (w:World):Chg S w w:=⟨rfl,rfl,rfl,Nat.le_refl _,fun _ _ _=>rfl⟩
theorem Chg.trans {S:Nat→Prop} {a b c:World} (h:Chg S a b) (k:Chg S b c):Chg S a c:=
 ⟨k.os.trans h.os,k.tape.trans h.tape,k.output.trans h.output,Nat.le_trans h.size k.size,fun i hi hn=>(k.block i (Nat.lt_of_lt_of_le hi h.size) hn).trans (h.block i hi hn)⟩
theorem Chg.t {S:Nat→Prop} {a b c:World} (h:Chg S a b) (k:Chg S b c):Chg S a c:=h.trans k
theorem Chg.mono {S T:Nat→Prop} {a b:World} (h:Chg S a b) (hs:∀ k,S k→T k):Chg T a b:=⟨h.os,h.tape,h.output,h.size,fun i hi hn=>h.block i hi (fun hk=>hn (hs i hk))⟩
theorem Chg.ofExt {S:Nat→Prop} {a b:World} (h:Ext a b):Chg S a b:=⟨h.below.os,h.below.tape,h.below.output,h.size,fun i hi _=>h.below.block i hi⟩
theorem Chg.ofGrown {S:Nat→Prop} {a b:World} {row:Option Nat} (h:a.grownBy b row) (hs:∀ k,row=some k→S k):Chg S a b:=
 ⟨h.os,h.tape,h.output,h.size,fun i hi hn=>h.block i hi (fun e=>hn (hs i e.symm))⟩
theorem Ext.chg {S:Nat→Prop} {a b c:World} (h:Ext a b) (k:Chg S b c) (hs:∀ i,S i→a.heap.size≤i):Ext a c:=
 ⟨k.os.trans h.below.os, k.tape.trans h.below.tape, k.output.trans h.below.output, Nat.le_trans h.size k.size,
  fun i hi => (k.block i (Nat.lt_of_lt_of_le hi h.size) (fun hk => by have := hs i hk; omega)).trans (h.below.block i hi)⟩
theorem OwnF.to0 {α:Type} {n:Nat} {f:α→List Value} {base:Nat} {e:TypeId} {w:World} {v:Value} {l:List α} (h:OwnF f n base e w v l):OwnF f n 0 e w v l:=h.mono (Nat.zero_le _)
theorem OwnF.chg {α:Type} {n:Nat} {f:α→List Value} {base:Nat} {e:TypeId} {w w':World} {v:Value} {l:List α} {S:Nat→Prop} (h:OwnF f n base e w v l) (c:Chg S w w') (hs:∀ k,v.ownBlock=some k→¬ S k):OwnF f n base e w' v l:=by
 obtain⟨h1,h2⟩:=h;refine⟨h1,?_⟩
 rcases h2 with h2 | ⟨g,cap,cur,rfl,hb,hg,r⟩
 ·
  exact .inl h2
 exact .inr ⟨g,cap,cur,rfl,hb,(c.block g (blk_lt hg) (hs g rfl)).trans hg,r⟩
structure Own (α : Type) where
  rep:Rep α
  own:(Nat→Prop)→World→Value→List α→Prop
  rd:∀ {S:Nat→Prop} {w:World} {v:Value} {l:List α},own S w v l→RdS rep w v l
  mono:∀ {S T:Nat→Prop} {w:World} {v:Value} {l:List α},own S w v l→(∀ b,S b→T b)→own T w v l
  kept:∀ {S T:Nat→Prop} {w w':World} {v:Value} {l:List α},own S w v l→Chg T w w'→(∀ b,S b→¬ T b)→own S w' v l
  nil:∀ (w:World),own noB w (.slice none 0 0) []
  inb:∀ {S:Nat→Prop} {w:World} {v:Value} {l:List α},own S w v l→own (fun b=>S b∧b<w.heap.size) w v l
theorem Own.ext {α:Type} {O:Own α} {S:Nat→Prop} {w w':World} {v:Value} {l:List α} (h:O.own S w v l) (x:Ext w w'):O.own S w' v l:=
 O.kept h (Chg.ofExt (S:=noB) x) (fun _ _ h=>h)
def Own.flat {α:Type} (f:α→List Value) (n:Nat) (hf:∀ a,(f a).length=n) (e:TypeId):Own α where
  rep:=Rep.flat n f hf
  own S w v l:=OwnF f n 0 e w v l∧∀ k,v.ownBlock=some k→S k
  rd h:=OwnF.rd h.1
  mono h hs:=⟨h.1,fun k hk=>hs k (h.2 k hk)⟩
  kept h c hs:=⟨h.1.chg c (fun k hk=>hs k (h.2 k hk)),h.2⟩
  nil w:=⟨OwnF.nil _ _ _ _ _,(fun k hk=>by simp [Value.ownBlock] at hk)⟩
  inb h:=⟨h.1,fun k hk=>⟨h.2 k hk,(h.1.block k hk).2⟩⟩
theorem Own.ofF {α:Type} {f:α→List Value} {n:Nat} {hf:∀ a,(f a).length=n} {e:TypeId} {base:Nat} {w:World} {v:Value} {l:List α} (h:OwnF f n base e w v l):(Own.flat f n hf e).own (rng base w.heap.size) w v l:=
 ⟨h.to0,fun k hk=>h.block k hk⟩
structure Cap (α : Type) where
  dat:α
  val:Value
  set:Nat→Prop
def capF {α:Type} (c:α→Value→List Value) (q:Cap α):List Value:=c q.dat q.val
def Own.nest {α β:Type} (n:Nat) (c:α→Value→List Value) (hc:∀ a v,(c a v).length=n) (sub:α→List β) (e:TypeId) (I:Own β):Own α where
  rep := { cells := n
           rd := fun w cs a => ∃ v, cs = c a v ∧ RdS I.rep w v (sub a)
           len := by rintro w cs a ⟨v, rfl, _⟩; exact hc _ _
           ext := by rintro w w' cs a x ⟨v, rfl, h⟩; exact ⟨v, rfl, h.ext x⟩ }
  own S w v l:=∃ qs:List (Cap α),qs.map (·.dat)=l∧OwnF (capF c) n 0 e w v qs∧(∀ k,v.ownBlock=some k→S k) ∧
    (∀ q∈qs,I.own q.set w q.val (sub q.dat)∧∀ b,q.set b→S b∧v.ownBlock≠some b∧b<w.heap.size) ∧
    ∀ (i j:Nat) (hi:i<qs.length) (hj:j<qs.length),i≠j→∀ b,qs[i].set b→¬ qs[j].set b
  rd:=by
    rintro S w v l ⟨qs,rfl,ho,_,hq,_⟩;obtain⟨o,cap,rfl,h1,h2,h3,h4⟩:=OwnF.rd (hf:=fun q:Cap α=>hc q.dat q.val) ho;refine⟨o,cap,by simp,by simpa using h1,h2,h3,fun i hi=>?_⟩;have hi':i<qs.length:=by simpa using hi
    obtain⟨b,off,cs,e1,e2,e3⟩:=h4 i hi';refine⟨b,off,cs,e1,e2,?_⟩
    cases e3
    exact⟨qs[i].val,by simp,by simpa using I.rd (hq qs[i] (List.getElem_mem _)).1⟩
  mono:=by
    rintro S T w v l ⟨qs,rfl,ho,h1,hq,hd⟩ hs;exact⟨qs,rfl,ho,fun k hk=>hs k (h1 k hk),fun q h=>⟨(hq q h).1,fun b hb=>⟨hs b ((hq q h).2 b hb).1,((hq q h).2 b hb).2⟩⟩,hd⟩
  kept:=by
    rintro S T w w' v l ⟨qs,rfl,ho,h1,hq,hd⟩ c hs;refine⟨qs,rfl,ho.chg c (fun k hk=>hs k (h1 k hk)),h1,fun q h=>⟨I.kept (hq q h).1 c (fun b hb=>hs b ((hq q h).2 b hb).1),fun b hb=>?_⟩,hd⟩;obtain⟨x,y,z⟩:=(hq q h).2 b hb;exact⟨x,y,Nat.lt_of_lt_of_le z c.size⟩
  nil w:=⟨[],rfl,OwnF.nil _ _ _ _ _,(fun k hk=>by simp [Value.ownBlock] at hk),(fun q h=>by cases h),(fun i j hi=>by cases hi)⟩
  inb:=by
    rintro S w v l ⟨qs,rfl,ho,h1,hq,hd⟩;refine⟨qs,rfl,ho,fun k hk=>⟨h1 k hk,(ho.block k hk).2⟩,fun q h=>⟨(hq q h).1,fun b hb=>?_⟩,hd⟩;obtain⟨x,y,z⟩:=(hq q h).2 b hb;exact⟨⟨x,z⟩,y,z⟩
section
variable {α β : Type} {n : Nat} {c : α → Value → List Value} {hc : ∀ a v, (c a v).length = n} {sub : α → List β} {e : TypeId} {I : Own β}
theorem nest_shape {S:Nat→Prop} {w:World} {v:Value} {l:List α} (h:(Own.nest n c hc sub e I).own S w v l) (hl:0<l.length):∃ g cap,v=.slice (some ⟨g,0,none⟩) l.length cap∧S g∧g<w.heap.size:=by
 obtain⟨qs,rfl,ho,hs,_⟩:=h;obtain⟨g,cap,rfl,_,hg⟩:=ho.some_shape (by simpa using hl);exact⟨g,cap,by simp,hs g rfl,hg⟩
theorem nest_free {S:Nat→Prop} {w:World} {g m cap:Nat} {l:List α} (h:(Own.nest n c hc sub e I).own S w (.slice (some ⟨g,0,none⟩) m cap) l) (j:Nat):w.frozen? ⟨g,j,none⟩=false:=by
 obtain⟨qs,rfl,ho,_⟩:=h;exact ho.free j
theorem nest_at {S:Nat→Prop} {w:World} {g m cap:Nat} {l:List α} (h:(Own.nest n c hc sub e I).own S w (.slice (some ⟨g,0,none⟩) m cap) l) (k:Nat) (hk:k<l.length) :
  ∃ (hv:Value) (T:Nat→Prop),(∀ j u,(c l[k] hv)[j]?=some u→w.cell? ⟨g,k * n+j,none⟩=some u)∧I.own T w hv (sub l[k])∧(∀ b,T b→S b∧b≠g∧b<w.heap.size) ∧
   (∀ (w':World) (x:α),Chg T w w'→I.own T w' hv (sub x)→c x hv=c l[k] hv→(Own.nest n c hc sub e I).own S w' (.slice (some ⟨g,0,none⟩) m cap) (l.set k x)):=by
 obtain⟨qs,rfl,ho,hS,hq,hd⟩:=h;have hk':k<qs.length:=by simpa using hk
 have hcell:=OwnF.cells_flat (fun q:Cap α=>hc q.dat q.val) ho k hk';obtain⟨hi,hb⟩:=hq qs[k] (List.getElem_mem _);refine⟨qs[k].val,qs[k].set,by simpa [capF] using hcell,by simpa using hi,fun b h=>⟨(hb b h).1,fun e=>(hb b h).2.1 (by rw [e];rfl),(hb b h).2.2⟩,fun w' x hch hown hcx=>?_⟩
 have hqs:(qs.set k ⟨x,qs[k].val,qs[k].set⟩).flatMap (capF c)=qs.flatMap (capF c):=by
  have h1:capF c ⟨x,qs[k].val,qs[k].set⟩=capF c qs[k]:=by simpa [capF] using hcx
  have h2:∀ (qs:List (Cap α)) (k:Nat) (hk:k<qs.length) (y:Cap α),capF c y=capF c qs[k]→(qs.set k y).flatMap (capF c)=qs.flatMap (capF c):=by
   intro qs
   induction qs with
   | nil => intro k hk; cases hk
   | cons a qs ih =>
    intro k hk y hy
    cases k with
    | zero => simp only [List.set_cons_zero, List.flatMap_cons, List.getElem_cons_zero] at hy ⊢; rw [hy]
    | succ k => simp only [List.set_cons_succ, List.flatMap_cons, List.getElem_cons_succ] at hy ⊢; rw [ih k (by simpa using hk) y hy]
  exact h2 qs k hk' _ h1
 have ho':OwnF (capF c) n 0 e w' (.slice (some ⟨g,0,none⟩) m cap) (qs.set k ⟨x,qs[k].val,qs[k].set⟩):=by
  have:=ho.chg hch (fun b hb' hT=>(hb b hT).2.1 hb');unfold OwnF at this ⊢
  rw [hqs,List.length_set];exact this
 refine⟨qs.set k ⟨x,qs[k].val,qs[k].set⟩,by simp [List.map_set],ho',hS,fun q hqm=>?_,fun i j hi hj hne b hbi=>?_⟩
 ·
  obtain⟨i,hi,rfl⟩:=List.getElem_of_mem hqm;rw [List.getElem_set]
  by_cases hki:k=i
  ·
   subst hki;simp only [if_pos];exact⟨hown,fun b hbb=>⟨(hb b hbb).1,(hb b hbb).2.1,Nat.lt_of_lt_of_le (hb b hbb).2.2 hch.size⟩⟩
  rw [if_neg hki];have hi':i<qs.length:=by simpa using hi
  obtain⟨a1,a2⟩:=hq qs[i] (List.getElem_mem _);refine⟨I.kept a1 hch (fun b hbb=>hd i k hi' hk' (fun e=>hki e.symm) b hbb),fun b hbb=>?_⟩;obtain⟨x1,x2,x3⟩:=a2 b hbb;exact⟨x1,x2,Nat.lt_of_lt_of_le x3 hch.size⟩
 have hi':i<qs.length:=by simpa using hi
 have hj':j<qs.length:=by simpa using hj
 rw [List.getElem_set] at hbi ⊢
 have s1:qs[i].set b:=by
  by_cases e1:k=i
  ·
   subst e1;simpa using hbi
  rw [if_neg e1] at hbi;exact hbi
 have s2:=hd i j hi' hj' hne b s1
 by_cases e2:k=j
 ·
  subst e2;simpa using s2
 rw [if_neg e2];exact s2
theorem nest_push {S S' T:Nat→Prop} {w w1 w2:World} {v v':Value} {l:List α} (qs:List (Cap α)) (x:α) (hv:Value)
  (hl:qs.map (·.dat)=l) (hS:∀ k,v.ownBlock=some k→S k)
  (hq:∀ q∈qs,I.own q.set w q.val (sub q.dat)∧∀ b,q.set b→S b∧v.ownBlock≠some b∧b<w.heap.size)
  (hd:∀ (i j:Nat) (hi:i<qs.length) (hj:j<qs.length),i≠j→∀ b,qs[i].set b→¬ qs[j].set b)
  (hvb:∀ k,v.ownBlock=some k→k<w.heap.size)
  (hx:Ext w w1) (hi:I.own T w1 hv (sub x)) (hT:∀ b,T b→S' b∧w.heap.size≤b∧b<w1.heap.size) (hS':∀ b,S b→S' b) (hg:w1.grownBy w2 v.ownBlock)
  (hat:v'.ownBlock=v.ownBlock∨∃ k,v'.ownBlock=some k∧w1.heap.size≤k∧S' k) (ho:OwnF (capF c) n 0 e w2 v' (qs ++ [⟨x,hv,T⟩])) :
  (Own.nest n c hc sub e I).own S' w2 v' (l ++ [x]):=by
 subst hl;have hch:Chg (fun b=>v.ownBlock=some b) w1 w2:=Chg.ofGrown hg (fun k hk=>hk)
 have hne:∀ b,b<w1.heap.size→v.ownBlock≠some b→v'.ownBlock≠some b:=by
  intro b hb hn
  rcases hat with h1 | ⟨k,h1,h2,_⟩
  ·
   rw [h1];exact hn
  rw [h1];intro e;cases e;omega
 refine⟨qs ++ [⟨x,hv,T⟩],by simp,ho,fun k hk=>?_,fun q hqm=>?_,fun i j hi' hj' hne' b hbi=>?_⟩
 ·
  rcases hat with h1 | ⟨k',h1,h2,h3⟩
  ·
   rw [h1] at hk;exact hS' k (hS k hk)
  rw [h1] at hk;cases hk;exact h3
 ·
  rcases List.mem_append.1 hqm with h1 | h1
  ·
   obtain⟨a1,a2⟩:=hq q h1;refine⟨I.kept (Own.ext a1 hx) hch (fun b hb=>(a2 b hb).2.1),fun b hb=>?_⟩;obtain⟨x1,x2,x3⟩:=a2 b hb;exact⟨hS' b x1,hne b (Nat.lt_of_lt_of_le x3 hx.size) x2,Nat.lt_of_lt_of_le x3 (Nat.le_trans hx.size hch.size)⟩
  obtain rfl:=List.mem_singleton.1 h1;have hnb:∀ b,T b→v.ownBlock≠some b:=fun b hb e=>by have:=hvb b e;have:=hT b hb;omega
  refine⟨I.kept hi hch hnb,fun b hb=>⟨(hT b hb).1,hne b (hT b hb).2.2 (hnb b hb),Nat.lt_of_lt_of_le (hT b hb).2.2 hch.size⟩⟩
 simp only [List.length_append,List.length_singleton] at hi' hj'
 rcases Nat.lt_or_ge i qs.length with e1 | e1
 ·
  rw [List.getElem_append_left e1] at hbi
  rcases Nat.lt_or_ge j qs.length with e2 | e2
  ·
   rw [List.getElem_append_left e2];exact hd i j e1 e2 hne' b hbi
  rw [List.getElem_append_right e2];have:j - qs.length=0:=by omega
  simp only [this,List.getElem_cons_zero];intro h3;have:=((hq qs[i] (List.getElem_mem _)).2 b hbi).2.2;have:=hT b h3;omega
 rw [List.getElem_append_right e1] at hbi;have h0:i - qs.length=0:=by omega
 simp only [h0,List.getElem_cons_zero] at hbi;have e2:j<qs.length:=by omega
 rw [List.getElem_append_left e2];intro h3;have:=((hq qs[j] (List.getElem_mem _)).2 b h3).2.2;have:=hT b hbi;omega
end
end
abbrev Aa := @Ext.block
abbrev Ab := @Ext.refl
abbrev Ac := @Lib.hid
abbrev Ad := @Nat.le_trans
abbrev Ae := @Nat.le_refl
abbrev Ah := @ret_bool
abbrev Ai := @Calls.ext_of
abbrev Aj := @Own.ext
abbrev Ak := @Nat.lt_of_lt_of_le
abbrev Al := @wp_region_ext
abbrev Am := @Calls.ext_same
abbrev Ar := @Chg.ofExt
abbrev Au := @blk_list
abbrev Ay := @OwnF.ext
abbrev Bb := @OwnF.rd
abbrev Bd := @ExtW.cell
abbrev Bf := @RdS.shape
abbrev Bj := @OwnF.empty
abbrev Bm := @ExtW.c4
abbrev Bn := @Chg.ofGrown
abbrev Bo := @ints_rep
abbrev Bp := @ExtW.c10
abbrev Bq := @Chg.refl
abbrev Br := @ExtW.c2
abbrev Bt := @blk_cell
abbrev Bv := @ExtW.c5
abbrev By := @Ext.cell
abbrev Cg := @OwnF.emptyAt
end Go.Proofs.YteodlcpeoaggbaaGreat
