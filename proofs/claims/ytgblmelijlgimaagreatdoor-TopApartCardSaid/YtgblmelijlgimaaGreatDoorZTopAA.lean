/- Parts of the proof of TopApart. -/
import Derived.Test.YtgblmelijlgimaaGreatDoorZTop0
import Derived.Test.YtgblmelijlgimaaGreatDoorRows
import Derived.WalkSpells
import Derived.WalkLawsBesides
import Derived.BigQuiet
import Derived.Deep.AppendSrc
import Derived.Deep.OwnRows
import Derived.Deep.RegionWith
set_option maxRecDepth 100000
namespace eK
def enc(p:List UInt8):List UInt8:=UInt8.ofNat p.length::p
end eK
namespace eK
theorem Ei{α:Type}{Q:List α→Prop}(h0:Q [])(h1:∀l c,Q l→Q (l++[c])):∀l,Q l:=by
 intro l;have:∀r:List α,Q r.reverse:=by
  intro r
  induction r with
  | nil=>exact h0
  | cons c r ih=>rw[List.reverse_cons];exact h1 _ _ ih
 rw[←List.reverse_reverse l];exact this _
def be:Nat→Nat→List UInt8
 | 0,_=>[]
 | m+1,n=>be m (n/256)++[UInt8.ofNat (n%256)]
def num(l:List UInt8):Nat:=l.foldl (fun n c=>256*n+c.toNat) 0
theorem fY:∀(m n:Nat),(be m n).length=m
 | 0,_=>rfl
 | m+1,n=>by show(be m (n/256)++_).length=_;rw[List.length_append,fY m];rfl
theorem nS(l:List UInt8)(c:UInt8):num (l++[c])=256*num l+c.toNat:=by unfold num;rw[List.foldl_append];rfl
theorem lK(l:List UInt8):num l<256^l.length:=by
 refine Ei (Q:=fun l=>num l<256^l.length) (by decide) (fun l c ih=>?_) l;rw[nS,List.length_append];show _<256^(l.length+1);rw[Nat.pow_succ];have:=c.toNat_lt;omega
theorem Ou(n:Nat):(UInt8.ofNat (n%256)).toNat=n%256:=by
 rw[UInt8.toNat_ofNat'];omega
theorem qw:∀(m n:Nat),num (be m n)=n%256^m
 | 0,n=>by show 0=_;rw[Nat.pow_zero,Nat.mod_one]
 | m+1,n=>by
  show num (be m (n/256)++_)=_;rw[nS,qw m,Ou,Nat.pow_succ,Nat.mul_comm (256^m) 256,Nat.mod_mul];omega
def bx(m n k:Nat):List UInt8:=(List.range k).map fun j=>UInt8.ofNat (n/2^(8*(m-1-j))%256)
structure E where
 kind:Int
 cQ:Int
 code:Int
 h:Int
 a:Int
 b:Int
 v:Int
 worker:Int
 gV:Int
deriving DecidableEq
structure E.Wf(x:E):Prop where
 RL:0<=x.kind
 RM:x.kind<=255
 PH: -9223372036854775808<=x.cQ
 PI:x.cQ<=9223372036854775807
 Lu:0<=x.code
 Lv:x.code<=255
 h0:0<=x.h
 h1:x.h<=18446744073709551615
 a0: -9223372036854775808<=x.a
 a1:x.a<=9223372036854775807
 b0: -9223372036854775808<=x.b
 b1:x.b<=9223372036854775807
 v0:0<=x.v
 v1:x.v<=18446744073709551615
 PJ: -9223372036854775808<=x.worker
 PK:x.worker<=9223372036854775807
 Ej:0<=x.gV
 Ek:x.gV<=255
def E.zero:E:=⟨0,0,0,0,0,0,0,0,0⟩
def AH(n:Int):Nat:=(n%4294967296).toNat
def sg(n:Nat):Int:=if 2147483648<=n then(n:Int)-4294967296 else n
def four(n:Int):Prop:= -2147483648<=n/\n<2147483648
instance (n:Int):Decidable (four n):=by unfold four;exact inferInstance
theorem El{n:Int}(h:four n):sg (AH n)=n:=by unfold four at h;unfold sg AH;split <;> omega
theorem Em(n:Int):AH n<4294967296:=by unfold AH;omega
theorem yY{n:Nat}(h:n<4294967296):four (sg n):=by unfold sg four;split <;> omega
def lB(x:E):Prop:=x.kind=1/\0<=x.cQ/\x.cQ<256/\x.worker=0/\x.gV=0/\four x.a/\four x.b
instance (x:E):Decidable (lB x):=by unfold lB;exact inferInstance
def isStep(x:E):Prop:=x.kind=2/\0<=x.worker/\x.worker<256/\x.cQ=0/\x.code=0/\x.h=0/\x.a=0/\x.b=0/\x.v=0
instance (x:E):Decidable (isStep x):=by unfold isStep;exact inferInstance
def AI(x:E):List UInt8:=[1,UInt8.ofNat x.cQ.toNat,UInt8.ofNat x.code.toNat]++be 8 x.h.toNat++be 4 (AH x.a)++be 4 (AH x.b)++be 8 x.v.toNat
def En(x:E):List UInt8:=[2,UInt8.ofNat x.worker.toNat,UInt8.ofNat x.gV.toNat]
def xj(x:E):Option (List UInt8):=if lB x then some (AI x) else if isStep x then some (En x) else none
def PL(l:List UInt8):E:=⟨1,(l.getD 1 0).toNat,(l.getD 2 0).toNat,num ((l.drop 3).take 8),sg (num ((l.drop 11).take 4)),sg (num ((l.drop 15).take 4)),num (l.drop 19),0,0⟩
def Eo(l:List UInt8):E:=⟨2,0,0,0,0,0,0,(l.getD 1 0).toNat,(l.getD 2 0).toNat⟩
def iL(l:List UInt8):Option E:=if l.length=3/\l.getD 0 0=2 then some (Eo l) else if l.length=27/\l.getD 0 0=1 then some (PL l) else none
theorem xk(x:E):(AI x).length=27:=by unfold AI;simp[fY]
theorem L6{x:E}(w:x.Wf)(h:lB x):iL (AI x)=some x:=by
 obtain⟨h1,h2,h3,h4,h5,h6,h7⟩:=h;unfold iL;rw[if_neg (by rw[xk];omega),if_pos ⟨xk x,rfl⟩];have d:∀(A:List UInt8) (p q r s:List UInt8),A.length=3→p.length=8→q.length=4→r.length=4→((A++p++q++r++s).drop 3).take 8=p/\((A++p++q++r++s).drop 11).take 4=q/\((A++p++q++r++s).drop 15).take 4=r/\(A++p++q++r++s).drop 19=s:=by
  intro A p q r s hA hp hq hr;refine⟨?_,?_,?_,?_⟩ <;> simp[List.drop_append,List.take_append,hA,hp,hq,hr] <;> simp[List.drop_of_length_le,List.take_of_length_le,hA,hp,hq]
 obtain⟨d1,d2,d3,d4⟩:=d [1,UInt8.ofNat x.cQ.toNat,UInt8.ofNat x.code.toNat] (be 8 x.h.toNat) (be 4 (AH x.a)) (be 4 (AH x.b)) (be 8 x.v.toNat) rfl (fY _ _) (fY _ _) (fY _ _);have g1:(AI x).getD 1 0=UInt8.ofNat x.cQ.toNat:=rfl;have g2:(AI x).getD 2 0=UInt8.ofNat x.code.toNat:=rfl;unfold PL;rw[g1,g2];unfold AI;rw[d1,d2,d3,d4,qw,qw,qw,qw,Nat.mod_eq_of_lt (show AH x.a<256^4 from Em _),Nat.mod_eq_of_lt (show AH x.b<256^4 from Em _),El h6,El h7];have:=w.h0;have:=w.h1;have:=w.v0;have:=w.v1;have:=w.Lu;have:=w.Lv;have e1:((UInt8.ofNat x.cQ.toNat).toNat:Int)=x.cQ:=by rw[UInt8.toNat_ofNat'];omega
 have e2:((UInt8.ofNat x.code.toNat).toNat:Int)=x.code:=by rw[UInt8.toNat_ofNat'];omega
 have e3:((x.h.toNat%256^8:Nat):Int)=x.h:=by omega
 have e4:((x.v.toNat%256^8:Nat):Int)=x.v:=by omega
 rw[e1,e2,e3,e4]
 cases x;simp at h1 h4 h5;subst h1 h4 h5
 rfl
theorem Ep(l:List UInt8):(Eo l).Wf:=by
 have:=(l.getD 1 0).toNat_lt;have:=(l.getD 2 0).toNat_lt;unfold Eo;constructor <;> simp only[] <;> omega
theorem L7(l:List UInt8)(hl:l.length=27):(PL l).Wf:=by
 have:=(l.getD 1 0).toNat_lt;have:=(l.getD 2 0).toNat_lt;have b1:=lK ((l.drop 3).take 8);have b2:=lK ((l.drop 11).take 4);have b3:=lK ((l.drop 15).take 4);have b4:=lK (l.drop 19);rw[show((l.drop 3).take 8).length=8 from by simp;omega] at b1;rw[show((l.drop 11).take 4).length=4 from by simp;omega] at b2;rw[show((l.drop 15).take 4).length=4 from by simp;omega] at b3;rw[show(l.drop 19).length=8 from by simp;omega] at b4;have f2:=yY (n:=num ((l.drop 11).take 4)) b2;have f3:=yY (n:=num ((l.drop 15).take 4)) b3;unfold four at f2 f3;unfold PL;constructor <;> simp only[] <;> omega
theorem Er{l:List UInt8}{y:E}(h:iL l=some y):y.Wf:=by
 unfold iL at h;by_cases h1:l.length=3/\l.getD 0 0=2
 .rw[if_pos h1] at h;injection h with h;subst h;exact Ep l
 .rw[if_neg h1] at h
  by_cases h2:l.length=27/\l.getD 0 0=1
  .rw[if_pos h2] at h;injection h with h;subst h;exact L7 l h2.1
  .rw[if_neg h2] at h;cases h
theorem get_none{l:List UInt8}(h3:l.length≠3)(NY:l.length≠27):iL l=none:=by
 unfold iL;rw[if_neg (fun h=>h3 h.1),if_neg (fun h=>NY h.1)]
end eK
namespace Go.Proofs.YtgblmelijlgimaaGreatDoor
open Go.Proofs.Tryz
open Go.RowKit eK
theorem nU{k:IntKind}{a b:Int}(h:a=b):Ending.returned (.int k a)=ae (.int k b):=by rw[h]
def bs(l:List UInt8):ByteArray:=⟨l.toArray⟩
theorem jy(l:List UInt8):(bs l).size=l.length:=rfl
theorem kN(l:List UInt8)(i j:Nat):(bs l).extract i j=bs ((l.take j).drop i):=by
 unfold bs;apply ByteArray.ext;simp[List.extract_toArray,List.drop_take]
theorem ij(a b:List UInt8):bs a++bs b=bs (a++b):=by
 unfold bs;apply ByteArray.ext;simp
theorem sF{n:Int}(h0: -9223372036854775808<=n)(h1:n<=9223372036854775807):wrap64 n=n:=by unfold wrap64;omega
end Go.Proofs.YtgblmelijlgimaaGreatDoor
namespace Go.bZ
open Go.RowKit
structure cu(S:Nat→Prop)(w w':World):Prop where
 os:w'.os=w.os
 tape:w'.tape=w.tape
 output:w'.output=w.output
 size:w.heap.size<=w'.heap.size
 block:∀k,k<w.heap.size→¬S k→w'.heap[k]?=w.heap[k]?
theorem cu.refl(S:Nat→Prop)(w:World):cu S w w:=⟨rfl,rfl,rfl,av _,fun _ _ _=>rfl⟩
theorem cu.trans{S:Nat→Prop}{a b c:World}(h:cu S a b)(k:cu S b c):cu S a c:=
 ⟨k.os.trans h.os,k.tape.trans h.tape,k.output.trans h.output,aE h.size k.size,fun i hi hs=>(k.block i (aB hi h.size) hs).trans (h.block i hi hs)⟩
theorem cu.mono{S T:Nat→Prop}{a b:World}(h:cu S a b)(hst:∀k,k<a.heap.size→S k→T k):cu T a b:=
 ⟨h.os,h.tape,h.output,h.size,fun i hi ht=>h.block i hi (fun hs=>ht (hst i hi hs))⟩
theorem cu.cD{S:Nat→Prop}{a b:World}(h:Below a.heap.size a b):cu S a b:=⟨h.os,h.tape,h.output,h.size,fun k hk _=>h.block k hk⟩
theorem cu.below{S:Nat→Prop}{B:Nat}{a b:World}(h:cu S a b)(hB:B<=a.heap.size)(hS:∀k,S k→B<=k):Below B a b:=
 ⟨h.os,h.tape,h.output,h.size,fun k hk=>h.block k (aB hk hB) (fun hs=>by have:=hS k hs;omega)⟩
theorem cu.stored{S:Nat→Prop}{a b:World}(h:cu S a b){p:Nat}(hp:S p\/a.heap.size<=p)(i:Nat)(u:Value):cu S a (b.setCell (aj p i) u):=
 ⟨h.os,h.tape,h.output,by simpa using h.size,fun k hk hs=>(Below.heap_setCell b ⟨p,i,none⟩ u k (fun e=>by
  have e':k=p:=e;subst e';rcases hp with hp|hp
  .exact hs hp
  .omega)).trans (h.block k hk hs)⟩
theorem cu.row{S:Nat→Prop}{a b:World}(h:cu S a b){p:Nat}(hp:S p\/a.heap.size<=p)(C:Array Value):cu S a (b.setRow p C):=
 ⟨h.os,h.tape,h.output,by rw[setRow_size];exact h.size,fun k hk hs=>(setRow_other b p k C (fun e=>by
  subst e;rcases hp with hp|hp
  .exact hs hp
  .omega)).trans (h.block k hk hs)⟩
theorem cu.alloc{S:Nat→Prop}{a b:World}(h:cu S a b)(o:Obj):cu S a (b.alloc o):=h.trans (cu.cD ((bV _ _).alloc (av _) o))
theorem cu.drew{S:Nat→Prop}{a b:World}(h:cu S a b):cu S a b.drew:=⟨h.os,h.tape,h.output,h.size,h.block⟩
theorem cu.drewN{S:Nat→Prop}{a b:World}(h:cu S a b)(n:Nat):cu S a (b.drewN n):=⟨h.os,h.tape,h.output,h.size,h.block⟩
def cj(w:World)(b:Nat)(C:Array Value)(t:TypeId):Prop:=w.heap[b]?=some (.cells C t (0,0))
theorem cj.lt{w:World}{b:Nat}{C:Array Value}{t:TypeId}(h:cj w b C t):b<w.heap.size:=by
 rcases Nat.lt_or_ge b w.heap.size with k|k
 .exact k
 .unfold cj at h;rw[Array.getElem?_eq_none k] at h;cases h
theorem cj.bY{S:Nat→Prop}{w w':World}{b:Nat}{C:Array Value}{t:TypeId}(h:cj w b C t)(hc:cu S w w')(hs:¬S b):cj w' b C t:=(hc.block b h.lt hs).trans h
theorem cj.below{B:Nat}{w w':World}{b:Nat}{C:Array Value}{t:TypeId}(h:cj w b C t)(hb:Below B w w')(hB:b<B):cj w' b C t:=(hb.block b hB).trans h
theorem cj.cA{w w':World}{b:Nat}{C:Array Value}{t:TypeId}(h:cj w b C t)(hb:Below w.heap.size w w'):cj w' b C t:=h.below hb h.lt
theorem cj.alloc{w:World}{b:Nat}{C:Array Value}{t:TypeId}(h:cj w b C t)(o:Obj):cj (w.alloc o) b C t:=h.cA ((bV _ _).alloc (av _) o)
theorem cj.new(w:World)(C:Array Value)(t:TypeId):cj (w.alloc (.cells C t)) w.heap.size C t:=heap_alloc_new w _
theorem cj.drew{w:World}{b:Nat}{C:Array Value}{t:TypeId}(h:cj w b C t):cj w.drew b C t:=h
theorem cj.drewN{w:World}{b:Nat}{C:Array Value}{t:TypeId}(h:cj w b C t)(n:Nat):cj (w.drewN n) b C t:=h
theorem cj.other{w:World}{b p:Nat}{C:Array Value}{t:TypeId}(h:cj w b C t)(hp:b≠p)(i:Nat)(u:Value):cj (w.setCell (aj p i) u) b C t:=(Below.heap_setCell w ⟨p,i,none⟩ u b hp).trans h
theorem cj.qy{w:World}{b p:Nat}{C:Array Value}{t:TypeId}(h:cj w b C t)(hp:b≠p)(D:Array Value):cj (w.setRow p D) b C t:=(setRow_other w p b D hp).trans h
theorem cj.cell{w:World}{b:Nat}{C:Array Value}{t:TypeId}(h:cj w b C t)(i:Nat):w.cell? (aj b i)=C[i]?:=cell_of_row w b i C t (0,0) h
theorem cj.cE{w:World}{b:Nat}{C:Array Value}{t:TypeId}(h:cj w b C t)(i:Nat):w.frozen? (aj b i)=false:=by
 unfold cj at h;simp[World.frozen?,h]
theorem cj.set{w:World}{b:Nat}{C:Array Value}{t:TypeId}(h:cj w b C t)(i:Nat)(u:Value):cj (w.setCell (aj b i) u) b (C.setIfInBounds i u) t:=by
 unfold cj at h ⊢;rw[setCell_eq_setRow w b i C t (0,0) u h];exact setRow_heap w b C _ t (0,0) h
theorem cj.setRow{w:World}{b:Nat}{C:Array Value}{t:TypeId}(h:cj w b C t)(D:Array Value):cj (w.setRow b D) b D t:=setRow_heap w b C D t (0,0) h
theorem cj.same{w:World}{b:Nat}{C D:Array Value}{t u:TypeId}(h:cj w b C t)(k:cj w b D u):C=D/\t=u:=by
 unfold cj at h k;rw[h] at k;injection k with k;injection k with k1 k2 _;exact⟨k1,k2⟩
theorem fq{w:World}{a:Addr}{v:Value}(h:w.cell? a=some v)(o:Obj):(w.alloc o).cell? a=some v:=(((bV w.heap.size w).alloc (av _) o).cell (World.block_lt_of_cell? w _ h)).trans h
theorem lL{w:World}{a:Addr}{v:Value}(h:w.cell? a=some v)(o o':Obj):((w.alloc o).alloc o').cell? a=some v:=fq (fq h o) o'
theorem eX(w:World)(C:Array Value)(t:TypeId)(i:Nat):(w.alloc (.cells C t)).cell? (aj w.heap.size i)=C[i]?:=(cj.new w C t).cell i
def ints(k:IntKind)(l:List Int):Array Value:=(l.map (Value.int k)).toArray
theorem ints_at(k:IntKind)(l:List Int)(i:Nat)(h:i<l.length):(ints k l)[i]?=some (.int k l[i]):=by
 unfold ints;simp[aq h]
theorem ints_set(k:IntKind)(l:List Int)(i:Nat)(v:Int):(ints k l).setIfInBounds i (.int k v)=ints k (l.set i v):=by
 unfold ints;apply Array.ext';simp[List.map_set]
end Go.bZ
namespace Go.Proofs.YtgblmelijlgimaaGreatDoor
open Go.Proofs.Tryz
namespace Bt
open Go.RowKit Go.bZ
def bit(ws:List Int)(i:Nat):Bool:=(ws.getD (i/64) 0).toNat.testBit (i%64)
structure L8(w:World)(p g n:Nat)(ws:List Int):Prop where
 b0:cj w p #[ai (aj g) ws.length ws.length,U n,.bool true] 226
 b1:cj w g (ints .u64 ws) 36
 ln:ws.length=(n+63)/64
 nn:n<=65536
 wd:∀x∈ws,0<=x/\x<18446744073709551616
 hi:∀i,n<=i→bit ws i=false
 ne:p≠g
def ee(w:World)(p g n:Nat)(f:Nat→Bool):Prop:=∃ws,L8 w p g n ws/\bit ws=f
theorem ee.bY{S:Nat→Prop}{w w':World}{p g n:Nat}{f:Nat→Bool}(h:ee w p g n f)(hc:cu S w w')(hp:¬S p)(hg:¬S g):ee w' p g n f:=by
 obtain⟨ws,h,rfl⟩:=h;exact⟨ws,⟨h.b0.bY hc hp,h.b1.bY hc hg,h.ln,h.nn,h.wd,h.hi,h.ne⟩,rfl⟩
theorem ee.cA{w w':World}{p g n:Nat}{f:Nat→Bool}(h:ee w p g n f)(hb:Below w.heap.size w w'):ee w' p g n f:=h.bY (cu.cD hb) (S:=fun _=>False) id id
theorem ee.drew{w:World}{p g n:Nat}{f:Nat→Bool}(h:ee w p g n f):ee w.drew p g n f:=by
 obtain⟨ws,h,rfl⟩:=h;exact⟨ws,⟨h.b0,h.b1,h.ln,h.nn,h.wd,h.hi,h.ne⟩,rfl⟩
theorem ee.lt{w:World}{p g n:Nat}{f:Nat→Bool}(h:ee w p g n f):p<w.heap.size/\g<w.heap.size:=by
 obtain⟨ws,h,rfl⟩:=h;exact⟨h.b0.lt,h.b1.lt⟩
theorem ee.out{w:World}{p g n:Nat}{f:Nat→Bool}(h:ee w p g n f){i:Nat}(hi:n<=i):f i=false:=by
 obtain⟨ws,h,rfl⟩:=h;exact h.hi i hi
theorem ee.nn{w:World}{p g n:Nat}{f:Nat→Bool}(h:ee w p g n f):n<=65536:=by
 obtain⟨ws,h,rfl⟩:=h;exact h.nn
theorem Qm(W k:Nat)(hW:W<18446744073709551616):(bits .and .u64 ((W:Int)/2^k) 1==1)=W.testBit k:=by
 have e:((W:Int)/2^k)=((W/2^k:Nat):Int):=by rw[Int.natCast_ediv,Int.natCast_pow];rfl
 have hd:W/2^k<=W:=Nat.div_le_self _ _;rw[e,show(1:Int)=((1:Nat):Int) from rfl,u64_and_nat _ _ (by omega) (by omega),Nat.and_one_is_mod,Nat.testBit_eq_decide_div_mod_eq];rw[Bool.eq_iff_iff,beq_iff_eq,decide_eq_true_iff];omega
theorem cC{w:World}{p g n:Nat}{f:Nat→Bool}(h:ee w p g n f):ak 159 #[af (aj p)] w fun e w'=>e=ae (.bool false)/\w=w':=by
 obtain⟨ws,h,rfl⟩:=h;have c2:w.cell? (aj p 2)=some (.bool true):=h.b0.cell 2;clear h;go_enter func159,ntmps159;go_wp2_with fail;go_ret;exact⟨rfl,rfl⟩
theorem gX{w:World}{p g n:Nat}{f:Nat→Bool}(h:ee w p g n f):ak 212 #[af (aj p)] w fun e w'=>e=ae (U n)/\w=w':=by
 have d:=cC h;obtain⟨ws,h,rfl⟩:=h;have c1:w.cell? (aj p 1)=some (U n):=h.b0.cell 1;clear h;go_enter func212,ntmps212;go_wp2_with (go_at_call 159;refine d.mono ?_;rintro e w' ⟨rfl,rfl⟩)
 go_ret;exact⟨rfl,rfl⟩
theorem tK{w:World}{p g n:Nat}{f:Nat→Bool}(h:ee w p g n f)(i:Int):ak 223 #[af (aj p),U i] w fun e w'=>e=ae (.bool (decide (0<=i/\i<n)))/\w=w':=by
 have d:=gX h;clear h;by_cases h0:0<=i
 .by_cases h1:i<n
  .rw[aw ⟨h0,h1⟩]
   go_enter func223,ntmps223;go_wp2_with (go_at_call 212;refine d.mono ?_;rintro e w' ⟨rfl,rfl⟩)
   go_ret;exact⟨rfl,rfl⟩
  .rw[az (fun x=>h1 x.2)]
   have h3:decide (i<(n:Int))=false:=az h1;clear h1;go_enter func223,ntmps223;go_wp2_with (go_at_call 212;refine d.mono ?_;rintro e w' ⟨rfl,rfl⟩)
   go_ret;exact⟨rfl,rfl⟩
 .rw[az (fun x=>h0 x.1)]
  go_enter func223,ntmps223;go_wp2_with (go_at_call 212;refine d.mono ?_;rintro e w' ⟨rfl,rfl⟩)
  go_ret;exact⟨rfl,rfl⟩
theorem xl{w:World}{p g n:Nat}{f:Nat→Bool}(h:ee w p g n f)(i:Nat)(hi:i<n):ak 221 #[af (aj p),U i] w fun e w'=>e=ae (.bool (f i))/\w=w':=by
 have d:=tK h (i:Int);rw[aw ⟨by omega,by omega⟩] at d;obtain⟨ws,h,rfl⟩:=h;have hnn:=h.nn;have hk:i/64<ws.length:=by rw[h.ln];omega
 have c0:w.cell? (aj p)=some (ai (aj g) ws.length ws.length):=h.b0.cell 0;have c1:w.cell? (aj g (i/64))=some (aa ws[i/64]):=(h.b1.cell _).trans (ints_at _ _ _ hk);have hw:=h.wd ws[i/64] (aF _);have hb:bit ws i=ws[i/64].toNat.testBit (i%64):=by unfold bit;rw[ao,aq hk];rfl
 rw[hb];have hl:ws.length<=1024:=by rw[h.ln];omega
 clear h hb;obtain⟨x,hx⟩:=al (ws[i/64]);rw[hx] at c1 hw ⊢;obtain⟨W,rfl⟩:∃W:Nat,x=(W:Int):=⟨x.toNat,by omega⟩;clear hx;go_enter func221,ntmps221;go_wp2_with (go_at_call 223;refine d.mono ?_;rintro e w' ⟨rfl,rfl⟩)
 go_ret;exact⟨by rw[aG,←Qm W (i%64) (by omega)];rfl,rfl⟩
def lM(f:Nat→Bool)(i:Nat)(b:Bool):Nat→Bool:=fun j=>if j=i then b else f j
theorem IZ(ws:List Int)(k:Nat)(hk:k<ws.length)(v:Int)(j:Nat):bit (ws.set k v) j=if j/64=k then v.toNat.testBit (j%64) else bit ws j:=by
 unfold bit;rw[ao,ao,bG];by_cases h:j/64=k
 .rw[if_pos h.symm,if_pos h,if_pos hk];rfl
 .rw[if_neg (Ne.symm h),if_neg h]
theorem qz{k:Nat}(h:k<64):2^k<18446744073709551616:=Nat.pow_lt_pow_right (a:=2) (by omega) (show k<64 from h)
theorem qA{k:Nat}(h:k<64):IntKind.u64.wrap ((2:Int)^k)=((2^k:Nat):Int):=by
 have h1:=qz h;have h2:((2:Int)^k)=((2^k:Nat):Int):=by rw[Int.natCast_pow];rfl
 rw[h2,IntKind.wrap_u64];obtain⟨N,hN⟩:=al (2^k);rw[hN] at h1 ⊢;omega
theorem L9(W k:Nat)(hW:W<18446744073709551616)(hk:k<64):∃V:Nat,bits .or .u64 (W:Int) (IntKind.u64.wrap ((2:Int)^k))=(V:Int)/\V<18446744073709551616/\∀j,V.testBit j=(decide (j=k) || W.testBit j):=by
 have h1:=qz hk;refine⟨W ||| 2^k,by rw[qA hk,u64_or_nat _ _ hW h1],?_,fun j=>?_⟩
 .exact Nat.or_lt_two_pow (n:=64) hW h1
 .rw[Nat.testBit_or,Nat.testBit_two_pow,Bool.or_comm]
  by_cases h:k=j
  .subst h;simp
  .rw[az h,az (Ne.symm h)]
theorem AJ(W k:Nat)(hW:W<18446744073709551616)(hk:k<64):∃V:Nat,bits .andNot .u64 (W:Int) (IntKind.u64.wrap ((2:Int)^k))=(V:Int)/\V<18446744073709551616/\∀j,V.testBit j=(!decide (j=k)&&W.testBit j):=by
 have h1:=qz hk;refine⟨W &&& (18446744073709551615-2^k),by rw[qA hk,u64_andNot_nat _ _ hW h1],Nat.lt_of_le_of_lt Nat.and_le_left hW,fun j=>?_⟩;rw[Nat.testBit_and,show 18446744073709551615-2^k=2^64-(2^k+1) from by rw[Nat.sub_add_eq,Nat.sub_right_comm],Nat.testBit_two_pow_sub_succ h1,Nat.testBit_two_pow];by_cases h:k=j
 .subst h;simp
 .rw[az h,az (Ne.symm h)]
  by_cases hj:j<64
  .simp[hj]
  .have:W.testBit j=false:=Nat.testBit_lt_two_pow (aB hW (Nat.pow_le_pow_right (n:=2) (by omega) (show 64<=j by omega)))
   simp[this]
theorem yZ{w:World}{p g n:Nat}{ws:List Int}(h:L8 w p g n ws)(i:Nat)(hi:i<n)(b:Bool)(W V:Nat)(hW:(ws[i/64]'(by have:=h.ln;omega))=(W:Int))(hV:V<18446744073709551616)(hb:∀j,V.testBit j=if j=i%64 then b else W.testBit j):
  ee (w.setCell (aj g (i/64)) (aa V)) p g n (lM (bit ws) i b):=by
 have hk:i/64<ws.length:=by have:=h.ln;omega
 have hbit:∀j,bit (ws.set (i/64) V) j=lM (bit ws) i b j:=by
  intro j;rw[IZ ws _ hk];unfold lM;by_cases h1:j/64=i/64
  .rw[if_pos h1,aG,hb]
   by_cases h2:j=i
   .subst h2;simp
   .rw[if_neg h2,if_neg (by omega)]
    unfold bit;rw[h1,ao,aq hk];show _=(ws[i/64]).toNat.testBit _;rw[hW];rfl
  .rw[if_neg h1,if_neg (fun e=>h1 (by rw[e]))]
 refine⟨ws.set (i/64) V,⟨?_,?_,by rw[aI];exact h.ln,h.nn,?_,fun j hj=>?_,h.ne⟩,funext hbit⟩
 .rw[aI];exact h.b0.other h.ne _ _
 .have:=h.b1.set (i/64) (aa V)
  rwa [ints_set] at this
 .intro x hx
  rcases aZ hx with hx|rfl
  .exact h.wd x hx
  .omega
 .rw[hbit]
  unfold lM;rw[if_neg (by omega)];exact h.hi j hj
theorem kO{w:World}{p g n:Nat}{f:Nat→Bool}(h:ee w p g n f)(i:Nat)(hi:i<n)(b:Bool):ak 173 #[af (aj p),U i,.bool b] w fun e w'=>e=ae (U 0)/\ee w' p g n (lM f i b)/\cu (· =g) w w':=by
 have d:=tK h (i:Int);have dn:=cC h;rw[aw ⟨by omega,by omega⟩] at d;obtain⟨ws,h,rfl⟩:=h;have hnn:=h.nn;have hk:i/64<ws.length:=by rw[h.ln];omega
 have c0:w.cell? (aj p)=some (ai (aj g) ws.length ws.length):=h.b0.cell 0;have c1:w.cell? (aj g (i/64))=some (aa ws[i/64]):=(h.b1.cell _).trans (ints_at _ _ _ hk);have f1:=h.b1.cE (i/64);have hw:=h.wd ws[i/64] (aF _);have hl:ws.length<=1024:=by rw[h.ln];omega
 have HP:=bU h;clear h;obtain⟨x,hx⟩:=al (ws[i/64]);rw[hx] at c1 hw;have HX:=bU hx;obtain⟨W,rfl⟩:∃W:Nat,x=(W:Int):=⟨x.toNat,by omega⟩;clear hx;have t1:((i:Int)).tdiv 64=((i/64:Nat):Int):=by rw[Int.tdiv_eq_ediv_of_nonneg (by omega)];omega
 have t2:((i:Int)).tmod 64=((i%64:Nat):Int):=by rw[Int.tmod_eq_emod_of_nonneg (by omega)];omega
 have t3:IntKind.i64.wrap ((i/64:Nat):Int)=((i/64:Nat):Int):=IntWalk.i64_in _ (by omega);have i1:((i/64:Nat):Int)<(ws.length:Int):=by omega
 have i2:(0:Int)<=((i/64:Nat):Int):=by omega
 have T:=bU (And.intro t1 (And.intro t2 t3));clear t1 t2 t3
 cases b with
 | true=>
  go_enter func173,ntmps173;go_wp2_with (first|(go_at_call 223;refine d.mono ?_;rintro e w' ⟨rfl,rfl⟩)|(go_at_call 159;refine dn.mono ?_;rintro e w' ⟨rfl,rfl⟩))
  obtain⟨t1,t2,t3⟩:=T.out;obtain⟨V,hV,Ma,Mb⟩:=L9 W (i%64) (by omega) (by omega);have HR:=bU (yZ HP.out i hi true W V HX.out Ma (fun j=>by rw[Mb];by_cases h:j=i%64 <;> simp[h]))
  go_region
  clear t1 t2 t3 hV Ma Mb;go_wp2_with fail;go_ret;exact⟨rfl,HR.out.drew,((cu.refl (· =g) w).stored (.inl rfl) _ _).drew⟩
 | false=>
  go_enter func173,ntmps173;go_wp2_with (first|(go_at_call 223;refine d.mono ?_;rintro e w' ⟨rfl,rfl⟩)|(go_at_call 159;refine dn.mono ?_;rintro e w' ⟨rfl,rfl⟩))
  obtain⟨t1,t2,t3⟩:=T.out;obtain⟨V,hV,Ma,Mb⟩:=AJ W (i%64) (by omega) (by omega);have HR:=bU (yZ HP.out i hi false W V HX.out Ma (fun j=>by rw[Mb];by_cases h:j=i%64 <;> simp[h]))
  go_region
  clear t1 t2 t3 hV Ma Mb;go_wp2_with fail;go_ret;exact⟨rfl,HR.out.drew,((cu.refl (· =g) w).stored (.inl rfl) _ _).drew⟩
end Bt
end Go.Proofs.YtgblmelijlgimaaGreatDoor
namespace Go
section
variable {P:Program} (w:World)
theorem nh(base:Nat)(t tx ty e:TypeId)(i:TypeInfo)(z:Value)(ht:P.underlying t=some (.slice e))(hi:P.info? e=some i)(hz:i.zero=some z)
 (hzs:z.cells.size=i.size)(v:Value)(n:Nat)(xs:List Value)(hown:w.ownsRow base e i.size v n xs)
 (x:Value)(m:Nat)(news:List Value)(hs:Src P i.size tx x m news w)(h0:v≠.slice none 0 0)
 (PM:n+m<=maxLen)(hbytes:(n+m)*i.bytes<=140737488355328)(hbase:base<=w.heap.size):
  ∃v' w',(Builtin.append_ #[t,tx] ty #[v,x]).run P w=.ok v' w'/\w'.ownsRow base e i.size v' (n+m) (xs++news)/\w.grownBy w' v.ownBlock/\v'≠.slice none 0 0:=by
 have hl:=hs.newsLen;have hsmall:n+m<=9223372036854775807:=by simp only[maxLen] at PM;omega
 have hlen:(xs++news).length=(n+m)*i.size:=by rw[aJ,hown.1,hl,Nat.add_mul]
 rcases hown.2 with⟨rfl,rfl⟩|⟨g,cap,cur,rfl,hbg,hg,hnc,hcm,hcs,htake⟩
 .exact absurd rfl h0
 .by_cases hroom:n+m<=cap
  .have hfit:n*i.size+news.length<=cur.size:=by rw[hl,hcs,←Nat.add_mul];exact Nat.mul_le_mul_right _ hroom
   have hst:=run_storeCells_at P g (n*i.size) e news 0 cur w hg (by simpa using hfit) hs.one;simp only[bN] at hst;have hr:(Builtin.append_ #[t,tx] ty #[ai (aj g) n cap,x]).run P w=
     .ok (ai (aj g) (n+m) cap) (w.setRow g (cur.toList.take (n*i.size)++news++cur.toList.drop (n*i.size+news.length)).toArray):=by
    rcases hs.kind with⟨e',hk⟩|hk <;> simp[Builtin.append_,run_underlying ht,run_underlying hk,sizeOf,typeInfo,hi,hs.len,hroom,hs.cells,Addr.add_lit,hst]
   refine⟨_,_,hr,⟨hlen,.inr ⟨g,cap,_,rfl,hbg,setRow_heap w g cur _ e _ hg,hroom,hcm,?_,?_⟩⟩,⟨rfl,rfl,rfl,by simp,fun k _ hk=>setRow_other w g k _ (fun e=>hk (by simp[Value.ownBlock,e]))⟩,by simp⟩
   .simp only[aP,aJ,List.length_take,List.length_drop,Array.length_toList]
    omega
   .rw[htake,←hlen]
    exact List.take_left
  .have holds:∀j u,xs[j]?=some u→w.drew.cell? ((⟨g,0,none⟩:Addr).add j)=some u:=hown.cells (g:=g) rfl
   have hold:=run_firstCells_some (P:=P) w.drew i.size n ⟨g,0,none⟩ n cap xs hown.1 holds;have hr:=run_append_grow_src (P:=P) w t tx ty e i z ht hi hz (some ⟨g,0,none⟩) n cap xs hold x m news hs (by omega) (by omega) (growslice_fits (by omega) hbytes);have hge:=grownCap_ge w (n+m) cap e;have Qn:grownCap w (n+m) cap e<=maxLen:=grownCap_le_maxLen w (n+m) cap e PM;refine⟨_,_,hr,⟨hlen,.inr ⟨w.heap.size,_,_,rfl,hbase,heap_alloc_new w.drew _,hge,Qn,?_,?_⟩⟩,⟨rfl,rfl,rfl,by simp,fun k hk _=>RowKit.Below.heap_alloc w.drew _ k hk⟩,by simp⟩
   .rw[Array.size_append,aP,size_zeroCells,hzs,hlen,←Nat.add_mul]
    congr 1
    omega
   .rw[Array.toList_append,←hlen]
    exact List.take_left
theorem fA{ops:Array Oper}{rest:List Oper}{o:Oper}{a:Act}{Q:Exit→Act→World→Prop}(hgd:o.guard=none)(s x:Operand)(t tx:TypeId)
 (ho:o.op=.call {callee:=.builtin .append,args:=#[s,x],argTypes:=#[t,tx]})
 (base:Nat)(e:TypeId)(i:TypeInfo)(z:Value)(size bytes:Nat)(ht:P.underlying t=some (.slice e))(hi:P.info? e=some i)(hz:i.zero=some z)
 (hsize:i.size=size)(hby:i.bytes=bytes)(hzs:z.cells.size=size)(v:Value)(n:Nat)(xs:List Value)(hv:a.eval s=v)(hown:w.ownsRow base e size v n xs)
 (y:Value)(m:Nat)(news:List Value)(hy:a.eval x=y)(hs:Src P size tx y m news w)(h0:v≠.slice none 0 0)
 (PM:n+m<=maxLen)(hbytes:(n+m)*bytes<=140737488355328)(hbase:base<=w.heap.size)
 (h:∀v' w',w'.ownsRow base e size v' (n+m) (xs++news)→w.grownBy w' v.ownBlock→v'≠.slice none 0 0→wpList P ops Q rest (a.put o.dst v') w'):wpList P ops Q (o::rest) a w:=by
 subst hsize;subst hby;refine wpList_plain hgd fun K hK=>?_
 obtain⟨v',w',hr,h2,h3,h4⟩:=nh (P:=P) w base t tx o.type e i z ht hi hz hzs v n xs hown y m news hs h0 PM hbytes hbase;unfold Oper.wp execOp;simp only[ho,resolve,invoke,builtin,Sem.run_bind,Sem.run_pure,Result.andThen_ok,List.map_toArray,List.map_cons,List.map_nil,hv,hy,hr];exact hK _ _ (h v' w' h2 h3 h4)
end
end Go
namespace Go.Proofs.YtgblmelijlgimaaGreatDoor
open Go.Proofs.Tryz
namespace Bt
open Go.RowKit Go.bZ
theorem qB:(prog.info? 36).map (fun i=>(i.zero,i.size,i.bytes))=some (some (aa 0),1,8):=by kernel_rfl
theorem nV(k:IntKind)(n:Nat):madeCells #[.int k 0] n=ints k (List.replicate n 0):=by
 unfold ints;rw[List.map_replicate,←toList_madeCells_one]
theorem nW(n i:Nat):bit (List.replicate n 0) i=false:=by
 unfold bit;rw[ao,List.getElem?_replicate]
 split <;> simp
theorem I0(w:World)(n:Nat)(h:n<=65536):
  ee ((w.alloc (.cells (ints .u64 (List.replicate ((n+63)/64) 0)) 36)).alloc (.cells #[ai (aj w.heap.size) ((n+63)/64) ((n+63)/64),U n,.bool true] 226)) (w.heap.size+1) w.heap.size n (fun _=>false):=by
 refine⟨List.replicate ((n+63)/64) 0,⟨?_,(cj.new w _ _).alloc _,by simp,h,fun x hx=>by rw[aQ hx];omega,fun i _=>nW _ _,by omega⟩,funext (nW _)⟩;have:=cj.new (w.alloc (.cells (ints .u64 (List.replicate ((n+63)/64) 0)) 36)) #[ai (aj w.heap.size) ((n+63)/64) ((n+63)/64),U n,.bool true] 226;rw[World.size_alloc] at this;rw[aN];exact this
theorem kP(w:World)(n:Nat)(h:n<=65536):
  ak 94 #[U n] w fun e w'=>∃p g,e=ae (.tuple #[af (aj p),U 0])/\ee w' p g n (fun _=>false)/\Below w.heap.size w w'/\w.heap.size<=p/\w.heap.size<=g:=by
 have hmk:=run_make_row' (P:=prog) 108 36 (aa 0) 8 underlying108 qB rfl .i64 .i64 ((n+63)/64) (by omega) (by omega);rw[nV] at hmk;have e1:((n:Int)+64-1)/64=(((n+63)/64:Nat):Int):=by omega
 have HR:=bU (I0 w n h);obtain⟨k,hk⟩:=al ((n+63)/64);rw[hk] at hmk e1 HR;clear hk;go_enter func94,ntmps94;go_wp2_with fail
 go_ret2
 exact⟨_,_,rfl,HR.out,((bV _ _).alloc (av _) _).alloc (by simp) _,by omega,by omega⟩
theorem AK(w:World)(g n cap:Nat)(ws:List Int)(h:cj w g (ints .u64 ws) 36)(hn:ws.length=n)(se:n<=100000):
  ak 90 #[ai (aj g) n cap] w fun e w'=>∃v,e=ae v/\w'.ownsRow w.heap.size 36 1 v n (ws.map (Value.int .u64))/\Below w.heap.size w w':=by
 have hq:∀w,(binOp .eql 108 (ai (aj g) n cap) (ai none 0 0)).run prog w=.ok (.bool false) w:=fun w=>by
  have he:=run_equal_slice_nil (P:=prog) w 108 36 (some ⟨g,0,none⟩) n cap underlying108;simp[binOp,go_sem,he]
 obtain⟨i0,hi,iX,jm,nQ⟩:=info_parts qB;have OW:=bU (World.ownsRow_made (base:=w.heap.size) (e:=36) (size:=1) w #[] 0 (av _) (by unfold maxLen;omega) rfl);have B1:=bU ((bV w.heap.size w).alloc (av _) (.cells #[] 36));have X1:Hid (Src prog 1 108 (ai (aj g) n cap) n (ws.map (Value.int .u64)) (w.alloc (.cells #[] 36))):=bU (Src.ofSlice _ underlying108 ⟨g,0,none⟩ n cap _ (by rw[List.length_map,hn,bP]) (fun j u hj=>by
  have hadd:(⟨g,0,none⟩:Addr).add j=⟨g,j,none⟩:=by unfold Addr.add;split <;> simp_all
  rw[hadd,(h.alloc _).cell j];unfold ints;simpa using hj) (fun u hu=>by obtain⟨x,_,rfl⟩:=List.mem_map.1 hu;rfl))
 clear h hn;go_enter func90,ntmps90;go_wp2_with (at_builtin;refine fA _ rfl _ _ 108 108 rfl w.heap.size 36 i0 (aa 0) 1 8 underlying108 hi iX jm nQ rfl _ 0 [] rfl OW.out (ai (aj g) n cap) n _ rfl X1.out (show Value.slice (some ⟨w.heap.size,0,none⟩) 0 0≠.slice none 0 0 from by simp) ?c1 ?c2 ?c3 ?_)
 case c1=>unfold maxLen;omega
 case c2=>omega
 case c3=>simp
 intro v1 w1 hown hgrow _;have hb:=B1.out.grown hgrow (by simp) (fun j hj=>(OW.out.lt j hj).1);have HB:=bU hb;have fN:w1.ownsRow w.heap.size 36 1 v1 n (ws.map (Value.int .u64)):=by first|exact hown|simpa using hown
 have HO:=bU fN;clear hown fN hgrow hb;go_wp2_with fail;go_ret;exact⟨_,rfl,HO.out,HB.out⟩
theorem I2{w:World}{B n:Nat}{t:TypeId}{v:Value}{k:IntKind}{ws:List Int}(h:w.ownsRow B t 1 v n (ws.map (Value.int k)))(hn:0<n):∃g cap,v=ai (aj g) n cap/\B<=g/\n<=cap/\∃C,cj w g C t/\∀i,(h:i<ws.length)→C[i]?=some (.int k ws[i]):=by
 obtain⟨hl,⟨rfl,rfl⟩|⟨g,cap,cur,rfl,hb,hg,hc,hm,hs,ht⟩⟩:=h
 .omega
 .refine⟨g,cap,rfl,hb,hc,cur,hg,fun i hi=>?_⟩
  have hlen:ws.length=n:=by rw[List.length_map] at hl;omega
  have h1:(cur.toList.take (n*1))[i]?=some (.int k ws[i]):=by
   rw[ht,aR,aq hi];rfl
  rw[List.getElem?_take_of_lt (by omega)] at h1;rw[←bJ];exact h1
end Bt
end Go.Proofs.YtgblmelijlgimaaGreatDoor
namespace Go.bZ
open Go.RowKit
section
variable {P:Program}
theorem kt(w:World)(t e ty:TypeId)(z:Value)(ht:P.underlying t=some (.slice e))(hz:(P.info? e).bind (·.zero)=some z)(g o n cap:Nat)(cur:Array Value)(et:TypeId)(hg:cj w g cur et)(hn:0<n)
 (hfit:o+n*z.cells.size<=cur.size)(h1:∀u∈z.cells.toList,u.oneCell'=true):
  (Builtin.clear_ #[t] ty #[ai (aj g o) n cap]).run P w=.ok (.tuple #[]) (w.setRow g (cur.toList.take o++(Builtin.zeroCells z.cells n).toList++cur.toList.drop (o+n*z.cells.size)).toArray):=by
 have hs:(Builtin.zeroCells z.cells n).size=n*z.cells.size:=size_zeroCells _ _;have hst:=run_storeCells_at P g o et (Builtin.zeroCells z.cells n).toList 0 cur w hg (by rw[Array.length_toList,hs];simpa using hfit) (fun u hu=>by
  unfold Builtin.zeroCells at hu;simp at hu;obtain⟨k,hk,hu⟩:=hu;have hp:0<z.cells.size:=by
   rcases Nat.eq_zero_or_pos z.cells.size with h0|h0
   .rw[h0,Nat.mul_zero] at hk;omega
   .exact h0
  rw[getElem!_pos z.cells _ (Nat.mod_lt _ hp)] at hu;exact h1 u (by rw[←hu];simp))
 simp only[bN,Array.length_toList,hs] at hst;obtain⟨m,rfl⟩:∃m,n=m+1:=⟨n-1,by omega⟩
 cases hi:P.info? e with
 | none=>simp[hi] at hz
 | some i=>
  rw[hi] at hz;have Tt:i.zero=some z:=by simpa using hz
  have hzv:(zeroValue e).run P w=.ok z w:=by simp[zeroValue,typeInfo,hi,Tt]
  simp[Builtin.clear_,run_underlying ht,hzv,hst]
end
end Go.bZ
