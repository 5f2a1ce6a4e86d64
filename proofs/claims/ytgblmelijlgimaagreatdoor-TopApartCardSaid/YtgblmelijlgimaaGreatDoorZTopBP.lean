/- Parts of the proof of TopApart. -/
import Derived.Test.YtgblmelijlgimaaGreatDoorZTopBO
set_option maxRecDepth 100000
namespace Go.Proofs.YtgblmelijlgimaaGreatDoor
open Go.Proofs.Tryz
open Go.RowKit eK
def oH(x:E)(w:World)(e:Ending)(w':World):Prop:=e=ae (.bool (decide (lB x\/isStep x)))/\Below w.heap.size w w'
theorem uE(x:E)(w:World)(X:Bool)(C':Array Value)(h:X=true↔(lB x\/isStep x)):oH x w (ae (.bool X)) (w.alloc (.cells C' 56)):=
 ⟨by rw[show X=decide (lB x\/isStep x) from by rw[Bool.eq_iff_iff,decide_eq_true_iff];exact h],(bV w.heap.size w).alloc (av _) _⟩
theorem jL(x:E)(hw:x.Wf)(w:World):
  ak 23 #[.agg (ev x).toArray] w (oH x w):=by
 obtain⟨h1,h2,h3,h4,h5,h6,h7,h8,h9,Sv,Sy,WI,WJ,WK,WL,WM,SG,SH⟩:=hw;obtain⟨K,T,C,H,A,B,V,W,M⟩:=x;simp only at *;show Calls _ _ #[.agg #[ab K,U T,ab C,aa H,U A,U B,aa V,U W,ab M]] w _;by_cases k1:K=1
 .subst k1
  go_enter func23,ntmps23;go_wp2_with fail;all_goals
   go_ret;refine uE _ _ _ _ ?_;simp[lB,isStep,four]
   try omega
 .by_cases k2:K=2
  .subst k2
   go_enter func23,ntmps23;go_wp2_with fail;all_goals
    go_ret;refine uE _ _ _ _ ?_;simp[lB,isStep,four]
    try omega
  .have e1:(K==1)=false:=by rw[aA];exact k1
   have e2:(K==2)=false:=by rw[aA];exact k2
   have K1:=bU k1;have K2:=bU k2;clear k1 k2;go_enter func23,ntmps23;go_wp2_with fail;all_goals
    go_ret;refine uE _ _ _ _ ?_;have k1:=K1.out;have k2:=K2.out;simp[lB,isStep,four]
    try omega
def kL(x:E):List UInt8:=(xj x).getD []
def uF(x:E):Int:=if(xj x).isSome then 0 else 2
def mQ(x:E)(w:World)(e:Ending)(w':World):Prop:=e=ae (.tuple #[.string (bs (kL x)),U (uF x)])/\Below w.heap.size w w'
theorem Dv(z:Int)(m:Nat)(h0:0<=z)(h1:z<18446744073709551616)(hm:m<=8)(w:World):
  ak 24 #[aa z,U m] w fun e w'=>e=ae (.string (bs (be m z.toNat)))/\Below w.heap.size w w':=by
 have:=Dl z.toNat m (by omega) hm w
 rwa [Int.toNat_of_nonneg h0] at this
theorem iG(z M:Int)(m:Nat)(hM:M=m)(h0:0<=z)(h1:z<18446744073709551616)(hm:m<=8)(w:World):
  ak 24 #[aa z,U M] w fun e w'=>e=ae (.string (bs (be m z.toNat)))/\Below w.heap.size w w':=by
 subst hM;exact Dv z m h0 h1 hm w
theorem yN:∀(m n:Nat),be m (n%256^m)=be m n
 | 0,_=>rfl
 | m+1,n=>by
  show be m (n%256^(m+1)/256)++[UInt8.ofNat (n%256^(m+1)%256)]=be m (n/256)++_;have e1:n%256^(m+1)/256=(n/256)%256^m:=by rw[Nat.pow_succ,Nat.mul_comm,Nat.mod_mul_right_div_self]
  have e2:n%256^(m+1)%256=n%256:=Nat.mod_mod_of_dvd n (by rw[Nat.pow_succ];exact Nat.dvd_mul_left _ _);rw[e1,e2,yN m]
theorem Ij(n:Int):be 4 (n%18446744073709551616).toNat=be 4 (AH n):=by
 rw[←yN 4 (n%18446744073709551616).toNat,←yN 4 (AH n)]
 congr 1
 unfold AH;show(n%18446744073709551616).toNat%4294967296=(n%4294967296).toNat%4294967296;omega
theorem Au{a:Nat}(h:a<=9):(9223372036854775807<a)=False:=eq_false (by omega)
@[reducible] def SP (w:World) (x:E) (w':World):Prop:=w.heap.size<w'.heap.size/\Below w.heap.size w w'/\w'.cell? (aj w.heap.size)=some (ab x.kind)/\w'.cell? (aj w.heap.size 1)=some (U x.cQ)/\w'.cell? (aj w.heap.size 2)=some (ab x.code)/\w'.cell? (aj w.heap.size 3)=some (aa x.h)/\w'.cell? (aj w.heap.size 4)=some (U x.a)/\w'.cell? (aj w.heap.size 5)=some (U x.b)/\w'.cell? (aj w.heap.size 6)=some (aa x.v)/\w'.cell? (aj w.heap.size 7)=some (U x.worker)/\w'.cell? (aj w.heap.size 8)=some (ab x.gV)
theorem SP.bY{w w1 w2:World}{x:E}(h:SP w x w1)(hb:Below w1.heap.size w1 w2):SP w x w2:=by
 obtain⟨h0,hB,c0,c1,c2,c3,c4,c5,c6,c7,c8⟩:=h;have k:∀i,w2.cell? (aj w.heap.size i)=w1.cell? (aj w.heap.size i):=fun i=>hb.cell (p:=⟨w.heap.size,i,none⟩) h0
 exact⟨aB h0 hb.size,hB.trans (hb.mono hB.size),(k 0).trans c0,(k 1).trans c1,(k 2).trans c2,(k 3).trans c3,(k 4).trans c4,(k 5).trans c5,(k 6).trans c6,(k 7).trans c7,(k 8).trans c8⟩
theorem SP.drew{w w1:World}{x:E}(h:SP w x w1):SP w x w1.drew:=⟨h.1,h.2.1.drew,h.2.2⟩
theorem SP.first(w:World)(x:E):SP w x (w.alloc (.cells (ev x).toArray 56)):=by
 have h:=heap_alloc_new w (.cells (ev x).toArray 56);have k:∀i,(w.alloc (.cells (ev x).toArray 56)).cell? (aj w.heap.size i)=(ev x)[i]?:=fun i=>by rw[cell_of_row _ _ _ _ _ _ h];simp
 exact⟨by simp,(bV w.heap.size w).alloc (av _) _,k 0,k 1,k 2,k 3,k 4,k 5,k 6,k 7,k 8⟩
theorem KW(x:E)(hw:x.Wf)(h:¬(lB x\/isStep x))(w:World):
  ak 12 #[.agg (ev x).toArray] w (mQ x w):=by
 have hx:kL x=[]/\uF x=2:=by
  unfold kL uF xj;rw[if_neg (fun k=>h (.inl k)),if_neg (fun k=>h (.inr k))];exact⟨rfl,rfl⟩
 have c:=fun w=>jL x hw w
 unfold oH at c;rw[az h] at c;have HX:=bU hx;have HS:=bU (SP.first w x);clear hx h hw;go_enter func12,ntmps12;go_wp2_with (refine wpList_load_row rfl _ _ rfl w.heap.size rfl 56 (ev x).toArray (0,0) _ (heap_alloc_new w _) underlying56 rfl ko ?_)
 refine(c _).mono ?_;rintro e w1 ⟨rfl,hb⟩;have HB:=bU (HS.out.bY hb).2.1;clear hb;go_wp2_with fail
 go_ret2
 exact⟨by rw[HX.out.1,HX.out.2];rfl,HB.out⟩
set_option maxHeartbeats 1000000 in
theorem Dw(x:E)(hw:x.Wf)(h:isStep x)(w:World):
  ak 12 #[.agg (ev x).toArray] w (mQ x w):=by
 have hno:¬lB x:=fun k=>by have h1:=k.1;have h2:=h.1;omega
 have hx:kL x=En x/\uF x=0:=by
  unfold kL uF xj;rw[if_neg hno,if_pos h];exact⟨rfl,rfl⟩
 have c:=fun w=>jL x hw w
 unfold oH at c;rw[aw (.inr h)] at c;obtain⟨h1,h2,h3,h4,h5,h6,h7,h8,h9⟩:=h;have m0:=hw.Ej;have m1:=hw.Ek;have e0:be 1 x.worker.toNat=[UInt8.ofNat x.worker.toNat]:=by show[UInt8.ofNat (x.worker.toNat%256)]=_;rw[bf (by omega)]
 have e1:be 1 x.gV.toNat=[UInt8.ofNat x.gV.toNat]:=by show[UInt8.ofNat (x.gV.toNat%256)]=_;rw[bf (by omega)]
 have p1:=fun w=>iG 2 1 1 rfl (by omega) (by omega) (by omega) w
 have p2:=fun w=>iG x.worker 1 1 rfl (by omega) (by omega) (by omega) w
 have p3:=fun w=>iG x.gV 1 1 rfl (by omega) (by omega) (by omega) w
 rw[e0] at p2;rw[e1] at p3;have a2:bs (be 1 (2:Int).toNat)++bs [UInt8.ofNat x.worker.toNat]=bs [2,UInt8.ofNat x.worker.toNat]:=ij _ _;have a3:bs [2,UInt8.ofNat x.worker.toNat]++bs [UInt8.ofNat x.gV.toNat]=bs (En x):=ij _ _;have z2:(bs (be 1 (2:Int).toNat)).size+(bs [UInt8.ofNat x.worker.toNat]).size<=9:=by show 1+1<=9;decide
 have z3:(bs [2,UInt8.ofNat x.worker.toNat]).size+(bs [UInt8.ofNat x.gV.toNat]).size<=9:=by show 2+1<=9;decide
 have w2:IntKind.u64.wrap x.worker=x.worker:=by rw[IntKind.wrap_u64];omega
 have w3:IntKind.u64.wrap x.gV=x.gV:=by rw[IntKind.wrap_u64];omega
 have n2:=Au z2;have n3:=Au z3;clear z2 z3;generalize bs [UInt8.ofNat x.worker.toNat]=s2 at *;generalize bs [UInt8.ofNat x.gV.toNat]=s3 at *;generalize bs [2,UInt8.ofNat x.worker.toNat]=SF at *;generalize bs (be 1 (2:Int).toNat)=s1 at *;have HX:=bU hx;have HS:=bU (SP.first w x);have H1:=bU h1;clear hx hw h3 h4 h5 h6 h7 h8 h9 e0 e1 hno h1 m0 m1;go_enter func12,ntmps12;go_wp2_with (refine wpList_load_row rfl _ _ rfl w.heap.size rfl 56 (ev x).toArray (0,0) _ (heap_alloc_new w _) underlying56 rfl ko ?_)
 refine(c _).mono ?_;rintro e w1 ⟨rfl,hb⟩;have hs:=HS.out.bY hb;have hk:=hs.2.2.1;rw[H1.out] at hk;have Pj:=bU hs;clear hb c HS hs;go_wp2_with fail;have hs:=Pj.out.drew;unfold SP at hs;clear Pj hk;go_region_held3 (fun w'=>w.heap.size<w'.heap.size/\Below w.heap.size w w'/\w'.cell? (aj w.heap.size)=some (ab x.kind)/\w'.cell? (aj w.heap.size 1)=some (U x.cQ)/\w'.cell? (aj w.heap.size 2)=some (ab x.code)/\w'.cell? (aj w.heap.size 3)=some (aa x.h)/\w'.cell? (aj w.heap.size 4)=some (U x.a)/\w'.cell? (aj w.heap.size 5)=some (U x.b)/\w'.cell? (aj w.heap.size 6)=some (aa x.v)/\w'.cell? (aj w.heap.size 7)=some (U x.worker)/\w'.cell? (aj w.heap.size 8)=some (ab x.gV)) (first|assumption|go_keep)
  (first
   | (go_at_call 24;(first|(with_reducible refine(p1 _).mono ?_)|(with_reducible refine(p2 _).mono ?_)|(with_reducible refine(p3 _).mono ?_));rintro e w2 ⟨rfl,cN⟩;have pK:=SP.bY (by assumption) cN;unfold SP at pK))
 go_wp2_with fail
 go_ret2
 exact⟨by rw[HX.out.1,HX.out.2];rfl,pK.2.1⟩
set_option maxHeartbeats 4000000 in
theorem KY(x:E)(hw:x.Wf)(h:lB x)(w:World):
  ak 12 #[.agg (ev x).toArray] w (mQ x w):=by
 have hx:kL x=AI x/\uF x=0:=by
  unfold kL uF xj;rw[if_pos h];exact⟨rfl,rfl⟩
 have c:=fun w=>jL x hw w
 unfold oH at c;rw[aw (.inl h)] at c;obtain⟨h1,h2,h3,h4,h5,h6,h7⟩:=h;obtain⟨b1,b2,b3,b4,b5,b6,b7,b8,b9,Ly,Jc,U6,U7,Qh,U8,U9,Va,Vb⟩:=hw;have wT:IntKind.u64.wrap x.cQ=x.cQ:=by rw[IntKind.wrap_u64];omega
 have wC:IntKind.u64.wrap x.code=x.code:=by rw[IntKind.wrap_u64];omega
 have wA:IntKind.u64.wrap x.a=x.a%18446744073709551616:=IntKind.wrap_u64 _;have wB:IntKind.u64.wrap x.b=x.b%18446744073709551616:=IntKind.wrap_u64 _;have eT:be 1 x.cQ.toNat=[UInt8.ofNat x.cQ.toNat]:=by show[UInt8.ofNat (x.cQ.toNat%256)]=_;rw[bf (by omega)]
 have eC:be 1 x.code.toNat=[UInt8.ofNat x.code.toNat]:=by show[UInt8.ofNat (x.code.toNat%256)]=_;rw[bf (by omega)]
 have p0:=fun w=>iG (1:Int) 1 1 rfl (by omega) (by omega) (by omega) w
 have p1:=fun w=>iG x.cQ 1 1 rfl (by omega) (by omega) (by omega) w
 have p2:=fun w=>iG x.code 1 1 rfl (by omega) (by omega) (by omega) w
 have p3:=fun w=>iG x.h 8 8 rfl (by omega) (by omega) (by omega) w
 have p4:=fun w=>iG (x.a%18446744073709551616) 4 4 rfl (by omega) (by omega) (by omega) w
 have p5:=fun w=>iG (x.b%18446744073709551616) 4 4 rfl (by omega) (by omega) (by omega) w
 have p6:=fun w=>iG x.v 8 8 rfl (by omega) (by omega) (by omega) w
 have l0:=fY 1 (1:Int).toNat;have l1:=fY 1 x.cQ.toNat;have l2:=fY 1 x.code.toNat;have l3:=fY 8 x.h.toNat;have l4:=fY 4 (x.a%18446744073709551616).toNat;have l5:=fY 4 (x.b%18446744073709551616).toNat;have l6:=fY 8 x.v.toNat;have hfin:be 1 (1:Int).toNat++be 1 x.cQ.toNat++be 1 x.code.toNat++be 8 x.h.toNat++be 4 (x.a%18446744073709551616).toNat++be 4 (x.b%18446744073709551616).toNat++be 8 x.v.toNat=AI x:=by
  rw[eT,eC,Ij,Ij];rfl
 generalize be 1 (1:Int).toNat=q0 at *;generalize be 1 x.cQ.toNat=q1 at *;generalize be 1 x.code.toNat=q2 at *;generalize be 8 x.h.toNat=q3 at *;generalize be 4 (x.a%18446744073709551616).toNat=q4 at *;generalize be 4 (x.b%18446744073709551616).toNat=q5 at *;generalize be 8 x.v.toNat=q6 at *;have a1:bs (q0)++bs q1=bs (q0++q1):=ij _ _;have n1:(9223372036854775807<(bs (q0)).size+(bs q1).size)=False:=eq_false (by simp only[jy];omega);have a2:bs (q0++q1)++bs q2=bs (q0++q1++q2):=ij _ _;have n2:(9223372036854775807<(bs (q0++q1)).size+(bs q2).size)=False:=eq_false (by simp only[jy,aJ];omega);have a3:bs (q0++q1++q2)++bs q3=bs (q0++q1++q2++q3):=ij _ _;have n3:(9223372036854775807<(bs (q0++q1++q2)).size+(bs q3).size)=False:=eq_false (by simp only[jy,aJ];omega);have a4:bs (q0++q1++q2++q3)++bs q4=bs (q0++q1++q2++q3++q4):=ij _ _;have n4:(9223372036854775807<(bs (q0++q1++q2++q3)).size+(bs q4).size)=False:=eq_false (by simp only[jy,aJ];omega);have a5:bs (q0++q1++q2++q3++q4)++bs q5=bs (q0++q1++q2++q3++q4++q5):=ij _ _;have n5:(9223372036854775807<(bs (q0++q1++q2++q3++q4)).size+(bs q5).size)=False:=eq_false (by simp only[jy,aJ];omega);have a6:bs (q0++q1++q2++q3++q4++q5)++bs q6=bs (q0++q1++q2++q3++q4++q5++q6):=ij _ _;have n6:(9223372036854775807<(bs (q0++q1++q2++q3++q4++q5)).size+(bs q6).size)=False:=eq_false (by simp only[jy,aJ];omega);rw[hfin] at a6;have p7:bs (kL x)=bs (AI x):=by rw[hx.1]
 have qO:=hx.2;generalize bs (q0++q1)=t1 at *;generalize bs (q0++q1++q2)=t2 at *;generalize bs (q0++q1++q2++q3)=t3 at *;generalize bs (q0++q1++q2++q3++q4)=t4 at *;generalize bs (q0++q1++q2++q3++q4++q5)=t5 at *;generalize bs q0=s0 at *;generalize bs q1=s1 at *;generalize bs q2=s2 at *;generalize bs q3=s3 at *;generalize bs q4=s4 at *;generalize bs q5=s5 at *;generalize bs q6=s6 at *;generalize bs (AI x)=t6 at *;generalize x.a%18446744073709551616=zA at *;generalize x.b%18446744073709551616=zB at *;have HX:=bU (And.intro p7 qO);have HS:=bU (SP.first w x);have H1:=bU h1;clear hx p7 qO hfin eT eC h1 h2 h3 h4 h5 h6 h7 b1 b2 b3 b4 b5 b6 b7 b8 b9 Ly Jc U6 U7 Qh U8 U9 Va Vb;clear l0 l1 l2 l3 l4 l5 l6;go_enter func12,ntmps12;go_wp2_with (refine wpList_load_row rfl _ _ rfl w.heap.size rfl 56 (ev x).toArray (0,0) _ (heap_alloc_new w _) underlying56 rfl ko ?_)
 refine(c _).mono ?_;rintro e w1 ⟨rfl,hb⟩;have hs:=HS.out.bY hb;have hk:=hs.2.2.1;rw[H1.out] at hk;have Pj:=bU hs;clear hb c HS hs;go_wp2_with fail;have hs:=Pj.out.drew;unfold SP at hs;clear Pj hk;go_region_held3 (fun w'=>w.heap.size<w'.heap.size/\Below w.heap.size w w'/\w'.cell? (aj w.heap.size)=some (ab x.kind)/\w'.cell? (aj w.heap.size 1)=some (U x.cQ)/\w'.cell? (aj w.heap.size 2)=some (ab x.code)/\w'.cell? (aj w.heap.size 3)=some (aa x.h)/\w'.cell? (aj w.heap.size 4)=some (U x.a)/\w'.cell? (aj w.heap.size 5)=some (U x.b)/\w'.cell? (aj w.heap.size 6)=some (aa x.v)/\w'.cell? (aj w.heap.size 7)=some (U x.worker)/\w'.cell? (aj w.heap.size 8)=some (ab x.gV)) (first|assumption|go_keep)
  (first
   | (go_at_call 24;(first|(with_reducible refine(p0 _).mono ?_)|(with_reducible refine(p1 _).mono ?_)|(with_reducible refine(p2 _).mono ?_)|(with_reducible refine(p3 _).mono ?_)|(with_reducible refine(p4 _).mono ?_)|(with_reducible refine(p5 _).mono ?_)|(with_reducible refine(p6 _).mono ?_));rintro e w2 ⟨rfl,cN⟩;have pK:=SP.bY (by assumption) cN;unfold SP at pK))
 go_wp2_with fail
 go_ret2
 exact⟨by rw[HX.out.1,HX.out.2];rfl,pK.2.1⟩
theorem wP(x:E)(hw:x.Wf)(w:World):ak 12 #[.agg (ev x).toArray] w (mQ x w):=by
 by_cases h1:lB x
 .exact KY x hw h1 w
 .by_cases h2:isStep x
  .exact Dw x hw h2 w
  .exact KW x hw (fun h=>h.elim h1 h2) w
namespace Mc
open Go.RowKit Go.bZ Go.Gc Go.Cf Hp Fm eK
def lu(l:List (Int×Sn)):List Value:=l.flatMap fun p=>(eB p.1 p.2).toList
structure MD where
 m:Nat
 f:Nat
 gh:Nat
 cap:Nat
 cf:cF
 mp:Nat
 T:Ts
 hs:List Nat
 lo:Nat
 hi:Nat
def sj(w:World)(d:MD)(n:Nat)(x:Nat→V):Prop:=∃ws,FI w d.f d.gh d.cap d.cf d.mp d.T d.hs ws ((2*n+1:Nat):Int) x d.lo d.hi
structure MI(w:World)(d:MD)(eU n:Nat)(x:Nat→V)(l:List (Int×Sn)):Prop where
 fi:sj w d n x
 mb:∃v,cj w d.m #[af (aj d.f),v] 62/\w.ownsRow eU 40 9 v l.length (lu l)
 ml:d.hi<=d.m/\d.m<eU
 l2:2<d.lo
 ll:l.length<=n
 lw:eU<=w.heap.size
def Sm(d:MD)(eU k:Nat):Prop:=(d.lo<=k/\k<=d.m)\/eU<=k
theorem sj.bY{S:Nat→Prop}{w w':World}{d:MD}{n:Nat}{x:Nat→V}(h:sj w d n x)(hc:cu S w w')(hS:∀k,k<w.heap.size→S k→2<k/\¬(d.lo<=k/\k<d.hi)):sj w' d n x:=by
 obtain⟨ws,h⟩:=h;exact⟨ws,h.bY (hc.mono (T:=fun k=>k<w.heap.size/\S k) (fun k h1 h2=>⟨h1,h2⟩)) (fun k hk=>hS k hk.1 hk.2)⟩
theorem MI.bY{S:Nat→Prop}{w w':World}{d:MD}{eU n:Nat}{x:Nat→V}{l:List (Int×Sn)}(h:MI w d eU n x l)(hc:cu S w w')(hS:∀k,k<w.heap.size→S k→2<k/\¬(d.lo<=k/\k<=d.m)/\k<eU):MI w' d eU n x l:=by
 have ml:=h.ml;obtain⟨ws,fi⟩:=id h.fi;have fl:=fi.fl;obtain⟨v,b,o⟩:=h.mb;refine⟨h.fi.bY hc (fun k h1 h2=>?_),⟨v,b.bY hc (fun hk=>(hS _ b.lt hk).2.1 (by omega)),?_⟩,h.ml,h.l2,h.ll,aE h.lw hc.size⟩
 .have:=hS k h1 h2
  omega
 .obtain⟨hl,k|⟨g,cap,cur,h1,h2,h3,h4⟩⟩:=o
  .exact⟨hl,.inl k⟩
  .have gl:=(aD.1 h3).1
   exact⟨hl,.inr ⟨g,cap,cur,h1,h2,(hc.block g gl (fun hk=>by have:=(hS g gl hk).2.2;omega)).trans h3,h4⟩⟩
theorem MI.cA{w w':World}{d:MD}{eU n:Nat}{x:Nat→V}{l:List (Int×Sn)}(h:MI w d eU n x l)(hb:Below w.heap.size w w'):MI w' d eU n x l:=h.bY (cu.cD (S:=fun _=>False) hb) (fun _ _ hk=>hk.elim)
def ix(y:E):iJ:=⟨y.code.toNat,y.h,y.a,y.b,y.v⟩
noncomputable def gU(C:Nat→cV)(nT:Nat)(x:Nat→V)(p:List UInt8):(Nat→V)×Option (Int×Sn):=
 if(cH p).kind=2 then(x,none)
 else if(cH p).kind=1/\(cH p).cQ<nT then(cP x (cH p).cQ.toNat (jk (C (cH p).cQ.toNat) (x (cH p).cQ.toNat) (ix (cH p))).1,some ((cH p).cQ,(jk (C (cH p).cQ.toNat) (x (cH p).cQ.toNat) (ix (cH p))).2))
 else(x,some (-1,Sn.told 250))
def LQ(o:Option (Int×Sn)):Array Value:=match o with|none=>eB 0 (Sn.told 0)|some (t,s)=>eB t s
theorem nJ(p:List UInt8):cH p=E.zero\/iL p=some (cH p):=by
 unfold cH
 cases h:iL p with
 | none=>exact .inl rfl
 | some y=>exact .inr rfl
theorem Av{p:List UInt8}(h:(cH p).kind=1):(cH p).Wf/\0<=(cH p).cQ:=by
 rcases nJ p with e|e
 .rw[e] at h
  exact absurd h (by decide)
 .refine⟨Er e,?_⟩
  unfold iL at e
  split at e
  .injection e with e
   rw[←e] at h;exact absurd h (by show ¬((2:Int)=1);decide)
  .split at e
   .injection e with e
    rw[←e];exact Int.natCast_nonneg _
   .cases e
theorem Dx{p:List UInt8}(h:(cH p).kind=2):(cH p).Wf:=by
 rcases nJ p with e|e
 .rw[e] at h
  exact absurd h (by decide)
 .exact Er e
theorem NF{y:E}(h:y.Wf):iJ.In (ix y)/\((ix y).code:Int)=y.code:=by
 have h1:=h.Lu;have h2:=h.Lv;refine⟨⟨?_,⟨h.h0,by have:=h.h1;show y.h<_;omega⟩,⟨h.a0,by have:=h.a1;show y.a<_;omega⟩,⟨h.b0,by have:=h.b1;show y.b<_;omega⟩,⟨h.v0,by have:=h.v1;show y.v<_;omega⟩⟩,?_⟩
 .show y.code.toNat<256
  omega
 .show(y.code.toNat:Int)=y.code
  omega
def wQ(w:World)(d:MD)(n:Nat)(x:Nat→V)(p:List UInt8)(e:Ending)(w':World):Prop:=e=ae (.tuple #[.agg (LQ (gU d.T.C d.hs.length x p).2),.bool (gU d.T.C d.hs.length x p).2.isSome])/\sj w' d (n+1) (gU d.T.C d.hs.length x p).1/\cu (fun k=>d.lo<=k/\k<d.hi) w w'
theorem FI.Vc{w:World}{f gh cap:Nat}{cf:cF}{mp:Nat}{T:Ts}{hs:List Nat}{ws:List Int}{N N':Int}{x:Nat→V}{lo hi:Nat}(h:FI w f gh cap cf mp T hs ws N x lo hi)(h1:N<=N')(h2:N'<=1000000):FI w f gh cap cf mp T hs ws N' x lo hi:=
 ⟨h.fm,⟨h.I.lk,h.I.sm,fun t ht=>(h.I.hv t ht).up h1 h2,h.I.ap,h.I.il,h.I.ml,h.I.l2,h.I.hl⟩,h.hd,h.fl,h.gl,h.nf⟩
theorem sj.up{w:World}{d:MD}{n:Nat}{x:Nat→V}(h:sj w d n x)(hn:n<400000):sj w d (n+1) x:=by
 obtain⟨ws,h⟩:=h;exact⟨ws,FI.Vc h (by omega) (by omega)⟩
theorem qs{w:World}{d:MD}{n:Nat}{x:Nat→V}(h:sj w d n x)(l2:2<d.lo)(hn:n<400000)(h0:w.cell? (aj d.m)=some (af (aj d.f)))(ml:d.hi<=d.m)(p:List UInt8):ak 17 #[af (aj d.m),.agg (ev (cH p)).toArray] w (wQ w d n x p):=by
 have hm:d.m<w.heap.size:=World.block_lt_of_cell? w _ h0;obtain⟨ws,fi⟩:=id h;have hl:=fi.I.hl;have fl:=fi.fl;have clo:∀a b,(sj a d (n+1) x/\cu (fun k=>d.lo<=k/\k<d.hi) w a)→cu (fun k=>w.heap.size<=k) a b→(sj b d (n+1) x/\cu (fun k=>d.lo<=k/\k<d.hi) w b):=fun a b r c=>⟨r.1.bY c (fun k _ hk=>by have hk:w.heap.size<=k:=hk;omega),r.2.tr c (fun k h1 hk=>by have hk:w.heap.size<=k:=hk;omega)⟩
 by_cases k2:(cH p).kind=2
 ·
  have wf:=Dx k2;have ho:gU d.T.C d.hs.length x p=(x,none):=by unfold gU;rw[if_pos k2]
  unfold wQ;rw[ho];have m0:=wf.Ej;have m1:=wf.Ek;generalize cH p=y at *;obtain⟨kd,tn,cd,eh,ea,eb,yO,wk,mi⟩:=y;simp only at k2 m0 m1;subst k2;obtain⟨wh,rfl⟩:∃wh:Nat,mi=wh:=⟨mi.toNat,by omega⟩;have:=Dk (S:=fun k=>d.lo<=k/\k<d.hi) (R:=fun a=>sj a d (n+1) x/\cu (fun k=>d.lo<=k/\k<d.hi) w a) h0 hm (by omega) (fun k hk=>by omega) tn cd eh ea eb yO wk wh (by omega) (fun W hb=>by
   obtain⟨ws,fi⟩:=id h;refine((fi.cA hb).step (by omega) wk ((wh/8:Nat):Int) (z:=((wh%8:Nat):Int)) (by omega) (by omega)).mono ?_;rintro e w' ⟨b,rfl,cR,f2,c2⟩;exact⟨b,rfl,c2,sj.up ⟨cR,f2⟩ hn,(cu.cD hb).trans c2⟩) (fun a y r=>clo a _ r ((cu.refl _ a).row (p:=w.heap.size+1) (.inl (by show w.heap.size<=w.heap.size+1;omega)) y))
  exact this.mono (fun e w' q=>⟨q.1,q.2⟩)
 .by_cases k1:(cH p).kind=1
  .obtain⟨wf,t0⟩:=Av k1
   obtain⟨qi,qc⟩:=NF wf;by_cases lt:(cH p).cQ<d.hs.length
   ·
    have ho:gU d.T.C d.hs.length x p=(cP x (cH p).cQ.toNat (jk (d.T.C (cH p).cQ.toNat) (x (cH p).cQ.toNat) (ix (cH p))).1,some ((cH p).cQ,(jk (d.T.C (cH p).cQ.toNat) (x (cH p).cQ.toNat) (ix (cH p))).2)):=by unfold gU;rw[if_neg k2,if_pos ⟨k1,lt⟩]
    unfold wQ;rw[ho];generalize cH p=y at *;obtain⟨kd,tn,cd,eh,ea,eb,yO,wk,mi⟩:=y;simp only at k1 t0 lt;subst k1;obtain⟨t,rfl⟩:∃t:Nat,tn=t:=⟨tn.toNat,by omega⟩;simp only[aG];have ht:t<d.hs.length:=by omega
    have Rw:∀a b,(sj a d (n+1) (cP x t (jk (d.T.C t) (x t) (ix ⟨1,t,cd,eh,ea,eb,yO,wk,mi⟩)).1)/\cu (fun k=>d.lo<=k/\k<d.hi) w a)→cu (fun k=>w.heap.size<=k) a b→(sj b d (n+1) (cP x t (jk (d.T.C t) (x t) (ix ⟨1,t,cd,eh,ea,eb,yO,wk,mi⟩)).1)/\cu (fun k=>d.lo<=k/\k<d.hi) w b):=fun a b r c=>⟨r.1.bY c (fun k _ hk=>by have hk:w.heap.size<=k:=hk;omega),r.2.tr c (fun k h1 hk=>by have hk:w.heap.size<=k:=hk;omega)⟩
    have Rx:((ix ⟨1,t,cd,eh,ea,eb,yO,wk,mi⟩).code:Int)=cd:=qc;have:=An (S:=fun k=>d.lo<=k/\k<d.hi) (R:=fun a=>sj a d (n+1) (cP x t (jk (d.T.C t) (x t) (ix ⟨1,t,cd,eh,ea,eb,yO,wk,mi⟩)).1)/\cu (fun k=>d.lo<=k/\k<d.hi) w a) h0 hm (by omega) (fun k hk=>by omega) t cd eh ea eb yO wk mi 0 (jk (d.T.C t) (x t) (ix ⟨1,t,cd,eh,ea,eb,yO,wk,mi⟩)).2 true rfl (fun W hb=>by
     have dd:=(fi.cA hb).Eh ht (ix ⟨1,t,cd,eh,ea,eb,yO,wk,mi⟩) qi (by omega);rw[Rx] at dd;refine dd.mono ?_;rintro e w' ⟨rfl,cR,f2,c2⟩;refine⟨rfl,c2,⟨cR,?_⟩,(cu.cD hb).trans c2⟩;rw[show((2*(n+1)+1:Nat):Int)=((2*n+1:Nat):Int)+2 by omega];exact f2) Rw
    exact this.mono (fun e w' q=>⟨q.1,q.2⟩)
   .have ho:gU d.T.C d.hs.length x p=(x,some (-1,Sn.told 250)):=by unfold gU;rw[if_neg k2,if_neg (fun q=>lt q.2)]
    unfold wQ;rw[ho];generalize cH p=y at *;obtain⟨kd,tn,cd,eh,ea,eb,yO,wk,mi⟩:=y;simp only at k1 t0 lt;subst k1;obtain⟨t,rfl⟩:∃t:Nat,tn=t:=⟨tn.toNat,by omega⟩;have Rx:((ix ⟨1,t,cd,eh,ea,eb,yO,wk,mi⟩).code:Int)=cd:=qc;have:=An (S:=fun k=>d.lo<=k/\k<d.hi) (R:=fun a=>sj a d (n+1) x/\cu (fun k=>d.lo<=k/\k<d.hi) w a) h0 hm (by omega) (fun k hk=>by omega) t cd eh ea eb yO wk mi 2 (Sn.told 0) false rfl (fun W hb=>by
     have dd:=(fi.cA hb).none (t:=t) (by omega) (ix ⟨1,t,cd,eh,ea,eb,yO,wk,mi⟩);rw[Rx] at dd;refine dd.mono ?_;rintro e w' ⟨rfl,cN⟩;exact⟨rfl,cu.cD cN,sj.up ⟨ws,(fi.cA hb).cA cN⟩ hn,(cu.cD hb).trans (cu.cD cN)⟩) clo
    exact this.mono (fun e w' q=>⟨q.1,q.2⟩)
  .have ho:gU d.T.C d.hs.length x p=(x,some (-1,Sn.told 250)):=by unfold gU;rw[if_neg k2,if_neg (fun q=>k1 q.1)]
   unfold wQ;rw[ho];generalize cH p=y at *;obtain⟨kd,tn,cd,eh,ea,eb,yO,wk,mi⟩:=y;simp only at k1 k2;have:=Hy (w:=w) (R:=fun a=>sj a d (n+1) x/\cu (fun k=>d.lo<=k/\k<d.hi) w a) d.m ⟨h.up hn,cu.refl _ w⟩ kd tn cd eh ea eb yO wk mi (by rw[aA];exact k2) (by rw[aA];exact k1) clo;exact this.mono (fun e w' q=>⟨q.1,q.2⟩)
end Mc
namespace Sw
open Go.RowKit Go.bZ Go.Gc Sl Mm Hd Bd Gy Bt Tb Pn Mk Ar
theorem fQ{w:World}{E:Env}{ws:List Int}{s:St}{N:Int}(h:cY w E ws s N)(ha:lE w (E.A 3) (E.A 4) (E.A 5) (E.A 1) E.n s.T s.used)(h0:at' E.bs E.tn ws (addrOf E.pw E.rs 0)=0)(se:0<E.n):ak 70 #[af (aj (E.A 1)),af (aj (E.A 3)),af (aj (E.A 0)),af (aj (E.A 20))] w fun e w'=>∃m r g,e=ae (.tuple #[af (aj m),U 0])/\cj w' m #[af (aj (E.A 3)),af (aj (E.A 0)),af (aj (E.A 20)),af (aj r),U 0,.bool false] 211/\ee w' r g E.n (fun _=>false)/\Below w.heap.size w w'/\(w.heap.size<=r/\w.heap.size<=g)/\r<m/\g<m:=by
 obtain⟨k,r,sl⟩:=gq h.cx.ok se;have dh:ak 97 #[af (aj (E.A 0)),U 0] w fun e w'=>e=ae (.tuple #[.agg #[U 0,U 0,U 0],U 5])/\Below w.heap.size w w':=tZ h.cx sl se 0 h0 (by decide)
 have HO:Hid (∀W,Below w.heap.size w W→∃cz:Int,ak 103 #[af (aj (E.A 20)),U 0] W fun e w'=>e=ae (.tuple #[ab cz,U 0])/\W=w'):=bU (fun W hW=>⟨_,Mk.oA (h.cA hW) se⟩);have HS:Hid (∀W,Below w.heap.size w W→(ak 68 #[af (aj (E.A 1))] W fun e w'=>e=ae (U E.n)/\W=w')/\(ak 104 #[af (aj (E.A 3))] W fun e w'=>∃q,e=ae (af (aj q))/\Below W.heap.size W w')):=bU (fun W hW=>⟨ik (h.cx.cA hW).pl,Ar.JH (ha.cA hW) se⟩);have hn:E.n<=65536:=h.cx.pl.jU;have HB:Hid (∀W,ak 94 #[U E.n] W fun e w'=>∃p g,e=ae (.tuple #[af (aj p),U 0])/\ee w' p g E.n (fun _=>false)/\Below W.heap.size W w'/\W.heap.size<=p/\W.heap.size<=g):=bU (fun W=>Bt.kP W E.n hn);have e1:((E.n:Int)==0)=false:=by rw[aA];omega
 clear h ha h0 se hn sl;generalize E.A 1=p1 at *;generalize E.A 3=p3 at *;generalize E.A 20=Ry at *;go_enter func70,ntmps70;go_wp2_with (first
  | (go_at_call 97;(with_reducible refine dh.mono ?_);rintro e w1 ⟨rfl,hb⟩;have H1:Hid (Below w.heap.size w (w1.alloc (.cells #[U 0,U 0,U 0] 195))):=bU (bA hb (av _) _);obtain⟨cz,dO⟩:=HO.out _ H1.out;obtain⟨dS,dC⟩:=HS.out _ H1.out;clear hb)
  | (go_at_call 103;(with_reducible refine dO.mono ?_);rintro e w2 ⟨rfl,rfl⟩)
  | (go_at_call 68;(with_reducible refine dS.mono ?_);rintro e w2 ⟨rfl,rfl⟩)
  | (go_at_call 104;(with_reducible refine dC.mono ?_);rintro e w3 ⟨q3,rfl,hb⟩;have H3:=bU (bT H1.out hb H1.out.size);obtain⟨Vd,-⟩:=HS.out _ H3.out;clear hb)
  | (go_at_call 68;(with_reducible refine Vd.mono ?_);rintro e w4 ⟨rfl,rfl⟩)
  | (go_at_call 94;(with_reducible refine(HB.out _).mono ?_);rintro e w5 ⟨rr,rg,rfl,hr,hb,k1,k2⟩;have R5:=bU hr;have H5:=bU hb;clear hr hb))
 go_ret2
 have dJ:=H3.out;have uK:=H5.out;have l3:=dJ.size;have lt:=R5.out.lt;have hA:Below w5.heap.size w5 (w5.alloc (.cells #[af (aj p3),af (aj (E.A 0)),af (aj Ry),af (aj rr),U 0,.bool false] 211)):=bA (bV _ _) (av _) _;exact⟨w5.heap.size,rr,rg,rfl,cj.new _ _ _,R5.out.cA hA,bA (dJ.trans (uK.mono l3)) (av _) _,⟨aE l3 k1,aE l3 k2⟩,lt.1,lt.2⟩
end Sw
namespace Pn
open Go.RowKit Go.bZ Go.Gc Bt
theorem NG{w:World}{g:Nat}{cs:List Int}(hb:cj w g (ints .u8 cs) 5)(se:cs.length<=65536):
  ak 125 #[ai (aj g) cs.length cs.length] w fun e w'=>∃a m k,e=ae (.slice a m k)/\Below w.heap.size w w':=by
 have hq:∀w,(binOp .eql 27 (ai (aj g) cs.length cs.length) (ai none 0 0)).run prog w=.ok (.bool false) w:=fun w=>by
  have he:=run_equal_slice_nil (P:=prog) w 27 5 (some ⟨g,0,none⟩) cs.length cs.length underlying27;simp[binOp,go_sem,he]
 obtain⟨i0,hi,iX,jm,nQ⟩:=info_parts Lx;have OW:=bU (World.ownsRow_made (base:=w.heap.size) (e:=5) (size:=1) w #[] 0 (av _) (by unfold maxLen;omega) rfl);have B1:=bU ((bV w.heap.size w).alloc (av _) (.cells #[] 5));have X1:Hid (Src prog 1 27 (ai (aj g) cs.length cs.length) cs.length (cs.map (Value.int .u8)) (w.alloc (.cells #[] 5))):=bU (Src.ofSlice _ underlying27 ⟨g,0,none⟩ cs.length cs.length _ (by rw[List.length_map,bP]) (fun j u hj=>by
  have hadd:(⟨g,0,none⟩:Addr).add j=⟨g,0+j,none⟩:=by unfold Addr.add;split <;> simp_all
  rw[hadd,bM];refine fq ((hb.cell j).trans ?_) _;unfold ints;rw[aO];exact hj) (fun u hu=>by obtain⟨x,_,rfl⟩:=List.mem_map.1 hu;rfl))
 generalize cs.map (Value.int .u8)=L at *;generalize cs.length=n at *;clear hb;go_enter func125,ntmps125;go_wp2_with (at_builtin;refine fA _ rfl _ _ 27 27 rfl w.heap.size 5 i0 (ab 0) 1 1 underlying27 hi iX jm nQ rfl _ 0 [] rfl OW.out (ai (aj g) n n) n _ rfl X1.out (show Value.slice (some ⟨w.heap.size,0,none⟩) 0 0≠.slice none 0 0 from by simp) ?c1 ?c2 ?c3 ?_)
 case c1=>unfold maxLen;omega
 case c2=>omega
 case c3=>simp
 intro v1 w1 hown hgrow _;obtain⟨a9,m9,k9,rfl⟩:∃a m k,v1=.slice a m k:=by
  obtain⟨_,⟨h9,_⟩|⟨g9,pM,Mw,h9,_⟩⟩:=hown
  .exact⟨_,_,_,h9⟩
  .exact⟨_,_,_,h9⟩
 have HB:=bU (B1.out.grown hgrow (by simp) (fun j hj=>(OW.out.lt j hj).1));clear hown hgrow;go_wp2_with fail;go_ret;exact⟨_,_,_,rfl,HB.out⟩
theorem Ik{w:World}{q g2 p g:Nat}{cs:List Int}(h:iV w q g2 p g cs)(hn:0<cs.length)(sh:cs.length<=65536):
  ak 99 #[af (aj q)] w fun e w'=>∃b,e=ae (af (aj b))/\Below w.heap.size w w':=by
 have d:=cC h;have HC:Hid (∀W,Below w.heap.size w W→W.cell? (aj q)=some (af (aj p))/\W.cell? (aj q 1)=some (ai (aj g2) cs.length cs.length)):=bU (fun W hW=>⟨(h.cA hW).b0.cell 0,(h.cA hW).b0.cell 1⟩);have D1:Hid (∀W,Below w.heap.size w W→ak 124 #[af (aj p)] W fun e w'=>∃b,e=ae (af (aj b))/\Below W.heap.size W w'):=bU (fun W hW=>Bt.qC (h.cA hW).row hn);have D2:Hid (∀W,Below w.heap.size w W→ak 125 #[ai (aj g2) cs.length cs.length] W fun e w'=>∃a m k,e=ae (.slice a m k)/\Below W.heap.size W w'):=bU (fun W hW=>NG (h.cA hW).b1 sh);obtain⟨c0,c1⟩:=HC.out w (bV _ _);clear h;generalize cs.length=n at *;go_enter func99,ntmps99;go_wp2_with (go_at_call 123;(with_reducible refine d.mono ?_);rintro e w' ⟨rfl,rfl⟩)
 go_region_held3 (fun W=>W.cell? (aj q)=some (af (aj p))/\W.cell? (aj q 1)=some (ai (aj g2) n n)) (first|exact⟨y0,y1⟩|exact⟨x0,x1⟩|go_keep)
  (first|(go_at_call 124;(with_reducible refine(D1.out _ (by first|exact H2.out|exact bd (bV _ _))).mono ?_);rintro e w2 ⟨b,rfl,hb⟩;have H1:=bU (fj (by first|exact H2.out|exact bd (bV _ _)) hb);obtain⟨x0,x1⟩:=HC.out w2 H1.out;clear hb)|(go_at_call 125;(with_reducible refine(D2.out _ (by first|exact H1.out|exact bd (bV _ _))).mono ?_);rintro e w3 ⟨a9,m9,k9,rfl,hb⟩;have H2:=bU (fj (by first|exact H1.out|exact bd (bV _ _)) hb);obtain⟨y0,y1⟩:=HC.out w3 H2.out;clear hb))
 all_goals
  go_wp2_with fail;go_ret;exact⟨_,rfl,bA (by first|exact H2.out|exact H1.out) (av _) _⟩
end Pn
end Go.Proofs.YtgblmelijlgimaaGreatDoor
