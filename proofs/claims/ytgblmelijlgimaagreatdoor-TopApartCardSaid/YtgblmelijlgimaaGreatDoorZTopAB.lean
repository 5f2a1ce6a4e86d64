/- Parts of the proof of TopApart. -/
import Derived.Test.YtgblmelijlgimaaGreatDoorZTopAA
import Derived.Deep.RegionHeld3
import Derived.RangeFuncNested
import Derived.RangeFuncBound
import Derived.Shelf.RegionOpen
import Derived.OwnWalkIn
import Derived.LoopNIn
import Derived.LoopIn
import Derived.Shelf.Spec.TrailingZeros
set_option maxRecDepth 100000
namespace Go.Proofs.YtgblmelijlgimaaGreatDoor
open Go.Proofs.Tryz
namespace Bt
open Go.RowKit Go.bZ
theorem Es:(prog.info? 36).bind (·.zero)=some (aa 0):=by kernel_rfl
theorem uQ(k:IntKind)(n:Nat):(Builtin.zeroCells (Value.int k 0).cells n).toList=List.replicate n (Value.int k 0):=by
 unfold Builtin.zeroCells;simp[Value.cells,Nat.mod_one,List.map_const']
theorem oL{w:World}{p g n:Nat}{f:Nat→Bool}(h:ee w p g n f)(hn:0<n):ak 311 #[af (aj p)] w fun e w'=>e=ae (.tuple #[])/\ee w' p g n (fun _=>false)/\cu (· =g) w w':=by
 have d:=cC h;obtain⟨ws,h,rfl⟩:=h;have hl:0<ws.length:=by have:=h.ln;omega
 have c0:w.cell? (aj p)=some (ai (aj g) ws.length ws.length):=h.b0.cell 0;have hs:(ints .u64 ws).size=ws.length:=by unfold ints;simp
 have hc:=fun ty=>kt (P:=prog) w 108 36 ty (aa 0) underlying108 Es g 0 ws.length ws.length (ints .u64 ws) 36 h.b1 hl (by rw[hs];simp[Value.cells]) (by intro u hu;simp[Value.cells] at hu;subst hu;rfl)
 rw[uQ] at hc;have he:((ints IntKind.u64 ws).toList.take 0++List.replicate ws.length (Value.int IntKind.u64 0)++(ints IntKind.u64 ws).toList.drop (0+ws.length*(Value.int IntKind.u64 0).cells.size)).toArray=ints .u64 (List.replicate ws.length 0):=by
  unfold ints;apply Array.ext';simp[Value.cells,List.drop_of_length_le]
 rw[he] at hc;have HR:Hid (ee (w.setRow g (ints .u64 (List.replicate ws.length 0))) p g n (fun _=>false)):=bU ⟨List.replicate ws.length 0,⟨by rw[aN];exact h.b0.qy h.ne _,h.b1.setRow _,by rw[aN];exact h.ln,h.nn,fun x hx=>by rw[aQ hx];omega,fun i _=>nW _ _,h.ne⟩,funext (nW _)⟩;clear h hs he;go_enter func311,ntmps311;go_wp2_with (go_at_call 159;refine d.mono ?_;rintro e w' ⟨rfl,rfl⟩)
 go_end0
 exact⟨rfl,HR.out,(cu.refl (· =g) w).row (.inl rfl) _⟩
theorem qC{w:World}{p g n:Nat}{f:Nat→Bool}(h:ee w p g n f)(hn:0<n):ak 124 #[af (aj p)] w fun e w'=>∃q,e=ae (af (aj q))/\Below w.heap.size w w':=by
 have d:=cC h;obtain⟨ws,h,rfl⟩:=h;have c0:w.cell? (aj p)=some (ai (aj g) ws.length ws.length):=h.b0.cell 0;have c1:w.cell? (aj p 1)=some (U n):=h.b0.cell 1;have cl:=fun w h=>AK w g ws.length ws.length ws h rfl
 have hw:ws.length<=100000:=by rw[h.ln];have:=h.nn;omega
 have hl:0<ws.length:=by have:=h.ln;omega
 have HP:=bU h;clear h;go_enter func124,ntmps124;go_wp2_with (go_at_call 159;refine d.mono ?_;rintro e w' ⟨rfl,rfl⟩)
 have hp:=HP.out.b0.lt;have hs:w.heap.size<=w.drew.heap.size/\w.drew.cell? (aj p)=some (ai (aj g) ws.length ws.length)/\w.drew.cell? (aj p 1)=some (U n)/\Below w.heap.size w w.drew:=⟨av _,c0,c1,(bV _ w).drew⟩;have hall:∀w',Below w.heap.size w w'→w.heap.size<=w'.heap.size/\w'.cell? (aj p)=some (ai (aj g) ws.length ws.length)/\w'.cell? (aj p 1)=some (U n)/\Below w.heap.size w w':=fun w' hb=>⟨hb.size,(hb.cell (p:=⟨p,0,none⟩) hp).trans c0,(hb.cell (p:=⟨p,1,none⟩) hp).trans c1,hb⟩
 clear c0 c1;go_region_held3 (fun w'=>w.heap.size<=w'.heap.size/\w'.cell? (aj p)=some (ai (aj g) ws.length ws.length)/\w'.cell? (aj p 1)=some (U n)/\Below w.heap.size w w') (first|assumption|exact hall _ (pK.2.2.2.alloc pK.1 _)|go_keep)
  (first
   | (go_at_call 90;(with_reducible refine(cl _ (HP.out.b1.below (by first|exact hs.2.2.2|exact bV _ _) HP.out.b1.lt) hw).mono ?_);rintro e w2 ⟨v,rfl,ho,hb⟩;obtain⟨g2,mR,rfl,-⟩:=I2 ho hl;clear ho;have pK:w.heap.size<=w2.heap.size/\w2.cell? (aj p)=some (ai (aj g) ws.length ws.length)/\w2.cell? (aj p 1)=some (U n)/\Below w.heap.size w w2:=⟨hb.size,(hb.cell (p:=⟨p,0,none⟩) hp).trans hs.2.1,(hb.cell (p:=⟨p,1,none⟩) hp).trans hs.2.2.1,hs.2.2.2.trans hb⟩))
 go_wp2_with fail;go_ret;exact⟨_,rfl,pK.2.2.2.alloc pK.1 _⟩
end Bt
namespace Bt
open Go.RowKit
theorem pX(k m x:Nat)(hm:∀i,i<64→m.testBit i=true\/(k<=i/\m.testBit (i-k)=true))(hx:x<2^64)(h1:x &&& m=0)(h2:(x/2^k) &&& m=0):x=0:=by
 apply Nat.eq_of_testBit_eq;intro i;rw[Nat.zero_testBit];by_cases hi:i<64
 .rcases hm i hi with h|⟨hk,h⟩
  .have:=congrArg (fun n=>Nat.testBit n i) h1
   simpa[Nat.testBit_and,h] using this
  .have:=congrArg (fun n=>Nat.testBit n (i-k)) h2
   simp only[Nat.testBit_and,h,Bool.and_true,Nat.zero_testBit,Nat.testBit_div_two_pow] at this
   rwa [Nat.sub_add_cancel hk] at this
 .exact Nat.testBit_lt_two_pow (aB hx (Nat.pow_le_pow_right (by decide) (by omega)))
inductive uH (b:Nat):Nat→Nat→Prop
 | nil:uH b 0 0
 | cons {a k r}:a<=b→uH b k r→uH b (k+1) (a+16*r)
theorem uH.add{b c:Nat}:∀{k n m:Nat},uH b k n→uH c k m→uH (b+c) k (n+m)
 | _,_,_,.nil,.nil=>.nil
 | _,_,_,.cons (a:=a) (r:=r) h1 d1,.cons (a:=a') (r:=r') h2 d2=>by
   have:=uH.cons (b:=b+c) (a:=a+a') (r:=r+r') (by omega) (d1.add d2)
   rwa [show a+a'+16*(r+r')=a+16*r+(a'+16*r') by omega] at this
theorem uH.low{b k n:Nat}(h:uH b k n):n%16<=b:=by
 cases h with
 | nil=>omega
 | cons h1 h2=>omega
theorem xm(a x c y:Nat)(ha:a<16)(hc:c<16):(a+16*x) &&& (c+16*y)=(a &&& c)+16*(x &&& y):=by
 have h1:=@Nat.and_mod_two_pow (a+16*x) (c+16*y) 4;have h2:=@Nat.and_div_two_pow (a+16*x) (c+16*y) 4;rw[show(2:Nat)^4=16 from rfl] at h1 h2;rw[show(a+16*x)%16=a by omega,show(c+16*y)%16=c by omega] at h1;rw[show(a+16*x)/16=x by omega,show(c+16*y)/16=y by omega] at h2;omega
def m3:Nat→Nat
 | 0=>0
 | k+1=>3+16*m3 k
theorem tL:∀(k y:Nat),uH 3 k (y &&& m3 k)
 | 0,y=>by simpa[m3] using uH.nil
 | k+1,y=>by
   have h:=xm (y%16) (y/16) 3 (m3 k) (by omega) (by omega);rw[show y%16+16*(y/16)=y by omega] at h;show uH 3 (k+1) (y &&& (3+16*m3 k));rw[h];exact .cons Nat.and_le_right (tL k _)
inductive IL:Nat→Nat→Prop
 | nil:IL 0 0
 | cons {a k r}:a<=12→IL k r→IL (k+1) (a+256*r)
def mf:Nat→Nat
 | 0=>0
 | k+1=>15+256*mf k
theorem I3(a b x y:Nat)(ha:a<16)(hb:b<16):(a+16*b+256*x) &&& (15+256*y)=a+256*(x &&& y):=by
 have h1:=xm a (b+16*x) 15 (16*y) ha (by omega);have h2:=xm b x 0 y hb (by omega);rw[show a+16*(b+16*x)=a+16*b+256*x by omega,show 15+16*(16*y)=15+256*y by omega] at h1;rw[show 0+16*y=16*y by omega,Nat.and_zero] at h2;have h3:a &&& 15=a:=by
  have:=@Nat.and_two_pow_sub_one_eq_mod a 4;rw[show(2:Nat)^4-1=15 from rfl] at this;omega
 rw[h3] at h1;omega
theorem zc:∀(k x:Nat),uH 6 (2*k) x→IL k ((x/16+x) &&& mf k)/\(((x/16+x) &&& mf k)=0↔x=0)
 | 0,x,h=>by
   cases h;exact⟨by simpa[mf] using IL.nil,by simp[mf]⟩
 | k+1,x,h=>by
   obtain⟨a,r0,ha,h0,rfl⟩:∃a r0,a<=6/\uH 6 (2*k+1) r0/\x=a+16*r0:=by
    cases h with
    | cons h1 h2=>exact⟨_,_,h1,h2,rfl⟩
   obtain⟨b,r,hb,hr,rfl⟩:∃b r,b<=6/\uH 6 (2*k) r/\r0=b+16*r:=by
    cases h0 with
    | cons h1 h2=>exact⟨_,_,h1,h2,rfl⟩
   have hl:r%16<=6:=hr.low;have ih:=zc k r hr;have e:=I3 (a+b) (b+r%16) (r/16+r) (mf k) (by omega) (by omega);rw[show a+b+16*(b+r%16)+256*(r/16+r)=(a+16*(b+16*r))/16+(a+16*(b+16*r)) by omega] at e;show IL (k+1) (_ &&& (15+256*mf k))/\((_ &&& (15+256*mf k))=0↔_);rw[e];refine⟨.cons (by omega) ih.1,?_⟩;have:=ih.2;omega
theorem iT{k x:Nat}(h:IL (k+1) x):∃a r,a<=12/\IL k r/\x=a+256*r:=by
 cases h with
 | cons h1 h2=>exact⟨_,_,h1,h2,rfl⟩
theorem Et{x:Nat}(h:IL 0 x):x=0:=by
 cases h
 rfl
theorem AN(c0 c1 c2 c3 c4 c5 c6 c7 x y z:Nat)(h0:c0<=12)(h1:c1<=12)(h2:c2<=12)(h3:c3<=12)(h4:c4<=12)(h5:c5<=12)(h6:c6<=12)(h7:c7<=12)
 (e:x=c0+256*c1+65536*c2+16777216*c3+4294967296*c4+1099511627776*c5+281474976710656*c6+72057594037927936*c7)(ey:y=x+x/256)(ez:z=y+y/65536):
  x<18446744073709551616/\((z+z/4294967296)%128=0↔x=0)/\y<18446744073709551616/\z<18446744073709551616/\z+z/4294967296<18446744073709551616:=by
 have q1:x/256=c1+256*c2+65536*c3+16777216*c4+4294967296*c5+1099511627776*c6+281474976710656*c7:=by omega
 rw[q1] at ey;clear q1;have q2:y/65536=(c2+c3)+256*(c3+c4)+65536*(c4+c5)+16777216*(c5+c6)+4294967296*(c6+c7)+1099511627776*c7:=by omega
 rw[q2] at ez;clear q2;have q3:z/4294967296=(c4+c5+c6+c7)+256*(c5+c6+c7)+65536*(c6+c7)+16777216*c7:=by omega
 rw[q3];clear q3;have q4:z+((c4+c5+c6+c7)+256*(c5+c6+c7)+65536*(c6+c7)+16777216*c7)=(c0+c1+c2+c3+c4+c5+c6+c7)+128*(2*((c1+c2+c3+c4+c5+c6+c7)+256*(c2+c3+c4+c5+c6+c7)+65536*(c3+c4+c5+c6+c7)+16777216*(c4+c5+c6+c7)+4294967296*(c5+c6+c7)+1099511627776*(c6+c7)+281474976710656*c7)):=by omega
 refine⟨by omega,?_,by omega,by omega,by omega⟩;generalize (2*((c1+c2+c3+c4+c5+c6+c7)+256*(c2+c3+c4+c5+c6+c7)+65536*(c3+c4+c5+c6+c7)+16777216*(c4+c5+c6+c7)+4294967296*(c5+c6+c7)+1099511627776*(c6+c7)+281474976710656*c7))=t at q4;rw[q4];clear q4 ey ez;have q5:(c0+c1+c2+c3+c4+c5+c6+c7+128*t)%128=c0+c1+c2+c3+c4+c5+c6+c7:=by clear e;omega
 rw[q5];clear q5;constructor
 .intro hz
  have:c0=0/\c1=0/\c2=0/\c3=0/\c4=0/\c5=0/\c6=0/\c7=0:=by clear e;omega
  obtain⟨rfl,rfl,rfl,rfl,rfl,rfl,rfl,rfl⟩:=this;rw[e]
 .intro hz
  rw[hz] at e;clear hz;omega
theorem I4{x:Nat}(h:IL 8 x)(y z:Nat)(ey:y=x+x/256)(ez:z=y+y/65536):
  x<18446744073709551616/\((z+z/4294967296)%128=0↔x=0)/\y<18446744073709551616/\z<18446744073709551616/\z+z/4294967296<18446744073709551616:=by
 obtain⟨c0,r0,h0,d0,g0⟩:=iT h;obtain⟨c1,r1,h1,d1,g1⟩:=iT d0;obtain⟨c2,r2,h2,d2,g2⟩:=iT d1;obtain⟨c3,r3,h3,d3,g3⟩:=iT d2;obtain⟨c4,r4,h4,d4,g4⟩:=iT d3;obtain⟨c5,r5,h5,d5,g5⟩:=iT d4;obtain⟨c6,r6,h6,d6,g6⟩:=iT d5;obtain⟨c7,r7,h7,d7,g7⟩:=iT d6;have g8:=Et d7;clear h d0 d1 d2 d3 d4 d5 d6 d7;exact AN c0 c1 c2 c3 c4 c5 c6 c7 x y z h0 h1 h2 h3 h4 h5 h6 h7 (by clear ey ez;omega) ey ez
theorem xn(x:Nat):wrap64 (x:Int)%128=((x%128:Nat):Int):=by
 unfold wrap64;omega
def Eu(x:Nat):Nat:=(x/2 &&& 6148914691236517205)+(x &&& 6148914691236517205)
def Ev(x:Nat):Nat:=(x/4 &&& 3689348814741910323)+(x &&& 3689348814741910323)
def Ew(x:Nat):Nat:=(x/16+x) &&& 1085102592571150095
def Ex(x:Nat):Nat:=x+x/256
def zd(x:Nat):Nat:=x+x/65536
def Ey(x:Nat):Nat:=x+x/4294967296
def mW(x:Nat):Nat:=Ey (zd (Ex (Ew (Ev (Eu x)))))%128
theorem uR(x:Nat)(h:x<18446744073709551616)(w:World):ak 306 #[aa x] w fun e w'=>e=ae (U (mW x:Int))/\mW x<=127/\(mW x=0↔x=0)/\w=w':=by
 have wr:∀n:Nat,n<18446744073709551616→IntKind.u64.wrap (n:Int)=n:=fun n hn=>by
  simp[IntKind.wrap,IntKind.bits,IntKind.signed];omega
 obtain⟨x1,e1⟩:∃x1,x1=Eu x:=⟨_,rfl⟩;obtain⟨x2,e2⟩:∃x2,x2=Ev x1:=⟨_,rfl⟩;obtain⟨x3,e3⟩:∃x3,x3=Ew x2:=⟨_,rfl⟩;obtain⟨x4,e4⟩:∃x4,x4=Ex x3:=⟨_,rfl⟩;obtain⟨x5,e5⟩:∃x5,x5=zd x4:=⟨_,rfl⟩;obtain⟨x6,e6⟩:∃x6,x6=Ey x5:=⟨_,rfl⟩;have eF:mW x=x6%128:=by rw[e6,e5,e4,e3,e2,e1];rfl
 rw[eF];clear eF;unfold Eu at e1;unfold Ev at e2;unfold Ew at e3;unfold Ex at e4;unfold zd at e5;unfold Ey at e6;have a1:x/2 &&& 6148914691236517205<=6148914691236517205:=Nat.and_le_right;have a2:x &&& 6148914691236517205<=6148914691236517205:=Nat.and_le_right;have a3:x1/4 &&& 3689348814741910323<=3689348814741910323:=Nat.and_le_right;have a4:x1 &&& 3689348814741910323<=3689348814741910323:=Nat.and_le_right;have l1:x1<18446744073709551616:=by omega
 have l2:x2<8000000000000000000:=by omega
 have z1:x1=0↔x=0:=by
  constructor
  .intro hz
   exact pX 1 6148914691236517205 x (by decide) (by simpa using h) (by omega) (by rw[Nat.pow_one];omega)
  .intro hz
   subst hz;simp at e1;exact e1
 have z2:x2=0↔x1=0:=by
  constructor
  .intro hz
   exact pX 2 3689348814741910323 x1 (by decide) (by simpa using l1) (by omega) (by rw[show(2:Nat)^2=4 from rfl];omega)
  .intro hz
   subst hz;simp at e2;exact e2
 have d2:uH 6 16 x2:=by
  rw[e2];exact uH.add (tL 16 (x1/4)) (tL 16 x1)
 have o3:=zc 8 x2 d2;rw[show mf 8=1085102592571150095 from rfl,←e3] at o3;have w1:IntKind.u64.wrap (bits .and .u64 ((x:Int)/2) 6148914691236517205+bits .and .u64 (x:Int) 6148914691236517205)=(x1:Int):=by
  have t1:=u64_and_nat (x/2) 6148914691236517205 (by omega) (by omega);have t2:=u64_and_nat x 6148914691236517205 h (by omega);rw[show((x:Int)/2)=((x/2:Nat):Int) by omega]
  erw [t1,t2]
  rw[←aY,←e1];exact wr _ l1
 have w2:IntKind.u64.wrap (bits .and .u64 ((x1:Int)/4) 3689348814741910323+bits .and .u64 (x1:Int) 3689348814741910323)=(x2:Int):=by
  have t1:=u64_and_nat (x1/4) 3689348814741910323 (by omega) (by omega);have t2:=u64_and_nat x1 3689348814741910323 l1 (by omega);rw[show((x1:Int)/4)=((x1/4:Nat):Int) by omega]
  erw [t1,t2]
  rw[←aY,←e2];exact wr _ (by omega)
 have w3:bits .and .u64 (IntKind.u64.wrap ((x2:Int)/16+(x2:Int))) 1085102592571150095=(x3:Int):=by
  have t1:=u64_and_nat (x2/16+x2) 1085102592571150095 (by omega) (by omega);rw[show((x2:Int)/16+(x2:Int))=((x2/16+x2:Nat):Int) by omega,wr _ (by omega)]
  erw [t1]
  rw[←e3]
 have s:=I4 o3.1 x4 x5 e4 e5;rw[←e6] at s;have w4:IntKind.u64.wrap ((x3:Int)+(x3:Int)/256)=(x4:Int):=by
  rw[show((x3:Int)+(x3:Int)/256)=((x4:Nat):Int) by omega];exact wr _ s.2.2.1
 have w5:IntKind.u64.wrap ((x4:Int)+(x4:Int)/65536)=(x5:Int):=by
  rw[show((x4:Int)+(x4:Int)/65536)=((x5:Nat):Int) by omega];exact wr _ s.2.2.2.1
 have w6:IntKind.u64.wrap ((x5:Int)+(x5:Int)/4294967296)=(x6:Int):=by
  rw[show((x5:Int)+(x5:Int)/4294967296)=((x6:Nat):Int) by omega];exact wr _ s.2.2.2.2
 have z6:x6%128=0↔x=0:=by rw[s.2.1,o3.2,z2,z1]
 have WS:=bU (And.intro w1 (And.intro w2 (And.intro w3 (And.intro w4 (And.intro w5 w6)))));clear w1 w2 w3 w4 w5 w6 e1 e2 e3 e4 e5 e6 s o3 d2 z1 z2 a1 a2 a3 a4 wr;go_enter func306,ntmps306;go_wp2_with fail;go_ret;refine⟨?_,by omega,z6,rfl⟩;obtain⟨w1,w2,w3,w4,w5,w6⟩:=WS.out;simp only[w1,w2,w3,w4,w5,w6];show Ending.returned (Value.int IntKind.i64 (bits BinOp.and IntKind.i64 (wrap64 (x6:Int)) 127))=_;rw[i64_and127,xn]
end Bt
namespace Bt
open Go.RowKit Go.bZ
def sk(ws:List Int):Nat:=(ws.map fun x=>mW x.toNat).sum
theorem uS(x:Nat):mW x<=127:=by unfold mW;omega
theorem ze:∀ws:List Int,sk ws<=127*ws.length
 | []=>by simp[sk]
 | x::l=>by
   have h1:=ze l;have h2:=uS x.toNat;unfold sk at h1 ⊢;simp only[List.map_cons,List.sum_cons,aC];omega
theorem AO(ws:List Int)(k:Nat)(hk:k<ws.length):sk (ws.take (k+1))=sk (ws.take k)+mW ws[k].toNat:=by
 unfold sk;rw[bB hk,List.map_append,List.sum_append];simp
theorem AP{w:World}{p g n:Nat}{ws:List Int}(h:L8 w p g n ws):ak 288 #[af (aj p)] w fun e w'=>e=ae (U (sk ws:Int))/\w=w':=by
 have d:=cC ⟨ws,h,rfl⟩;have c0:w.cell? (aj p)=some (ai (aj g) ws.length ws.length):=h.b0.cell 0;have hnn:=h.nn;have hln:=h.ln;have hl:ws.length<=1024:=by omega
 have HC:Hid (∀k,(hk:k<ws.length)→w.cell? (aj g k)=some (aa ws[k])):=bU fun k hk=>(h.b1.cell _).trans (ints_at _ _ _ hk)
 have HW:=bU h.wd;clear h hln hnn;go_enter func288,ntmps288;go_wp2_with (go_at_call 159;refine d.mono ?_;rintro e w' ⟨rfl,rfl⟩)
 go_loop [3,14] (fun s i=>∃(k:Nat),k<=ws.length/\i=U k/\s=U (sk (ws.take k):Int)) (fun _ i=>ws.length-(intOf i).toNat)
 case atStart=>exact⟨0,by omega,rfl,by simp[sk]⟩
 case round=>
  obtain⟨k,hk,rfl,rfl⟩:=hrel;by_cases hlt:k<ws.length
  .have ck:=HC.out k hlt
   have hs:=AO ws k hlt;have hw:=HW.out ws[k] (aF _);have hle:=ze (ws.take k);rw[List.length_take] at hle;obtain⟨W,hW⟩:∃W:Nat,ws[k]=(W:Int):=⟨ws[k].toNat,by omega⟩;rw[hW] at hs ck hw;rw[aG] at hs;have o:=fun wx=>uR W (by omega) wx
   have o1:=uS W;generalize mW W=c at *;generalize sk (ws.take k)=s at *;have hr:((s+c:Nat):Int)=(s:Int)+(c:Int):=aY s c;have HS:=bU hs;clear hW hs;go_wp2_with (go_at_call 306;refine(o _).mono ?_;rintro e w' ⟨rfl,-,-,rfl⟩)
   go_round
   case rel=>exact⟨k+1,by omega,by go_num,by rw[HS.out,hr]⟩
   case measure=>simp[intOf];omega
  .obtain rfl:k=ws.length:=by omega
   go_wp2_with fail;go_ret;exact⟨rfl,rfl⟩
end Bt
namespace Bt
open Go.RowKit Go.bZ Go.Shelf
attribute [local go_sem] Oper.semAt_some
def upto{α:Type}(f:Nat→α)(k:Nat):List α:=(List.range k).map f
theorem oM{α:Type}(f:Nat→α)(k:Nat):upto f (k+1)=upto f k++[f k]:=by simp[upto,List.range_succ]
theorem uT{α:Type}(f:Nat→α)(k:Nat):(upto f k).length=k:=by simp[upto]
def fH(ws:List Int)(k0 L T j:Nat):Nat:=((ws.getD (k0+j) 0).toNat ^^^ T) &&& (18446744073709551615-(if j=0 then L else 0))
theorem jS(ws:List Int)(k0 L T j:Nat):fH ws k0 L T j<18446744073709551616:=by
 exact Nat.lt_of_le_of_lt Nat.and_le_right (by omega)
theorem uU(ws:List Int)(k0 L T j:Nat)(hw:∀x∈ws,0<=x/\x<18446744073709551616)(hT:T<18446744073709551616)(hL:L<18446744073709551616):
  bits .andNot .u64 (bits .xor .u64 (ws.getD (k0+j) 0) (T:Int)) ((if j=0 then L else 0:Nat):Int)=(fH ws k0 L T j:Int):=by
 have hx:0<=ws.getD (k0+j) 0/\ws.getD (k0+j) 0<18446744073709551616:=by
  rw[ao];by_cases h:k0+j<ws.length
  .rw[aq h];exact hw _ (aF _)
  .rw[List.getElem?_eq_none (by omega)];simp
 unfold fH;generalize ws.getD (k0+j) 0=x at *;obtain⟨X,rfl⟩:∃X:Nat,x=(X:Int):=⟨x.toNat,by omega⟩;rw[aG,u64_xor_nat _ _ (by omega) hT];have h1:X ^^^ T<2^64:=Nat.xor_lt_two_pow (by omega) hT;exact u64_andNot_nat _ _ h1 (by split <;> omega)
theorem tM(w:World):w.grownBy w.drew none:=by
 exact⟨rfl,rfl,rfl,av _,fun _ _ _=>rfl⟩
set_option maxHeartbeats 4000000 in
theorem Ez(n:Nat)(hn:1<=n)(l Bf Br Bt n₀ p g a T:Nat)(ws:List Int)
 (hl:ws.length<=1024)(ha:a<=65536)(hT:T<18446744073709551616)(hw:∀x∈ws,0<=x/\x<18446744073709551616)
 (dj:Br<n₀)(cN:Bt<n₀)(dJ:p<n₀)(ni:g<n₀)(J Jx:List (Nat×Nat)→World→Prop)
 (hY:∀pre x W,J pre W→pre.length<ws.length-a/64→YieldAt Fence.wide (n-1) prog l #[U ((x.1%2048:Nat):Int),aa ((x.2%18446744073709551616:Nat):Int)] W fun e W'=>
   (e=ae (.bool true)/\J (pre++[x]) W'/\Below n₀ W W')\/(e=ae (.bool false)/\Jx (pre++[x]) W'))
 (hAb:∀s W,J s W→J s W.drew)(W:World)(c1:W.cell? (aj Bf)=some (U a))(c2:W.cell? (aj Br)=some (af (aj p)))(c3:W.cell? (aj Bt)=some (aa T))
 (c4:W.cell? (aj p)=some (ai (aj g) ws.length ws.length))(c5:∀k,k<ws.length→W.cell? (aj g k)=some (aa (ws.getD k 0)))(h0:J [] W):
  CallsIn Fence.wide n prog 299 #[.func (.yield l) #[] #[],af (aj Bf),af (aj Br),af (aj Bt)] W fun e W'=>(∃v,e=ae v)/\
   ((∃ys,ys=upto (fun j=>(a/64+j,fH ws (a/64) (2^(a%64)-1) T j)) (ws.length-a/64)/\J ys W')\/(∃pre,(∃k,k<=ws.length-a/64/\pre=upto (fun j=>(a/64+j,fH ws (a/64) (2^(a%64)-1) T j)) k)/\Jx pre W')):=by
 obtain⟨L,hL⟩:=al (2^(a%64)-1);rw[hL];have hp:=qz (k:=a%64) (by omega);have I5:0<2^(a%64):=Nat.two_pow_pos _;have hwp:=qA (k:=a%64) (by omega);have hwb:=fun j=>uU ws (a/64) L T j hw hT (by omega)
 refine callsIn_of_wp func299 rfl trivial ?_ rfl;simp only[ntmps299,aP,aC,aV,Nat.reduceAdd,Nat.reduceSub,aL,aK,aT,aM,aU,aX]
 gi_wp2
 have hlow:IntKind.u64.wrap ((2:Int)^(a%64)-1)=(L:Int):=by
  have h2:((2:Int)^(a%64))=((2^(a%64):Nat):Int):=by rw[Int.natCast_pow];rfl
  rw[h2,IntKind.wrap_u64];generalize 2^(a%64)=N at *;omega
 clear hwp hL;have HC:=bU c5;have HY:=bU hY;have HB:=bU hwb;clear hp I5 c5 hY hwb
 gi_loopw [5,6] (fun lo i wr=>∃j:Nat,j<=ws.length-a/64/\i=U ((a/64+j:Nat):Int)/\lo=aa ((if j=0 then L else 0:Nat):Int)/\J (upto (fun j=>(a/64+j,fH ws (a/64) L T j)) j) wr/\Below n₀ W wr)
  (fun _ i _=>ws.length-(intOf i).toNat)
 case atStart=>exact⟨0,aW _,by simp,by rw[hlow];rfl,h0,bV _ _⟩
 case round=>
  obtain⟨j,hj,rfl,rfl,hJs,hnx⟩:=hrel;have d2:wr.cell? (aj Br)=_:=(hnx.cell (p:=⟨Br,0,none⟩) dj).trans c2;have d3:wr.cell? (aj Bt)=_:=(hnx.cell (p:=⟨Bt,0,none⟩) cN).trans c3;have d4:wr.cell? (aj p)=_:=(hnx.cell (p:=⟨p,0,none⟩) dJ).trans c4;obtain⟨K,hK⟩:=al (a/64+j);have hb:=HB.out j;have hu:=oM (fun j=>(a/64+j,fH ws (a/64) L T j)) j;have hul:=uT (fun j=>(a/64+j,fH ws (a/64) L T j)) j;rw[hK] at hu hb ⊢;by_cases hlt:K<ws.length
  .have d5:wr.cell? (aj g K)=_:=(hnx.cell (p:=⟨g,K,none⟩) ni).trans (HC.out _ hlt)
   obtain⟨fn,tmps,assign,body,hy,hR⟩:=HY.out _ (K,fH ws (a/64) L T j) wr.drew (hAb _ _ hJs) (by rw[hul];omega)
   dsimp only at hy
   rw[bf (show K<2048 by omega),bf (jS ws (a/64) L T j)] at hy;rw[←hu] at hR;have I6:=hR.mono (R':=fun e W'=>∃b:Bool,e=ae (.bool b)/\((b=true/\J (upto (fun j=>(a/64+j,fH ws (a/64) L T j)) (j+1)) W'/\Below n₀ wr.drew W')\/(b=false/\Jx (upto (fun j=>(a/64+j,fH ws (a/64) L T j)) (j+1)) W'))) (by
    rintro e W' (⟨h1,h2,h3⟩|⟨h1,h2⟩)
    .exact⟨true,h1,.inl ⟨rfl,h2,h3⟩⟩
    .exact⟨false,h1,.inr ⟨rfl,h2⟩⟩)
   clear hR;clear hul;have HU:=bU hu;clear hu;generalize fH ws (a/64) L T j=y at *;generalize ws.getD K 0=x at *;generalize (if j=0 then L else 0)=lo at *;have HK:=bU hK;clear hK hJs c1 c2 c3 c4 hlow h0;have hmx:prog.follows .mixedOrders=true:=by kernel_rfl
   gi_wp2
   gi_region_with_o (with_reducible refine I6.mono ?_;rintro e W3 ⟨b,rfl,Qo⟩)
   all_goals
    rcases Qo with⟨rfl,Qo,Md⟩|⟨rfl,Qp⟩
    .gi_wp2
     go_roundw
     case rel=>exact⟨j+1,by have:=HK.out;omega,by have:=HK.out;simp;omega,by simp,Qo,hnx.trans ((bV n₀ wr).drew.trans Md)⟩
     case measure=>simp[intOf];omega
    .gi_wp2
     refine bodyPost_ret (results_none rfl _ _ _) rfl ?_;exact⟨⟨_,rfl⟩,.inr ⟨_,⟨j+1,by have:=HK.out;omega,rfl⟩,Qp⟩⟩
  .have IM:j=ws.length-a/64:=by omega
   have HJ:=bU IM;generalize (if j=0 then L else 0)=lo at *;clear hb hu hul hlow IM
   gi_wp2
   go_end0
   exact⟨⟨_,rfl⟩,.inl ⟨_,rfl,by rw[←HJ.out];exact hJs⟩⟩
theorem zf(n p a T:Nat)(w:World):CallsIn Fence.wide n prog 272 #[af (aj p),U a,aa T] w fun e w'=>
  e=ae (.func (.func 299) #[] #[af (aj (w.heap.size+1)),af (aj w.heap.size),af (aj (w.heap.size+2))])/\
  w'=((w.alloc (.cells #[af (aj p)] 179)).alloc (.cells #[U a] 3)).alloc (.cells #[aa T] 36):=by
 refine callsIn_of_wp func272 rfl trivial ?_ rfl;simp only[ntmps272,aP,aC,aV,Nat.reduceAdd,Nat.reduceSub,aL,aK,aT,aM,aU,aX]
 gi_wp2
 go_ret;exact⟨rfl,rfl⟩
theorem AbidesFrom.pX{β:Type}{B:Nat}{J:β→World→Prop}(h:AbidesFrom B J):∀s W,J s W→J s W.drew:=fun s W hs=>h s W _ none hs (tM W) (fun r e=>by cases e)
theorem qD(n p g a T Bf Br Bt n₀:Nat)(hn:1<=n)(ws:List Int)(hl:ws.length<=1024)(ha:a<=65536)(hT:T<18446744073709551616)(hw:∀x∈ws,0<=x/\x<18446744073709551616)
 (dj:Br<n₀)(cN:Bt<n₀)(dJ:p<n₀)(ni:g<n₀)(w:World)(hf:Bf<w.heap.size)(hn₀:n₀<=w.heap.size)
 (c1:w.cell? (aj Bf)=some (U a))(c2:w.cell? (aj Br)=some (af (aj p)))(c3:w.cell? (aj Bt)=some (aa T))
 (c4:w.cell? (aj p)=some (ai (aj g) ws.length ws.length))(c5:∀k,k<ws.length→w.cell? (aj g k)=some (aa (ws.getD k 0))):
  SeqStopsK Fence.wide n prog 299 #[af (aj Bf),af (aj Br),af (aj Bt)]
   (fun x:Nat×Nat=>#[Value.int .i64 ((x.1%2048:Nat):Int),Value.int .u64 ((x.2%18446744073709551616:Nat):Int)]) (Below n₀)
   (fun ys=>ys=upto (fun j=>(a/64+j,fH ws (a/64) (2^(a%64)-1) T j)) (ws.length-a/64))
   (fun pre=>∃k,k<=ws.length-a/64/\pre=upto (fun j=>(a/64+j,fH ws (a/64) (2^(a%64)-1) T j)) k) (ws.length-a/64) w:=fun l J Jx W hW hJ _ hY h0=>
 Ez n hn l Bf Br Bt n₀ p g a T ws hl ha hT hw dj cN dJ ni J Jx hY (AbidesFrom.pX hJ) W ((hW.cell (p:=⟨Bf,0,none⟩) hf).trans c1) ((hW.cell (p:=⟨Br,0,none⟩) (aB dj hn₀)).trans c2) ((hW.cell (p:=⟨Bt,0,none⟩) (aB cN hn₀)).trans c3)
  ((hW.cell (p:=⟨p,0,none⟩) (aB dJ hn₀)).trans c4) (fun k hk=>(hW.cell (p:=⟨g,k,none⟩) (aB ni hn₀)).trans (c5 k hk)) h0
end Bt
namespace Bt
open Go.RowKit Go.Shelf
theorem I7(x k idx:Nat)(w:World)(uI:((x:Int)==0)=false)
 (key:IntKind.u64.wrap (bits BinOp.and IntKind.u64 (x:Int) (IntKind.u64.wrap (-(x:Int)))*285870213051353865)/288230376151711744=(idx:Int))
 (hi:idx<64)(hk:k<64)(fu:w.cell? (aj 2 idx)=some (ab k)):
  ak 273 #[aa x] w fun e w'=>e=ae (U k)/\w'=w:=by
 go_enter func273,ntmps273;go_wp2_with (simp only[key])
 go_ret;exact⟨rfl,rfl⟩
theorem EB(x:Nat)(hx:x<18446744073709551616)(uI:x≠0)(w:World)(hT:TabAt 2 Lib.deBruijn64tab w):
  ak 273 #[aa x] w fun e w'=>e=ae (U (Lib.ctz 64 x))/\w'=w:=by
 obtain⟨hlow,hk⟩:=Lib.lowest_bit 64 x uI hx;obtain⟨hi,htab⟩:=Lib.deBruijn64_at _ hk;have fu:=hT _ hi;rw[htab] at fu;exact I7 x _ _ w (by simp;omega) (tz64_key x _ hx uI hlow) hi hk fu
end Bt
namespace Bt
open Go.RowKit Go.bZ Go.Shelf
theorem pY(x:Nat)(hx:x<18446744073709551616)(h0:x≠0):Lib.ctz 64 x<64/\x.testBit (Lib.ctz 64 x)=true/\∀t,t<Lib.ctz 64 x→x.testBit t=false:=by
 obtain⟨m,hm,hk⟩:=Lib.ctzFrom_spec 64 x (by omega) hx;have e:Lib.ctz 64 x=Lib.ctzFrom 64 x:=by simp[Lib.ctz,h0]
 rw[e];generalize Lib.ctzFrom 64 x=c at *;subst hm;refine⟨hk,?_,fun t ht=>?_⟩
 .rw[Nat.testBit_two_pow_mul];simp
 .rw[Nat.testBit_two_pow_mul];simp;intro h;omega
def gE(b:Bool):Nat:=if b then 0 else 18446744073709551615
theorem sG(b:Bool):gE b<18446744073709551616:=by unfold gE;split <;> omega
theorem uV(t:Nat):(18446744073709551615:Nat).testBit t=decide (t<64):=by
 rw[show(18446744073709551615:Nat)=2^64-1 from rfl,Nat.testBit_two_pow_sub_one]
theorem qE(ws:List Int)(a j t:Nat)(b:Bool)(_hw:∀x∈ws,0<=x/\x<18446744073709551616)(hK:a/64+j<ws.length)(ht:t<64):
  (fH ws (a/64) (2^(a%64)-1) (gE b) j).testBit t=((bit ws (64*(a/64+j)+t)==b)&&decide (a<=64*(a/64+j)+t)):=by
 have hb:bit ws (64*(a/64+j)+t)=(ws.getD (a/64+j) 0).toNat.testBit t:=by
  unfold bit;rw[show(64*(a/64+j)+t)/64=a/64+j by omega,show(64*(a/64+j)+t)%64=t by omega]
 rw[hb];unfold fH;rw[Nat.testBit_and,Nat.testBit_xor];have h1:(18446744073709551615-(if j=0 then 2^(a%64)-1 else 0)).testBit t=decide (a<=64*(a/64+j)+t):=by
  by_cases hj:j=0
  .subst hj
   rw[if_pos rfl];have hp:=qz (k:=a%64) (by omega);have I5:0<2^(a%64):=Nat.two_pow_pos _;rw[show 18446744073709551615-(2^(a%64)-1)=2^64-((2^(a%64)-1)+1) from by rw[show(2:Nat)^64=18446744073709551616 from rfl];omega,Nat.testBit_two_pow_sub_succ (by rw[show(2:Nat)^64=18446744073709551616 from rfl];omega),Nat.testBit_two_pow_sub_one,aw ht,Bool.true_and];by_cases h:t<a%64
   .rw[aw h,az (by omega)];rfl
   .rw[az h,aw (by omega)];rfl
  .rw[if_neg hj,Nat.sub_zero,uV,aw ht,aw (by omega)]
 rw[h1]
 congr 1
 cases b
 .rw[show gE false=18446744073709551615 from rfl,uV,aw ht]
  cases (ws.getD (a/64+j) 0).toNat.testBit t <;> rfl
 .rw[show gE true=0 from rfl,Nat.zero_testBit]
  cases (ws.getD (a/64+j) 0).toNat.testBit t <;> rfl
theorem AQ(ws:List Int)(a j n:Nat)(b:Bool)(hw:∀x∈ws,0<=x/\x<18446744073709551616)(hK:a/64+j<ws.length)
 (h:fH ws (a/64) (2^(a%64)-1) (gE b) j=0\/n<=64*(a/64+j)+Lib.ctz 64 (fH ws (a/64) (2^(a%64)-1) (gE b) j))(t:Nat)(ht:t<64)(ha:a<=64*(a/64+j)+t)(hn:64*(a/64+j)+t<n):
  bit ws (64*(a/64+j)+t)≠b:=by
 intro he;have hb:=qE ws a j t b hw hK ht;rw[he,aw ha,beq_self_eq_true,Bool.true_and] at hb;rcases h with h|h
 .rw[h,Nat.zero_testBit] at hb;cases hb
 .have h0:fH ws (a/64) (2^(a%64)-1) (gE b) j≠0:=by
   intro h0;rw[h0,Nat.zero_testBit] at hb;cases hb
  have:=(pY _ (jS _ _ _ _ _) h0).2.2 t (by omega);rw[this] at hb;cases hb
theorem EC(ws:List Int)(a j:Nat)(b:Bool)(hw:∀x∈ws,0<=x/\x<18446744073709551616)(hK:a/64+j<ws.length)
 (h0:fH ws (a/64) (2^(a%64)-1) (gE b) j≠0)(c:Nat)(hc:c=Lib.ctz 64 (fH ws (a/64) (2^(a%64)-1) (gE b) j)):
  c<64/\bit ws (64*(a/64+j)+c)=b/\a<=64*(a/64+j)+c/\∀t,t<c→a<=64*(a/64+j)+t→bit ws (64*(a/64+j)+t)≠b:=by
 obtain⟨h1,h2,h3⟩:=pY _ (jS _ _ _ _ _) h0;rw[←hc] at h1 h2 h3;rw[qE ws a j c b hw hK h1,Bool.and_eq_true,beq_iff_eq,decide_eq_true_iff] at h2;refine⟨h1,h2.1,h2.2,fun t ht ha he=>?_⟩;have:=h3 t ht;rw[qE ws a j t b hw hK (by omega),he,aw ha,beq_self_eq_true] at this
 cases this
def iM(f:Nat→Bool)(n a:Nat)(b:Bool)(r:Nat)(ok:Bool):Prop:=
 (ok=true/\a<=r/\r<n/\f r=b/\∀i,a<=i→i<r→f i≠b)\/(ok=false/\r=0/\∀i,a<=i→i<n→f i≠b)
end Bt
end Go.Proofs.YtgblmelijlgimaaGreatDoor
