/- Parts of the proof of TopApart. -/
import Derived.Test.YtgblmelijlgimaaGreatDoorZTopAI
import Derived.Shelf.Strconv.Itoa0
set_option maxRecDepth 100000
namespace Go.Proofs.YtgblmelijlgimaaGreatDoor
open Go.Proofs.Tryz
namespace Cn
open Go.RowKit Go.bZ Go.Cf
theorem Jo(g:Nat)(cb:Array Value)(n b o cap bd:Nat)(f:Nat→Nat)(w:World)(hn:n<=8)(hbd:bd<=1048576)(hle:∀i,i<n→f i<=bd)
 (hf:∀(W:World) (i:Nat),i<n→Below w.heap.size w W→ak g (#[U i]++cb) W fun e W'=>e=ae (U (f i:Nat))/\Below W.heap.size W W')
 (eg:∀args w,(callFunc g args).run prog w=.ok (.enter g args) w):
  ak 86 #[ai (aj b o) n cap,.func (.func g) #[] cb] w fun e w'=>e=ae (U (cI f n:Nat))/\Below w.heap.size w w':=by
 have HF:=bU hf;have HL:=bU hle;clear hf hle;go_enter func86,ntmps86;go_wp2_with fail
 go_loopw [5,9] (fun s i wr=>∃(k:Nat),k<=n/\i=U k/\s=U (cI f k:Nat)/\Below w.heap.size w wr) (fun _ i _=>n-(intOf i).toNat)
 case atStart=>exact⟨0,by omega,rfl,rfl,bV _ _⟩
 case round=>
  obtain⟨k,hk,rfl,rfl,hb⟩:=hrel;have HB:=bU hb;clear hb;by_cases hlt:k<n
  .have hc:=HF.out wr k hlt HB.out
   have h1:=HL.out k hlt;have h2:=jB (f:=f) (b:=bd) k (fun i hi=>HL.out i (by omega));have h3:k*bd<=8*1048576:=Nat.mul_le_mul (by omega) hbd;have H3:Hid (cI f (k+1)=cI f k+f k):=bU rfl;have h4:cI f k<=8388608:=by omega
   obtain⟨z,hz⟩:=al (cI f k);obtain⟨y,hy⟩:=al (f k);rw[hy] at hc h1 H3;rw[hz] at h4 H3 ⊢;clear h2 h3 hz hy;go_wp2_with (go_at_fn g;refine hc.mono ?_;rintro e w' ⟨rfl,cN⟩)
   go_roundw
   case rel=>exact⟨k+1,by omega,by go_num,by rw[H3.out];first|rfl|go_num,fj HB.out cN⟩
   case measure=>simp[intOf];omega
  .obtain rfl:k=n:=by omega
   go_wp2_with fail;go_ret;exact⟨rfl,HB.out⟩
theorem zn(g:Nat)(cb:Array Value)(n b o cap bd:Nat)(f:Nat→Nat)(w:World)(hn:n<=8)(hbd:bd<=1048576)(hle:∀i,i<n→f i<=bd)
 (hf:∀(W:World) (i:Nat),i<n→Below w.heap.size w W→ak g (#[U i]++cb) W fun e W'=>e=ae (U (f i:Nat))/\Below W.heap.size W W')
 (eg:∀args w,(callFunc g args).run prog w=.ok (.enter g args) w):
  ak 56 #[ai (aj b o) n cap,.func (.func g) #[] cb] w fun e w'=>e=ae (U (cI f n:Nat))/\Below w.heap.size w w':=by
 have HF:=bU hf;have HL:=bU hle;clear hf hle;go_enter func56,ntmps56;go_wp2_with fail
 go_loopw [5,9] (fun s i wr=>∃(k:Nat),k<=n/\i=U k/\s=U (cI f k:Nat)/\Below w.heap.size w wr) (fun _ i _=>n-(intOf i).toNat)
 case atStart=>exact⟨0,by omega,rfl,rfl,bV _ _⟩
 case round=>
  obtain⟨k,hk,rfl,rfl,hb⟩:=hrel;have HB:=bU hb;clear hb;by_cases hlt:k<n
  .have hc:=HF.out wr k hlt HB.out
   have h1:=HL.out k hlt;have h2:=jB (f:=f) (b:=bd) k (fun i hi=>HL.out i (by omega));have h3:k*bd<=8*1048576:=Nat.mul_le_mul (by omega) hbd;have H3:Hid (cI f (k+1)=cI f k+f k):=bU rfl;have h4:cI f k<=8388608:=by omega
   obtain⟨z,hz⟩:=al (cI f k);obtain⟨y,hy⟩:=al (f k);rw[hy] at hc h1 H3;rw[hz] at h4 H3 ⊢;clear h2 h3 hz hy;go_wp2_with (go_at_fn g;refine hc.mono ?_;rintro e w' ⟨rfl,cN⟩)
   go_roundw
   case rel=>exact⟨k+1,by omega,by go_num,by rw[H3.out];first|rfl|go_num,fj HB.out cN⟩
   case measure=>simp[intOf];omega
  .obtain rfl:k=n:=by omega
   go_wp2_with fail;go_ret;exact⟨rfl,HB.out⟩
end Cn
namespace Cn
open Go.RowKit Go.bZ Go.Cf
theorem By{w:World}{c:cF}(h:gN w c)(k:Ok c)(bc bt t j:Nat)(ht:t<c.ts.length)(hj:j<c.cl.length)(b0:cj w bc #[ai (aj c.gc c.oc) c.cl.length c.cc,U c.cB,ai (aj c.gt c.ot) c.ts.length c.ct,U c.wk,U c.gy,U c.gn] 25)(b1:w.cell? (aj bt)=some (U t)):
  ak 87 #[U j,af (aj bc),af (aj bt)] w fun e w'=>e=ae (U (jg c t j*c.cB:Nat))/\Below w.heap.size w w':=by
 have dp:=vv h k t j ht hj;have QA:=(oQ k ht hj).w2;have hgg:=(oQ k ht hj).g2;have po:=k.p2;have hm:((jg c t j:Nat):Int)*(c.cB:Int)=((jg c t j*c.cB:Nat):Int):=(Int.natCast_mul _ _).symm;have HBL:=bU b0;have a0:w.cell? (aj bc)=some (ai (aj c.gc c.oc) c.cl.length c.cc):=b0.cell 0;have a1:w.cell? (aj bc 1)=some (U c.cB):=b0.cell 1;have a2:w.cell? (aj bc 2)=some (ai (aj c.gt c.ot) c.ts.length c.ct):=b0.cell 2;have a3:w.cell? (aj bc 3)=some (U c.wk):=b0.cell 3;have a4:w.cell? (aj bc 4)=some (U c.gy):=b0.cell 4;have a5:w.cell? (aj bc 5)=some (U c.gn):=b0.cell 5;unfold cF.val at dp;generalize jg c t j*c.cB=m at *;generalize jg c t j=np at *;clear h k b0;go_enter func87,ntmps87;go_wp2_with (go_at_call 88;(with_reducible refine dp.mono ?_);rintro e w2 ⟨rfl,cN⟩;have y1:w2.cell? (aj bc 1)=some (U c.cB):=(HBL.out.cA cN).cell 1)
 go_ret;exact⟨rfl,cN⟩
theorem qS{w:World}{c:cF}(h:gN w c)(k:Ok c)(t:Nat)(ht:t<c.ts.length):
  ak 58 #[cF.val c,U t] w fun e w'=>e=ae (U (ke c t:Nat))/\Below w.heap.size w w':=by
 have dj:=((bV _ w).alloc (av _) (.cells #[ai (aj c.gc c.oc) c.cl.length c.cc,U c.cB,ai (aj c.gt c.ot) c.ts.length c.ct,U c.wk,U c.gy,U c.gn] 25)).alloc (by simp) (.cells #[U t] 3);have h1:=h.cA k dj;have B0:=(cj.new w #[ai (aj c.gc c.oc) c.cl.length c.cc,U c.cB,ai (aj c.gt c.ot) c.ts.length c.ct,U c.wk,U c.gy,U c.gn] 25).alloc (.cells #[U t] 3);have B1:=iI w (.cells #[ai (aj c.gc c.oc) c.cl.length c.cc,U c.cB,ai (aj c.gt c.ot) c.ts.length c.ct,U c.wk,U c.gy,U c.gn] 25) #[U t] 3;have ds:=Jo 87 #[af (aj w.heap.size),af (aj (w.heap.size+1))] c.cl.length c.gc c.oc c.cc 131072 (fun j=>jg c t j*c.cB) _ k.c8 (by omega) (fun i hi=>(oQ k ht hi).w2) (fun W i hi hW=>By (h1.cA k hW) k _ _ t i ht hi (B0.cA hW) ((B1.cA hW).cell 0)) (fun _ _=>by kernel_rfl);have HB:=bU dj;have e:cI (fun j=>jg c t j*c.cB) c.cl.length=ke c t:=rfl;rw[e] at ds;clear h k h1 B0 B1 dj e;generalize ke c t=m at *;unfold cF.val;go_enter func58,ntmps58;go_wp2_with (go_at_call 86;(with_reducible refine ds.mono ?_);rintro e w2 ⟨rfl,cN⟩)
 go_ret;exact⟨rfl,bT HB.out cN (by simp;omega)⟩
theorem sR{w:World}{c:cF}(h:gN w c)(k:Ok c)(t:Nat)(ht:t<c.ts.length):
  ak 62 #[cF.val c,U t] w fun e w'=>e=ae (.tuple #[U (ke c t:Nat),U 0])/\Below w.heap.size w w':=by
 have dj:=(bV _ w).alloc (av _) (.cells #[ai (aj c.gc c.oc) c.cl.length c.cc,U c.cB,ai (aj c.gt c.ot) c.ts.length c.ct,U c.wk,U c.gy,U c.gn] 25);have h1:=h.cA k dj;have dt:=qR h1 k t 0 ht (by have:=k.c1;omega);rw[show((0:Nat):Int)=0 from rfl] at dt;have dw:=fun(W:World) (hW:Below (w.alloc (.cells #[ai (aj c.gc c.oc) c.cl.length c.cc,U c.cB,ai (aj c.gt c.ot) c.ts.length c.ct,U c.wk,U c.gy,U c.gn] 25)).heap.size (w.alloc (.cells #[ai (aj c.gc c.oc) c.cl.length c.cc,U c.cB,ai (aj c.gt c.ot) c.ts.length c.ct,U c.wk,U c.gy,U c.gn] 25)) W)=>qS (h1.cA k hW) k t ht
 have DW:=bU dw;have HB:=bU dj;unfold cF.val at *;clear h k h1 dj dw;generalize ke c t=m at *;go_enter func62,ntmps62;go_wp2_with (first|(go_at_call 59;(with_reducible refine dt.mono ?_);rintro e w2 ⟨rfl,cN⟩;obtain⟨x0,x1,x2,x3,x4,x5⟩:=lX w c (cN.mono (by simp)))|(go_at_call 58;refine(DW.out _ cN).mono ?_;rintro e w3 ⟨rfl,dJ⟩))
 go_ret2
 exact⟨rfl,bT HB.out (fj cN dJ) (by simp)⟩
end Cn
namespace Cn
open Go.RowKit Go.bZ Go.Cf
theorem E7{w:World}{c:cF}(h:gN w c)(k:Ok c)(bc t:Nat)(ht:t<c.ts.length)(b0:cj w bc #[ai (aj c.gc c.oc) c.cl.length c.cc,U c.cB,ai (aj c.gt c.ot) c.ts.length c.ct,U c.wk,U c.gy,U c.gn] 25):
  ak 60 #[U t,af (aj bc)] w fun e w'=>e=ae (U (ke c t:Nat))/\Below w.heap.size w w':=by
 have dp:=qS h k t ht;have a0:w.cell? (aj bc)=some (ai (aj c.gc c.oc) c.cl.length c.cc):=b0.cell 0;have a1:w.cell? (aj bc 1)=some (U c.cB):=b0.cell 1;have a2:w.cell? (aj bc 2)=some (ai (aj c.gt c.ot) c.ts.length c.ct):=b0.cell 2;have a3:w.cell? (aj bc 3)=some (U c.wk):=b0.cell 3;have a4:w.cell? (aj bc 4)=some (U c.gy):=b0.cell 4;have a5:w.cell? (aj bc 5)=some (U c.gn):=b0.cell 5;unfold cF.val at dp;generalize ke c t=m at *;clear h k b0;go_enter func60,ntmps60;go_wp2_with (go_at_call 58;(with_reducible refine dp.mono ?_);rintro e w2 ⟨rfl,cN⟩)
 go_ret;exact⟨rfl,cN⟩
theorem Bz{w:World}{c:cF}(h:gN w c)(k:Ok c)(bc t:Nat)(ht:t<c.ts.length)(b0:cj w bc #[ai (aj c.gc c.oc) c.cl.length c.cc,U c.cB,ai (aj c.gt c.ot) c.ts.length c.ct,U c.wk,U c.gy,U c.gn] 25):
  ak 57 #[U t,af (aj bc)] w fun e w'=>e=ae (U (ke c t:Nat))/\Below w.heap.size w w':=by
 have dp:=qS h k t ht;have a0:w.cell? (aj bc)=some (ai (aj c.gc c.oc) c.cl.length c.cc):=b0.cell 0;have a1:w.cell? (aj bc 1)=some (U c.cB):=b0.cell 1;have a2:w.cell? (aj bc 2)=some (ai (aj c.gt c.ot) c.ts.length c.ct):=b0.cell 2;have a3:w.cell? (aj bc 3)=some (U c.wk):=b0.cell 3;have a4:w.cell? (aj bc 4)=some (U c.gy):=b0.cell 4;have a5:w.cell? (aj bc 5)=some (U c.gn):=b0.cell 5;unfold cF.val at dp;generalize ke c t=m at *;clear h k b0;go_enter func57,ntmps57;go_wp2_with (go_at_call 58;(with_reducible refine dp.mono ?_);rintro e w2 ⟨rfl,cN⟩)
 go_ret;exact⟨rfl,cN⟩
theorem Jp{w:World}{c:cF}(h:gN w c)(k:Ok c)(t:Nat)(ht:t<c.ts.length)(hcp:c.ts.length<=c.ct):
  ak 43 #[cF.val c,U t] w fun e w'=>e=ae (.tuple #[U (fG c t:Nat),U 0])/\Below w.heap.size w w':=by
 have dj:=(bV _ w).alloc (av _) (.cells #[ai (aj c.gc c.oc) c.cl.length c.cc,U c.cB,ai (aj c.gt c.ot) c.ts.length c.ct,U c.wk,U c.gy,U c.gn] 25);have h1:=h.cA k dj;have B0:=cj.new w #[ai (aj c.gc c.oc) c.cl.length c.cc,U c.cB,ai (aj c.gt c.ot) c.ts.length c.ct,U c.wk,U c.gy,U c.gn] 25;have dt:=qR h1 k t 0 ht (by have:=k.c1;omega);rw[show((0:Nat):Int)=0 from rfl] at dt;have t8:=k.t8;have DS:Hid (∀W,Below (w.alloc (.cells #[ai (aj c.gc c.oc) c.cl.length c.cc,U c.cB,ai (aj c.gt c.ot) c.ts.length c.ct,U c.wk,U c.gy,U c.gn] 25)).heap.size (w.alloc (.cells #[ai (aj c.gc c.oc) c.cl.length c.cc,U c.cB,ai (aj c.gt c.ot) c.ts.length c.ct,U c.wk,U c.gy,U c.gn] 25)) W→ak 56 #[ai (aj c.gt c.ot) t c.ct,.func (.func 60) #[] #[af (aj w.heap.size)]] W fun e w'=>e=ae (U (fG c t:Nat))/\Below W.heap.size W w'):=bU (fun W hW=>zn 60 #[af (aj w.heap.size)] t c.gt c.ot c.ct 1048576 (ke c) W (by omega) (by omega) (fun i hi=>p9 k (by omega)) (fun W2 i hi iz=>E7 ((h1.cA k hW).cA k iz) k _ i (by omega) ((B0.cA hW).cA iz)) (fun _ _=>by kernel_rfl));have HB:=bU dj;unfold cF.val at *;clear h k h1 B0 dj;generalize fG c t=m at *;go_enter func43,ntmps43;go_wp2_with (first|(go_at_call 59;(with_reducible refine dt.mono ?_);rintro e w2 ⟨rfl,cN⟩;obtain⟨x0,x1,x2,x3,x4,x5⟩:=lX w c (cN.mono (by simp)))|(go_at_call 56;refine(DS.out _ cN).mono ?_;rintro e w3 ⟨rfl,dJ⟩))
 go_ret2
 exact⟨rfl,bT HB.out (fj cN dJ) (by simp)⟩
theorem E8{w:World}{c:cF}(h:gN w c)(k:Ok c):
  ak 42 #[cF.val c] w fun e w'=>e=ae (.tuple #[U (fG c c.ts.length:Nat),U 0])/\Below w.heap.size w w':=by
 have dj:=(bV _ w).alloc (av _) (.cells #[ai (aj c.gc c.oc) c.cl.length c.cc,U c.cB,ai (aj c.gt c.ot) c.ts.length c.ct,U c.wk,U c.gy,U c.gn] 25);have h1:=h.cA k dj;have B0:=cj.new w #[ai (aj c.gc c.oc) c.cl.length c.cc,U c.cB,ai (aj c.gt c.ot) c.ts.length c.ct,U c.wk,U c.gy,U c.gn] 25;have dt:=vt h1 k;have t8:=k.t8;have DS:Hid (∀W,Below (w.alloc (.cells #[ai (aj c.gc c.oc) c.cl.length c.cc,U c.cB,ai (aj c.gt c.ot) c.ts.length c.ct,U c.wk,U c.gy,U c.gn] 25)).heap.size (w.alloc (.cells #[ai (aj c.gc c.oc) c.cl.length c.cc,U c.cB,ai (aj c.gt c.ot) c.ts.length c.ct,U c.wk,U c.gy,U c.gn] 25)) W→ak 56 #[ai (aj c.gt c.ot) c.ts.length c.ct,.func (.func 57) #[] #[af (aj w.heap.size)]] W fun e w'=>e=ae (U (fG c c.ts.length:Nat))/\Below W.heap.size W w'):=bU (fun W hW=>zn 57 #[af (aj w.heap.size)] c.ts.length c.gt c.ot c.ct 1048576 (ke c) W (by omega) (by omega) (fun i hi=>p9 k (by omega)) (fun W2 i hi iz=>Bz ((h1.cA k hW).cA k iz) k _ i (by omega) ((B0.cA hW).cA iz)) (fun _ _=>by kernel_rfl));have HB:=bU dj;unfold cF.val at *;clear h k h1 B0 dj;generalize fG c c.ts.length=m at *;go_enter func42,ntmps42;go_wp2_with (first|(go_at_call 55;(with_reducible refine dt.mono ?_);rintro e w2 ⟨rfl,cN⟩;obtain⟨x0,x1,x2,x3,x4,x5⟩:=lX w c (cN.mono (by simp)))|(go_at_call 56;refine(DS.out _ cN).mono ?_;rintro e w3 ⟨rfl,dJ⟩))
 go_ret2
 exact⟨rfl,bT HB.out (fj cN dJ) (by simp)⟩
end Cn
namespace Mm
open Go.RowKit Go.bZ Go.Cf Cn
theorem E9:(prog.info? 3).map (fun i=>(i.zero,i.size,i.bytes))=some (some (U 0),1,8):=by kernel_rfl
def gj(c:cF)(n:Nat):List Nat:=(List.range n).map (fG c)
theorem tX(c:cF)(n:Nat):gj c (n+1)=gj c n++[fG c n]:=by simp[gj,List.range_succ]
theorem gI(c:cF)(n:Nat):(gj c n).length=n:=by simp[gj]
def IV(l:List Nat):List Value:=l.map fun(x:Nat)=>Value.int .i64 x
structure xH(w wr:World)(c:cF)(mp mw n t:Nat)(v:Value):Prop where
 b0:cj wr mp #[ai (aj mw) n n,v] 110
 b1:cj wr mw (ints .u64 (List.replicate n 0)) 36
 own:wr.ownsRow (mp+1) 3 1 v t (IV (gj c t))
 box:cj wr w.heap.size #[ai (aj c.gc c.oc) c.cl.length c.cc,U c.cB,ai (aj c.gt c.ot) c.ts.length c.ct,U c.wk,U c.gy,U c.gn] 25
 lo:w.heap.size<mw
 lt:mw<mp
 sz:mp<wr.heap.size
 bl:Below w.heap.size w wr
theorem vw(w wr:World)(c:cF)(mp mw n t:Nat)(v:Value)(h:xH w wr c mp mw n t v)(wx:World)(hx:Below wr.heap.size wr wx)(v':Value)(w1:World)
 (hown:w1.ownsRow (mp+1) 3 1 v' (t+1) (IV (gj c t)++[U (fG c t:Nat)]))(hg:wx.grownBy w1 v.ownBlock):xH w (w1.setCell (aj mp 1) v') c mp mw n (t+1) v':=by
 have hn:∀j,j<mp+1→some j≠v.ownBlock:=fun j hj e=>by have:=(h.own.lt j e.symm).1;omega
 have hxs:=hx.size;have hbl:∀{b:Nat} {C:Array Value} {ty:TypeId},cj wr b C ty→b<mp+1→cj w1 b C ty:=fun hb hlt=>(hg.block _ (by have:=hb.lt;omega) (hn _ hlt)).trans (hx.block _ hb.lt |>.trans hb)
 have dj:Below w.heap.size w w1:=h.bl.trans ((hx.mono h.bl.size).trans ⟨hg.os,hg.tape,hg.output,hg.size,fun k hk=>hg.block k (by have:=h.bl.size;omega) (hn k (by have:=h.lo;have:=h.lt;omega))⟩);have:=h.lo;have:=h.lt;refine⟨?_,(hbl h.b1 (by omega)).other (by omega) 1 v',?_,(hbl h.box (by omega)).other (by omega) 1 v',h.lo,h.lt,?_,dj.setCell (by show w.heap.size<=mp;omega) _⟩
 .exact(hbl h.b0 (by omega)).set 1 v'
 .have:=ownsRow_setCell_below hown (a:=⟨mp,1,none⟩) (by show mp<mp+1;omega) v'
  unfold IV;rw[tX,List.map_append];exact this
 .have h1:=h.sz
  have h2:=hg.size;simp;omega
end Mm
namespace Gy
open Go.RowKit Go.bZ Go.Gc Sl Bt
theorem xI{w:World}{i:Gi}{x:Nat}{l:List Nat}{ow di:Nat→Bool}{wa we:Nat}(h:dV w i (x::l) ow di wa we):
  ak 210 #[af (aj i.q)] w fun e w'=>e=ae (.bool false)/\Below w.heap.size w w':=by
 have D:=bU (fun n=>cC (h.drewN n));obtain⟨f,ring,h⟩:=h;have c5:w.cell? (aj i.q 5)=some (U (l.length+1:Nat)):=h.b0.cell 5;have e1:(((l.length+1:Nat):Int)==0)=false:=by rw[aA];omega
 clear h;generalize l.length+1=m at *;generalize i.q=q at *;go_enter func210,ntmps210;go_wp2_with fail
 go_quiet ((go_at_call 258;exact Calls.quiet_of_same ((D.out _).mono (fun e w' h=>⟨h.1,h.2.symm⟩))))
 go_wp2_with fail;go_ret;exact⟨rfl,jh (bV _ _) _⟩
theorem xJ{w:World}{i:Gi}{ow di:Nat→Bool}{wa we:Nat}(h:dV w i [] ow di wa we)(hw:wa<we):
  ak 210 #[af (aj i.q)] w fun e w'=>e=ae (.bool false)/\Below w.heap.size w w':=by
 have D:=bU (fun n=>cC (h.drewN n));obtain⟨f,ring,h⟩:=h;have c5:w.cell? (aj i.q 5)=some (U 0):=h.b0.cell 5;have c6:w.cell? (aj i.q 6)=some (U wa):=h.b0.cell 6;have c7:w.cell? (aj i.q 7)=some (U we):=h.b0.cell 7;have e1:((wa:Int)==(we:Int))=false:=by rw[aA];omega
 clear h;generalize i.q=q at *;go_enter func210,ntmps210;go_wp2_with fail
 go_quiet ((go_at_call 258;exact Calls.quiet_of_same ((D.out _).mono (fun e w' h=>⟨h.1,h.2.symm⟩))))
 go_wp2_with fail;go_ret;exact⟨rfl,jh (bV _ _) _⟩
def BA(ow:Nat→Bool)(w:World)(e:Ending)(w':World):Prop:=∃b,e=ae (.bool b)/\(b=true↔∀x,ow x=false)/\Below w.heap.size w w'
theorem xK{w:World}{i:Gi}{ow di:Nat→Bool}{wa:Nat}(h:dV w i [] ow di wa wa):
  ak 210 #[af (aj i.q)] w (BA ow w):=by
 have D:=bU (fun W hW=>cC (h.cA (w':=W) hW));have DO:=bU (fun W hW=>EU (h.cA (w':=W) hW));obtain⟨f,ring,h⟩:=h;have c5:w.cell? (aj i.q 5)=some (U 0):=h.b0.cell 5;have c6:w.cell? (aj i.q 6)=some (U wa):=h.b0.cell 6;have c7:w.cell? (aj i.q 7)=some (U wa):=h.b0.cell 7;have e1:((wa:Int)==(wa:Int))=true:=by rw[beq_iff_eq]
 clear h;generalize i.q=q at *;go_enter func210,ntmps210;go_wp2_with fail;go_region_held3 (fun w'=>w'.cell? (aj q 5)=some (U 0)/\w'.cell? (aj q 6)=some (U wa)/\w'.cell? (aj q 7)=some (U wa)) (go_keep) (first|(go_at_call 258;refine(D.out _ (bd (bV _ _))).mono ?_;rintro e w2 ⟨rfl,rfl⟩)|(go_at_call 259;refine(DO.out _ (bd (bV _ _))).mono ?_;rintro e w2 ⟨c,rfl,hc,rfl⟩;have HC:=bU hc;clear hc))
 all_goals
  go_wp2_with fail;go_ret;refine⟨_,rfl,?_,bd (bV _ _)⟩;rw[←HC.out,beq_iff_eq];omega
theorem Fa{w:World}{i:Gi}{ql:List Nat}{ow di:Nat→Bool}{wa we:Nat}(h:dV w i ql ow di wa we)(hn:0<i.n)(hpg:0<i.pg):
  ak 314 #[af (aj i.q)] w fun e w'=>e=ae (.tuple #[])/\dV w' i [] (fun _=>false) (fun _=>false) 0 0/\cu i.own w w':=by
 have d:=cC h;obtain⟨f,ring,h⟩:=h;have ne:=Gi.ne h.nd;have c0:w.cell? (aj i.q)=some (af (aj i.ro)):=h.b0.cell 0;have d0:=Bt.oL h.ro hn;have D1:Hid (∀W,cu (· =i.go) w W→W.cell? (aj i.q 1)=some (af (aj i.rd))/\ak 311 #[af (aj i.rd)] W fun e w'=>e=ae (.tuple #[])/\ee w' i.rd i.gd i.pg (fun _=>false)/\cu (· =i.gd) W w'):=bU (fun W hc=>⟨(h.b0.bY hc ne.n2).cell 1,Bt.oL (h.rd.bY hc (Ne.symm ne.m1) (Ne.symm ne.m2)) hpg⟩);have HE:Hid (∀W W',ee W i.ro i.go i.n (fun _=>false)→cu (· =i.go) w W→ee W' i.rd i.gd i.pg (fun _=>false)→cu (· =i.gd) W W'→cj W' i.q #[af (aj i.ro),af (aj i.rd),af (aj i.p),ai (aj i.rg) i.dv i.dv,U f,U ql.length,U wa,U we] 240/\dV ((((W'.setCell (aj i.q 4) (U 0)).setCell (aj i.q 5) (U 0)).setCell (aj i.q 6) (U 0)).setCell (aj i.q 7) (U 0)) i [] (fun _=>false) (fun _=>false) 0 0/\cu i.own w ((((W'.setCell (aj i.q 4) (U 0)).setCell (aj i.q 5) (U 0)).setCell (aj i.q 6) (U 0)).setCell (aj i.q 7) (U 0))):=bU (fun W W' r1 k1 r2 k2=>by
  have B:=(h.b0.bY k1 ne.n2).bY k2 ne.n4;have ks:cu (fun k=>k=i.q) W' ((((W'.setCell (aj i.q 4) (U 0)).setCell (aj i.q 5) (U 0)).setCell (aj i.q 6) (U 0)).setCell (aj i.q 7) (U 0)):=cu.stored (S:=fun k=>k=i.q) (cu.stored (S:=fun k=>k=i.q) (cu.stored (S:=fun k=>k=i.q) (cu.stored (S:=fun k=>k=i.q) (cu.refl _ W') (p:=i.q) (.inl rfl) _ _) (p:=i.q) (.inl rfl) _ _) (p:=i.q) (.inl rfl) _ _) (p:=i.q) (.inl rfl) _ _;refine⟨B,⟨0,ring,(((B.set 4 (U 0)).set 5 (U 0)).set 6 (U 0)).set 7 (U 0),((h.b1.bY k1 (Ne.symm ne.m3)).bY k2 (Ne.symm ne.m6)).bY ks (Ne.symm ne.n5),(r1.bY k2 ne.n8 ne.m2).bY ks (Ne.symm ne.n1) (Ne.symm ne.n2),r2.bY ks (Ne.symm ne.n3) (Ne.symm ne.n4),⟨h.rn.1,by have:=h.l1;omega,by simp,fun j hj=>absurd hj (by simp)⟩,h.l1,⟨av _,by omega⟩,h.nd⟩,?_⟩;exact((k1.up (fun k hk=>(.inr (.inr (.inl hk)):i.own k))).trans (k2.up (fun k hk=>(.inr (.inr (.inr (.inr (.inl hk)))):i.own k)))).trans (ks.up (fun k hk=>(.inl hk:i.own k))))
 clear h ne;generalize ql.length=m at *;obtain⟨q,hq⟩:=al (i.q);rw[hq] at d c0 D1 HE ⊢;clear hq;go_enter func314,ntmps314;go_wp2_with (first
  | (go_at_call 258;(with_reducible refine d.mono ?_);rintro e w2 ⟨rfl,rfl⟩)
  | (go_at_call 311;(with_reducible refine d0.mono ?_);rintro e w3 ⟨rfl,r3,k3⟩;obtain⟨y1,y2⟩:=D1.out w3 k3;have R3:=bU r3;have K3:=bU k3;clear r3 k3 d0)
  | (go_at_call 311;(with_reducible refine y2.mono ?_);rintro e w4 ⟨rfl,r4,k4⟩;obtain⟨B,t1,t2⟩:=HE.out w3 w4 R3.out K3.out r4 k4;have T1:=bU t1;have T2:=bU t2;have f4:=B.cE 4;have f5:=B.cE 5;have f6:=B.cE 6;have f7:=B.cE 7;have z4:w4.cell? (aj q 4)=some (U f):=B.cell 4;have z5:w4.cell? (aj q 5)=some (U m):=B.cell 5;have z6:w4.cell? (aj q 6)=some (U wa):=B.cell 6;have z7:w4.cell? (aj q 7)=some (U we):=B.cell 7;clear B t1 t2 r4 k4))
 go_end0
 exact⟨rfl,T1.out,T2.out⟩
theorem ee.ne{w:World}{p g n:Nat}{f:Nat→Bool}(h:ee w p g n f):p≠g:=by
 obtain⟨ws,h,_⟩:=h;exact h.ne
def tY(p n pg dv:Nat)(w:World)(e:Ending)(w':World):Prop:=∃i:Gi,e=ae (.tuple #[af (aj i.q),U 0])/\i.p=p/\i.n=n/\i.pg=pg/\i.dv=dv/\dV w' i [] (fun _=>false) (fun _=>false) 0 0/\Below w.heap.size w w'/\∀k,i.own k→w.heap.size<=k
theorem Fc{w w1 w2:World}{p n pg dv ro go rd gd:Nat}(dj:Below w.heap.size w w1)(cN:Below w1.heap.size w1 w2)(h1:ee w1 ro go n (fun _=>false))(h2:ee w2 rd gd pg (fun _=>false))(k1:w.heap.size<=ro)(k2:w.heap.size<=go)(k3:w1.heap.size<=rd)(k4:w1.heap.size<=gd)(hl:1<=dv/\dv<=64):
  tY p n pg dv w (ae (.tuple #[af (aj (w2.heap.size+1)),U 0])) ((w2.alloc (.cells (ints .i64 (List.replicate dv 0)) 3)).alloc (.cells #[af (aj ro),af (aj rd),af (aj p),ai (aj w2.heap.size) dv dv,U 0,U 0,U 0,U 0] 240)):=by
 have l1:=h1.lt;have l2:=h2.lt;have s1:=dj.size;have s2:=cN.size;have e1:=ee.ne h1;have e2:=ee.ne h2;have hbn:Below w2.heap.size w2 ((w2.alloc (.cells (ints .i64 (List.replicate dv 0)) 3)).alloc (.cells #[af (aj ro),af (aj rd),af (aj p),ai (aj w2.heap.size) dv dv,U 0,U 0,U 0,U 0] 240)):=bA (bA (bV _ _) (av _) _) (av _) _;refine⟨⟨w2.heap.size+1,ro,go,rd,gd,w2.heap.size,p,n,pg,dv⟩,rfl,rfl,rfl,rfl,rfl,⟨0,List.replicate dv 0,cj.jf w2 _ _ _ _,cj.gR w2 _ _ _ _,(h1.cA cN).cA hbn,h2.cA hbn,⟨aN,by show 0<dv;omega,by simp,fun j hj=>absurd hj (by simp)⟩,hl,⟨av _,by omega⟩,?_⟩,bT (fj dj cN) hbn (by omega),?_⟩
 .simp only[List.nodup_cons,List.mem_cons,List.not_mem_nil,or_false,not_or,not_false_eq_true,List.nodup_nil,and_true]
  omega
 .intro k hk
  rcases hk with hk|hk|hk|hk|hk|hk <;> (subst hk;first|(dsimp only;omega)|omega)
theorem fQ{w:World}{p g cap n pg pw:Nat}{rs:List Rec}(hp:ff w p g cap rs n pg pw)(hn:0<n)(hpg:pg<=65536){dv:Nat}(hl:1<=dv/\dv<=64):
  ak 101 #[af (aj p),U dv] w (tY p n pg dv w):=by
 have hmk:=run_make_row' (P:=prog) 22 3 (U 0) 8 underlying22 Mm.E9 rfl .i64 .i64 dv (by omega) (by omega);rw[nV] at hmk;have hfew:=hp.jU;have ds:=ik hp;have d1:=Bt.kP w n hfew;have D2:Hid (∀W,Below w.heap.size w W→(ak 126 #[af (aj p)] W fun e w'=>e=ae (U pg)/\W=w')/\ak 94 #[U pg] W fun e w'=>∃p g,e=ae (.tuple #[af (aj p),U 0])/\ee w' p g pg (fun _=>false)/\Below W.heap.size W w'/\W.heap.size<=p/\W.heap.size<=g):=bU (fun W hW=>⟨AZ (hp.cA hW),Bt.kP W pg hpg⟩);have e1:((n:Int)==0)=false:=by rw[aA];omega
 obtain⟨Qx,qd⟩:=hl;clear hp;go_enter func101,ntmps101;go_wp2_with (first
  | (go_at_call 68;(with_reducible refine ds.mono ?_);rintro e w3 ⟨rfl,rfl⟩)
  | (go_at_call 94;(with_reducible refine d1.mono ?_);rintro e w1 ⟨ro,go,rfl,IN,dj,k1,k2⟩;have R1:=bU IN;have H1:=bU dj;obtain⟨dp,d2⟩:=D2.out w1 dj;clear d1 IN dj)
  | (go_at_call 126;(with_reducible refine dp.mono ?_);rintro e w3 ⟨rfl,rfl⟩)
  | (go_at_call 94;(with_reducible refine d2.mono ?_);rintro e w2 ⟨rd,gd,rfl,AW,cN,k3,k4⟩;have R2:=bU AW;have H2:=bU cN;clear AW cN))
 go_ret2
 exact Fc H1.out H2.out R1.out R2.out k1 k2 k3 k4 ⟨Qx,qd⟩
end Gy
namespace Sl
open Go.RowKit Go.bZ Go.Gc
theorem jC(w:World){p g cap:Nat}{rs:List Rec}{n pg pw:Nat}(h:ff w p g cap rs n pg pw){x k:Nat}{r:Rec}(hs:eJ pw rs n pg x k r)(hx:x<n):
  ak 110 #[af (aj p),U x] w fun e w'=>e=ae (.tuple #[U (addrOf pw rs x:Int),U 0])/\Below w.heap.size w w':=by
 have d:=nY w h hs hx;have H:=bU h;have HA:=bU hs.at';have hkl:=hs.kl;have hl:=h.l8;have hper:=hs.fk;have po:=hs.cB.2;have hpg:=hs.nk;have hpp:=h.nk;have hf:=h.jU;have ha:=hs.addr;have hsm:=h.small;have hat:((x-r.first:Nat):Int)/(r.fk:Int)=(((x-r.first)/r.fk:Nat):Int):=(Int.natCast_ediv _ _).symm;have hrm:((x-r.first:Nat):Int)%(r.fk:Int)=(((x-r.first)%r.fk:Nat):Int):=(Int.natCast_emod _ _).symm;rw[ha.1];have N4:=ha.2;have hmul:(r.cB+(x-r.first)/r.fk+1)*pw<=pg*pw:=Nat.mul_le_mul_right _ (by omega);rw[Nat.succ_mul] at hmul;clear ha;have hle:x-r.first<=65536:=by omega
 have dj:(x-r.first)%r.fk<65536:=Nat.lt_of_le_of_lt (Nat.mod_le _ _) (by omega);have hq:((r.cB:Int)+(((x-r.first)/r.fk:Nat):Int))*(pw:Int)=(((r.cB+(x-r.first)/r.fk)*pw:Nat):Int):=by rw[Int.natCast_mul,aY]
 have hm:(((x-r.first)%r.fk:Nat):Int)*(r.size:Int)=(((x-r.first)%r.fk*r.size:Nat):Int):=by rw[Int.natCast_mul]
 generalize (x-r.first)%r.fk*r.size=m2 at *;generalize (r.cB+(x-r.first)/r.fk)*pw=m1 at *;generalize (x-r.first)/r.fk=z at *;generalize (x-r.first)%r.fk=z2 at *;generalize x-r.first=y at *
 have hbd:m1+m2<=1000000000:=by omega
 clear h hs hmul N4;go_enter func110,ntmps110;go_wp2_with (go_at_call 147;refine d.mono ?_;rintro e w2 ⟨rfl,hb⟩;have R:=(H.out.cA hb).at HA.out;have e0:w2.cell? (aj p)=some (ai (aj g) rs.length cap):=(H.out.cA hb).b0.cell 0;have e3:w2.cell? (aj p 3)=some (U pw):=(H.out.cA hb).b0.cell 3;have r0:=R.c0;have r1:=R.c1;have r2:=R.c2;have r3:=R.c3;have r4:=R.c4;have a3:=fq e3;clear R)
 have HB:=bU hb;clear hb
 go_quiet (fail)
 go_wp2_with fail
 go_ret2
 exact⟨by first|rfl|simp,jh (bA HB.out (av _) _) _⟩
end Sl
namespace Fd
open Go.Shelf Go.RowKit
def vx:Go.Shelf.Ren:=⟨fun|129=>204|n=>n,fun|53=>36|3=>3|4=>4|46=>160|5=>5|9=>9|n=>n,fun|n=>n⟩
theorem Jq:Go.Proofs.Lays.n129 prog vx:={
 mixed:=by kernel_rfl
 f129:=func204.trans (congrArg some (by kernel_rfl))
 t3:=underlying3
 a3:=Tryz.isAgg3
 z3:=Tryz.sizeOf3
 v3:=Tryz.zeroValue3
 t4:=underlying4
 a4:=Tryz.isAgg4
 z4:=Tryz.sizeOf4
 v4:=Tryz.zeroValue4
 t5:=underlying5
 a5:=Tryz.isAgg5
 z5:=Tryz.sizeOf5
 v5:=Tryz.zeroValue5
 t9:=underlying9
 a9:=Tryz.isAgg9
 z9:=Tryz.sizeOf9
 v9:=Tryz.zeroValue9
 t46:=underlying160
 a46:=Tryz.isAgg160
 z46:=Tryz.sizeOf160
 v46:=Tryz.zeroValue160
 t53:=underlying36
 a53:=Tryz.isAgg36
 z53:=Tryz.sizeOf36
 v53:=Tryz.zeroValue36}
theorem LF:∀(f m x:Nat),x<2^m→Lib.bitLenAux f x<=m
 | 0,_,_,_=>aW _
 | f+1,m,x,h=>by
   unfold Lib.bitLenAux
   split
   .exact aW _
   .cases m with
    | zero=>simp at h;omega
    | succ m=>
     have:=LF f m (x/2) (by rw[Nat.pow_succ] at h;omega);omega
theorem bitLen_le(m x:Nat)(h:x<2^m):Lib.bitLen x<=m:=LF 64 m x h
theorem gX(x:Nat)(w:World)(h1:x<18446744073709551616):
  ak 204 #[aa x] w fun e w'=>e=ae (U (Lib.bitLen x))/\w=w':=by
 have:=Any.bits_Len64 Jq (x:Int) w (by omega) (by omega);rw[aG] at this;exact this.mono (fun e w' ⟨a,b⟩=>⟨a,b.symm⟩)
end Fd
namespace Fd
open Go.RowKit Go.bZ
theorem xL(w:World)(a n:Nat)(h1:1<=n)(h2:a+n<=64):ak 256 #[U a,U n] w fun e w'=>e=ae (.bool true)/\w=w':=by
 have h3:decide ((a:Int)<=64-(n:Int))=true:=aw (by omega);have h4:(n:Int)<=64:=by omega
 go_enter func256,ntmps256;go_wp2_with fail;go_ret;exact⟨rfl,rfl⟩
def iU(n:Nat):Nat:=2^n-1
theorem zo(w:World)(n:Nat)(h1:1<=n)(h2:n<=64):ak 257 #[U n] w fun e w'=>e=ae (aa (iU n:Nat))/\w=w':=by
 have e:(18446744073709551615:Int)/2^(64-n)=((iU n:Nat):Int):=by
  unfold iU;have hp:=Nat.two_pow_pos (64-n);have hq:=Nat.two_pow_pos n;have hm:2^n*2^(64-n)=18446744073709551616:=by rw[←Nat.pow_add,show n+(64-n)=64 by omega]
  have:18446744073709551615/2^(64-n)=2^n-1:=by
   rw[Nat.div_eq_iff hp];have Mq:(2^n-1)*2^(64-n)=18446744073709551616-2^(64-n):=by rw[Nat.sub_mul,hm,Nat.one_mul]
   have:2^(64-n)<=18446744073709551616:=Nat.pow_le_pow_right (n:=2) (by omega) (show 64-n<=64 by omega);constructor
   .omega
   .omega
  rw[←this];rw[Int.natCast_ediv,Int.natCast_pow];rfl
 have e2:(64:Int)-(n:Int)=((64-n:Nat):Int):=by omega
 have hle:64-n<=63:=by omega
 generalize iU n=m at *;generalize 64-n=z at *;go_enter func257,ntmps257;go_wp2_with fail;go_ret;exact⟨rfl,rfl⟩
theorem zp(n:Nat)(h2:n<=64):iU n<18446744073709551616:=by
 unfold iU;have:2^n<=18446744073709551616:=Nat.pow_le_pow_right (n:=2) (by omega) (show n<=64 from h2);have:=Nat.two_pow_pos n;omega
def dy(w a n:Nat):Nat:=w/2^a%2^n
theorem Mu(w:World)(x a n:Nat)(hx:x<18446744073709551616)(h1:1<=n)(h2:a+n<=64):ak 207 #[aa x,U a,U n] w fun e w'=>e=ae (.tuple #[aa (dy x a n:Nat),U 0])/\∃k,w'=w.drewN k:=by
 have dm:=xL w a n h1 h2;have dk:=fun W=>zo W n h1 (by omega)
 have hml:=zp n (by omega);have hd:((x:Int)/2^a)=((x/2^a:Nat):Int):=by rw[Int.natCast_ediv,Int.natCast_pow];rfl
 have hb:bits .and .u64 ((x/2^a:Nat):Int) ((iU n:Nat):Int)=((dy x a n:Nat):Int):=by
  rw[u64_and_nat _ _ (Nat.lt_of_le_of_lt (Nat.div_le_self _ _) hx) hml];unfold iU dy;rw[Nat.and_two_pow_sub_one_eq_mod]
 have ha:(a:Int)<=63:=by omega
 generalize x/2^a=y at *;generalize iU n=m at *;generalize dy x a n=r at *;go_enter func207,ntmps207;go_wp2_with (go_at_call 256;(with_reducible refine dm.mono ?_);rintro e w' ⟨rfl,rfl⟩)
 go_region_with (go_at_call 257;refine(dk _).mono ?_;rintro e w' ⟨rfl,rfl⟩)
 all_goals
  go_wp2_with fail
  go_ret2
  exact⟨rfl,1,rfl⟩
def gu(w a n v:Nat):Nat:=(w &&& (18446744073709551615-iU n*2^a%18446744073709551616)) ||| (v*2^a%18446744073709551616)
theorem Jr(w a n v:Nat)(hw:w<18446744073709551616):gu w a n v<18446744073709551616:=by
 unfold gu;exact Nat.or_lt_two_pow (n:=64) (Nat.lt_of_le_of_lt Nat.and_le_left hw) (Nat.mod_lt _ (by omega))
theorem Mv(w:World)(x a n v:Nat)(hx:x<18446744073709551616)(h1:1<=n)(h2:a+n<=64)(hv:v<2^n):ak 302 #[aa x,U a,U n,aa v] w fun e w'=>e=ae (.tuple #[aa (gu x a n v:Nat),U 0])/\∃k,w'=w.drewN k:=by
 have dm:=xL w a n h1 h2;have dk:=fun W=>zo W n h1 (by omega)
 have hml:=zp n (by omega);have QB:v<18446744073709551616:=aB hv (Nat.pow_le_pow_right (n:=2) (by omega) (show n<=64 by omega));have dl:=fun W=>gX v W QB
 have hbl:=bitLen_le n v hv;have Fe:IntKind.u64.wrap (((iU n:Nat):Int)*2^a)=((iU n*2^a%18446744073709551616:Nat):Int):=by
  rw[IntKind.wrap_u64,show((2:Int)^a)=((2^a:Nat):Int) by rw[Int.natCast_pow];rfl,←Int.natCast_mul,Int.natCast_emod];rfl
 have pK:IntKind.u64.wrap ((v:Int)*2^a)=((v*2^a%18446744073709551616:Nat):Int):=by
  rw[IntKind.wrap_u64,show((2:Int)^a)=((2^a:Nat):Int) by rw[Int.natCast_pow];rfl,←Int.natCast_mul,Int.natCast_emod];rfl
 have PR:iU n*2^a%18446744073709551616<18446744073709551616:=Nat.mod_lt _ (by omega);have Mq:v*2^a%18446744073709551616<18446744073709551616:=Nat.mod_lt _ (by omega);have hb:bits .andNot .u64 (x:Int) ((iU n*2^a%18446744073709551616:Nat):Int)=((x &&& (18446744073709551615-iU n*2^a%18446744073709551616):Nat):Int):=u64_andNot_nat _ _ hx PR;have cN:bits .or .u64 ((x &&& (18446744073709551615-iU n*2^a%18446744073709551616):Nat):Int) ((v*2^a%18446744073709551616:Nat):Int)=((gu x a n v:Nat):Int):=u64_or_nat _ _ (Nat.lt_of_le_of_lt Nat.and_le_left hx) Mq;have ha:(a:Int)<=63:=by omega
 generalize gu x a n v=r at *;generalize x &&& (18446744073709551615-iU n*2^a%18446744073709551616)=r1 at *;generalize iU n*2^a%18446744073709551616=m1 at *;generalize v*2^a%18446744073709551616=m2 at *;generalize iU n=m at *;generalize Lib.bitLen v=bl at *;have S1:=bU Fe;have S2:=bU pK;have S3:=bU hb;have S4:=bU cN;clear hv PR Mq hml Fe pK hb cN;go_enter func302,ntmps302;go_wp2_with (first|(go_at_call 256;(with_reducible refine dm.mono ?_);rintro e w' ⟨rfl,rfl⟩)|(go_at_call 204;refine(dl _).mono ?_;rintro e w' ⟨rfl,rfl⟩))
 have Fe:=S1.out;have pK:=S2.out;have hb:=S3.out;have cN:=S4.out;clear S1 S2 S3 S4 dl hbl
 go_quiet ((go_at_call 257;exact Calls.quiet_of_same ((dk _).mono (fun e w' h=>⟨h.1,h.2.symm⟩))))
 go_wp2_with fail
 go_ret2
 exact⟨rfl,_,rfl⟩
end Fd
end Go.Proofs.YtgblmelijlgimaaGreatDoor
