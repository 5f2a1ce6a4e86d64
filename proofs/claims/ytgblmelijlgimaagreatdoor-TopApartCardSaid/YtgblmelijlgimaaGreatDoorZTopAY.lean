/- Parts of the proof of TopApart. -/
import Derived.Test.YtgblmelijlgimaaGreatDoorZTopAJ
import Derived.Deep.AppendLies
import Derived.Deep.RegionLaw
import Derived.Deep.CutRange
set_option maxRecDepth 100000
namespace Go.Proofs.YtgblmelijlgimaaGreatDoor
open Go.Proofs.Tryz
namespace Mm
open Go.RowKit Go.bZ Go.Cf Cn Bt
theorem rE(w wr:World)(c:cF)(mp mw n t:Nat)(v:Value)(h:xH w wr c mp mw n t v)(wx:World)(hx:Below wr.heap.size wr wx)(w1:World)(hg:wx.grownBy w1 v.ownBlock):cj w1 mp #[ai (aj mw) n n,v] 110:=
 (hg.block _ (by have:=h.b0.lt;have:=hx.size;omega) (fun e=>by have:=(h.own.lt mp e.symm).1;omega)).trans (hx.block _ h.b0.lt |>.trans h.b0)
theorem Gv{w w':World}{B n:Nat}{e:TypeId}{v:Value}{xs:List Value}(h:w.ownsRow B e 1 v n xs)(hb:Below w.heap.size w w'):w'.ownsRow B e 1 v n xs:=by
 obtain⟨hl,h|⟨g,cap,cur,h1,h2,h3,h4⟩⟩:=h
 .exact⟨hl,.inl h⟩
 .refine⟨hl,.inr ⟨g,cap,cur,h1,h2,(hb.block g ?_).trans h3,h4⟩⟩
  rcases Nat.lt_or_ge g w.heap.size with k|k
  .exact k
  .rw[Array.getElem?_eq_none k] at h3;cases h3
theorem rF(f:Nat→Nat):∀n i,i<n→f i<=cI f n
 | 0,i,h=>by omega
 | n+1,i,h=>by
   unfold cI;by_cases e:i=n
   .subst e;omega
   .have:=rF f n i (by omega);omega
theorem Gx{c:cF}(k:Ok c){t:Nat}(ht:t<c.ts.length):0<ke c t:=by
 have h1:=rF (fun j=>jg c t j*c.cB) c.cl.length 0 k.c1;have h2:=(oQ k ht (show 0<c.cl.length from k.c1)).g1;have h3:=(k.le 0 k.c1).1;have h4:=(k.le 0 k.c1).2.1;have h5:=k.p1;have h6:1*1<=jg c t 0*c.cB:=Nat.mul_le_mul h2 (by omega);unfold ke;have h7:jg c t 0*c.cB<=cI (fun j=>jg c t j*c.cB) c.cl.length:=h1;omega
theorem rG(c:cF):∀j i,i<=j→fG c i<=fG c j
 | 0,i,h=>by
         obtain rfl:i=0:=by omega
         exact av _
 | j+1,i,h=>by
   by_cases e:i=j+1
   .subst e;exact av _
   .have h1:=rG c j i (by omega)
    have h2:fG c (j+1)=fG c j+ke c j:=rfl;omega
theorem km(c:cF)(n i:Nat)(h:i<n):(gj c n).getD i 0=fG c i:=by
 unfold gj;rw[ao,aR,List.getElem?_range h];rfl
theorem CQ{w w1:World}{c:cF}(k:Ok c){mp mw:Nat}{v:Value}(h:xH w w1 c mp mw (fG c c.ts.length) (c.ts.length+1) v):
  ∃mb cap,fI w1 mp mw mb cap (gj c (c.ts.length+1)) (List.replicate (fG c c.ts.length) 0)/\mp<mb:=by
 have h0:=h.b0;obtain⟨hl,⟨h9,h8⟩|⟨g,cap,cur,rfl,hb,hg,hc,hm,hs,ht⟩⟩:=h.own
 .omega
 .refine⟨g,cap,⟨?_,h.b1,fun i hi=>?_,fun x hx=>?_,fun i hi=>?_,fun i hi=>?_,?_,?_,?_⟩,by omega⟩
  .rw[aN,gI];exact h0
  .rw[gI] at hi
   rw[cell_of_row w1 g i cur _ _ hg,km c _ i hi];have h1:(cur.toList.take ((c.ts.length+1)*1))[i]?=some (U (fG c i:Nat)):=by
    rw[ht];unfold IV gj;rw[aR,aR,List.getElem?_range hi];rfl
   rw[List.getElem?_take_of_lt (by omega)] at h1;rw[←bJ];exact h1
  .rw[aQ hx];omega
  .rw[gI] at hi
   rw[km c _ i (by omega),km c _ (i+1) hi];have:=Gx k (show i<c.ts.length by omega);have h2:fG c (i+1)=fG c i+ke c i:=rfl;omega
  .rw[gI] at hi
   rw[km c _ i hi,aN];exact rG c _ _ (by omega)
  .rw[aN]
   have:=vq k (av c.ts.length);omega
  .rw[gI];have:=k.t1;omega
  .rw[gI];have:=k.t8;omega
set_option maxHeartbeats 2000000 in
theorem fQ{w:World}{c:cF}(h:gN w c)(k:Ok c)(hcp:c.ts.length<=c.ct):
  ak 25 #[cF.val c] w fun e w'=>∃mp mw mb cap,e=ae (.tuple #[af (aj mp),U 0])/\fI w' mp mw mb cap (gj c (c.ts.length+1)) (List.replicate (fG c c.ts.length) 0)/\Below w.heap.size w w'/\w.heap.size<=mw/\mw<mp/\mp<mb:=by
 have dj:=(bV _ w).alloc (av _) (.cells #[ai (aj c.gc c.oc) c.cl.length c.cc,U c.cB,ai (aj c.gt c.ot) c.ts.length c.ct,U c.wk,U c.gy,U c.gn] 25);have h1:=h.cA k dj;have dt:=E8 h1 k;have t8:=k.t8;have hnb:=vq k (av c.ts.length);have hmk:=fun(W:World)=>run_make_row' (P:=prog) 108 36 (aa 0) 8 underlying108 qB rfl .i64 .i64 (fG c c.ts.length) (by omega) (by omega) W
 simp only[nV] at hmk;obtain⟨i0,uN,iX,jm,nQ⟩:=info_parts E9;have HF:Hid (∀mp mw w1 v,xH w w1 c mp mw (fG c c.ts.length) (c.ts.length+1) v→∃mb cap,fI w1 mp mw mb cap (gj c (c.ts.length+1)) (List.replicate (fG c c.ts.length) 0)/\mp<mb):=bU (fun mp mw w1 v hN=>CQ k hN);have HB:=bU dj;have HK:=bU k;have H0:=bU h;have HBs:Hid (∀t W,t<c.ts.length→gN W c→ak 43 #[.agg #[ai (aj c.gc c.oc) c.cl.length c.cc,U c.cB,ai (aj c.gt c.ot) c.ts.length c.ct,U c.wk,U c.gy,U c.gn],U t] W fun e w'=>e=ae (.tuple #[U (fG c t:Nat),U 0])/\Below W.heap.size W w'):=bU (fun t W ht hW=>Jp hW k t ht hcp);obtain⟨n,hn⟩:=al (fG c c.ts.length);rw[hn] at dt hnb hmk HF ⊢;have HN:=bU hn;unfold cF.val at *;clear h h1 dj k hn;go_enter func25,ntmps25;go_wp2_with (go_at_call 42;(with_reducible refine dt.mono ?_);rintro e w2 ⟨rfl,cN⟩;obtain⟨x0,x1,x2,x3,x4,x5⟩:=lX w c (cN.mono (by simp));have y2:=lL x2)
 have BX:Hid (cj w2 w.heap.size #[ai (aj c.gc c.oc) c.cl.length c.cc,U c.cB,ai (aj c.gt c.ot) c.ts.length c.ct,U c.wk,U c.gy,U c.gn] 25):=bU ((cj.new w _ _).cA cN);have H2:=bU (bT HB.out cN (by simp));have hsz:w.heap.size<w2.heap.size:=by have:=cN.size;simp at this;omega
 clear cN x0 x1 x3 x4 x5 dt hmk;have N0:Hid (xH w ((w2.alloc (.cells (ints .u64 (List.replicate n 0)) 36)).alloc (.cells #[ai (aj w2.heap.size) n n,ai none 0 0] 110)) c (w2.heap.size+1) w2.heap.size n 0 (ai none 0 0)):=bU ⟨iI w2 _ _ _,(cj.new w2 _ _).alloc _,⟨rfl,.inl ⟨rfl,rfl⟩⟩,(BX.out.alloc _).alloc _,hsz,by omega,by simp,bA (bA H2.out (av _) _) (av _) _⟩;clear y2 BX H2;obtain⟨mp,hmp⟩:=al (w2.heap.size+1);obtain⟨mw,hmw⟩:=al (w2.heap.size);have hlo:w.heap.size<=mw/\mw<mp:=by omega
 rw[hmp,hmw] at N0 ⊢
 go_loopw [25] (fun i wr=>∃(t:Nat) (v:Value),t<=c.ts.length/\i=U t/\Hid (xH w wr c mp mw n t v)) (fun i _=>c.ts.length-(intOf i).toNat)
 case atStart=>exact⟨0,_,by omega,rfl,N0⟩
 case round=>
  obtain⟨t,v,ht,rfl,hN⟩:=hrel;have a0:wr.cell? (aj w.heap.size)=some (ai (aj c.gc c.oc) c.cl.length c.cc):=hN.out.box.cell 0;have a1:wr.cell? (aj w.heap.size 1)=some (U c.cB):=hN.out.box.cell 1;have a2:wr.cell? (aj w.heap.size 2)=some (ai (aj c.gt c.ot) c.ts.length c.ct):=hN.out.box.cell 2;have a3:wr.cell? (aj w.heap.size 3)=some (U c.wk):=hN.out.box.cell 3;have a4:wr.cell? (aj w.heap.size 4)=some (U c.gy):=hN.out.box.cell 4;have a5:wr.cell? (aj w.heap.size 5)=some (U c.gn):=hN.out.box.cell 5;have hsr:=hN.out.sz;by_cases hlt:t<c.ts.length
  .have db:=HBs.out t wr hlt (H0.out.cA HK.out hN.out.bl)
   go_wp2_with (first|(go_at_call 43;(with_reducible refine db.mono ?_);rintro e w3 ⟨rfl,dJ⟩;have K3:=hN.out.b0.cA dJ;have k1:w3.cell? (aj mp 1)=some v:=K3.cell 1;have k1a:=fun o=>fq k1 o;have ow:=bU (Gv hN.out.own dJ);have MT:=dJ.size;have HX:Hid (Below wr.heap.size wr (w3.alloc (.cells #[U (fG c t:Nat)] 3))):=bU (bA dJ (av _) _);clear K3)|(at_builtin;refine wpList_append_own _ rfl _ _ 22 rfl (mp+1) 3 i0 (U 0) 1 8 underlying22 uN iX jm nQ rfl (by decide) v t _ rfl (ow.out.alloc _) ⟨w3.heap.size,0,none⟩ 1 1 [U ((fG c t:Nat):Int)] rfl rfl ?c1 ?c2 ?c3 ?c4 ?c5 ?_))
   case c1=>
    intro j u hj
    match j,hj with
    | 0,hj=>simp at hj;subst hj;simp only[Addr.add];exact eX w3 _ _ 0
   case c2=>intro u hu;simp at hu;subst hu;rfl
   case c3=>unfold maxLen;omega
   case c4=>omega
   case c5=>simp;have:=MT;omega
   intro v' w1 fN hgrow _;obtain⟨g9,pM,rfl⟩:∃g c',v'=ai (aj g) (t+1) c':=by
    obtain⟨RT,⟨h9,h8⟩|⟨g9,pM,Mw,h9,-⟩⟩:=fN
    .omega
    .exact⟨g9,pM,h9⟩
   have P1:=bU (vw w wr c mp mw n t v hN.out _ HX.out _ w1 fN hgrow);have K1:=rE w wr c mp mw n t v hN.out _ HX.out w1 hgrow;have q1:w1.cell? (aj mp 1)=some v:=K1.cell 1;have p1:=K1.cE 1;clear fN hgrow K1;go_wp2_with fail
   go_roundw
   case rel=>exact⟨t+1,_,by omega,by go_num,P1⟩
   case measure=>simp[intOf];omega
  .obtain rfl:t=c.ts.length:=by omega
   have k1:wr.cell? (aj mp 1)=some v:=hN.out.b0.cell 1;have k1a:=fun o=>fq k1 o
   have ow:=bU hN.out.own;have HX:Hid (Below wr.heap.size wr (wr.alloc (.cells #[U n] 3))):=bU (bA (bV _ _) (av _) _);have MT:=av wr.heap.size;go_wp2_with (at_builtin;refine wpList_append_own _ rfl _ _ 22 rfl (mp+1) 3 i0 (U 0) 1 8 underlying22 uN iX jm nQ rfl (by decide) v c.ts.length _ rfl (ow.out.alloc _) ⟨wr.heap.size,0,none⟩ 1 1 [U ((n:Nat):Int)] rfl rfl ?d1 ?d2 ?d3 ?d4 ?d5 ?_)
   case d1=>
    intro j u hj
    match j,hj with
    | 0,hj=>simp at hj;subst hj;simp only[Addr.add];exact eX wr _ _ 0
   case d2=>intro u hu;simp at hu;subst hu;rfl
   case d3=>unfold maxLen;omega
   case d4=>omega
   case d5=>simp;have:=MT;omega
   intro v' w1 fN hgrow _;obtain⟨g9,pM,rfl⟩:∃g c',v'=ai (aj g) (c.ts.length+1) c':=by
    obtain⟨RT,⟨h9,h8⟩|⟨g9,pM,Mw,h9,-⟩⟩:=fN
    .omega
    .exact⟨g9,pM,h9⟩
   have P1:=bU (vw w wr c mp mw n c.ts.length v hN.out _ HX.out _ w1 (by rw[HN.out];exact fN) hgrow);have K1:=rE w wr c mp mw n c.ts.length v hN.out _ HX.out w1 hgrow;have q1:w1.cell? (aj mp 1)=some v:=K1.cell 1;have p1:=K1.cE 1;clear fN hgrow K1;go_wp2_with fail
   go_ret2
   obtain⟨mb,cap,hM,QW⟩:=HF.out mp mw _ _ P1.out;exact⟨mp,mw,mb,cap,rfl,hM,P1.out.bl,hlo.1,hlo.2,QW⟩
end Mm
namespace Sl
open Go.RowKit Go.bZ Go.Gc Go.Cf
def recAt(c:cF)(t i:Nat):Rec:=⟨c.cl.getD i 0,cI (gC c t) i,gC c t i,cI (jg c t) i,iZ c i⟩
def ie(c:cF)(t n:Nat):List Rec:=(List.range n).map (recAt c t)
theorem pG(c:cF)(t n:Nat):ie c t (n+1)=ie c t n++[recAt c t n]:=by simp[ie,List.range_succ]
theorem rH(c:cF)(t n:Nat):(ie c t n).length=n:=by simp[ie]
theorem tz{P:Nat}:∀{l:List Rec} {f p n pg:Nat} {r:Rec},Go.Gc.Good P l f p n pg→r.first=n→r.cB=pg→0<r.size→0<r.fk→r.fk<=64→r.fk*r.size<=P→0<r.many→Go.Gc.Good P (l++[r]) f p (n+r.many) (pg+r.nk)
 | [],f,p,n,pg,r,h,h1,h2,h3,h4,h5,h6,h7=>by
   obtain⟨rfl,rfl⟩:=h;exact⟨h1,h2,h3,h4,h5,h6,h7,rfl,rfl⟩
 | a::l,f,p,n,pg,r,h,h1,h2,h3,h4,h5,h6,h7=>by
   obtain⟨k1,k2,k3,k4,k5,k6,k7,k8⟩:=h;exact⟨k1,k2,k3,k4,k5,k6,k7,tz k8 h1 h2 h3 h4 h5 h6 h7⟩
theorem o7{c:cF}(k:Ok c){t:Nat}(ht:t<c.ts.length):∀j,j<=c.cl.length→Go.Gc.Good c.cB (ie c t j) 0 0 (cI (gC c t) j) (cI (jg c t) j)
 | 0,_=>⟨rfl,rfl⟩
 | j+1,h=>by
   have ih:=o7 k ht j (by omega);have hn:=oQ k ht (show j<c.cl.length by omega);have hl:=(k.le j (by omega)).1;rw[pG];exact tz (r:=recAt c t j) ih rfl rfl (by show 0<c.cl.getD j 0;omega) hn.e1 (by have:=hn.e2;show iZ c j<=64;omega) hn.e3 hn.s1
theorem mv(f:Nat→Nat):∀n i,i<=n→cI f i<=cI f n
 | 0,i,h=>by
         obtain rfl:i=0:=by omega
         exact av _
 | n+1,i,h=>by
   by_cases e:i=n+1
   .subst e;exact av _
   .have h1:=mv f n i (by omega)
    have h2:cI f (n+1)=cI f n+f n:=rfl;omega
theorem LK{c:cF}(k:Ok c){t:Nat}(ht:t<c.ts.length)(j:Nat)(h:j<=c.cl.length):cI (gC c t) j<=16384/\cI (jg c t) j<=16384:=by
 have h1:=jB (f:=gC c t) (b:=2048) j (fun i hi=>(oQ k ht (by omega)).s2);have h2:=jB (f:=jg c t) (b:=2048) j (fun i hi=>(oQ k ht (by omega)).g2);have:=k.c8;omega
theorem uk(c:cF)(t:Nat):∀n,cI (fun k=>jg c t k*c.cB) n=cI (jg c t) n*c.cB
 | 0=>by simp[cI]
 | n+1=>by
   have ih:=uk c t n;show cI (fun k=>jg c t k*c.cB) n+jg c t n*c.cB=(cI (jg c t) n+jg c t n)*c.cB;rw[ih,Nat.add_mul]
structure xg(w wr:World)(c:cF)(t j f q p:Nat)(v:Value):Prop where
 b0:cj wr p #[v,U f,U q,U c.cB] 172
 own:wr.ownsRow (p+1) 174 5 v j ((ie c t j).flatMap Rec.cells)
 box:cj wr w.heap.size #[ai (aj c.gc c.oc) c.cl.length c.cc,U c.cB,ai (aj c.gt c.ot) c.ts.length c.ct,U c.wk,U c.gy,U c.gn] 25
 lo:w.heap.size<p
 bl:Below w.heap.size w wr
theorem xg.cA{w wr w':World}{c:cF}{t j f q p:Nat}{v:Value}(h:xg w wr c t j f q p v)(hb:Below wr.heap.size wr w'):xg w w' c t j f q p v:=by
 refine⟨h.b0.cA hb,?_,h.box.cA hb,h.lo,h.bl.trans (hb.mono h.bl.size)⟩;obtain⟨hl,k|⟨g,cap,cur,h1,h2,h3,h4⟩⟩:=h.own
 .exact⟨hl,.inl k⟩
 .refine⟨hl,.inr ⟨g,cap,cur,h1,h2,(hb.block g ?_).trans h3,h4⟩⟩
  rcases Nat.lt_or_ge g wr.heap.size with k|k
  .exact k
  .rw[Array.getElem?_eq_none k] at h3;cases h3
theorem xg.app{w wr w1 wx:World}{c:cF}{t j f q p:Nat}{v v':Value}(h:xg w wr c t j f q p v)(hx:Below wr.heap.size wr wx)(hown:w1.ownsRow (p+1) 174 5 v' (j+1) ((ie c t j).flatMap Rec.cells++(recAt c t j).cells))(hg:wx.grownBy w1 v.ownBlock):xg w (w1.setCell (aj p) v') c t (j+1) f q p v':=by
 have h2:=h.cA hx;have hn:∀i,i<p+1→some i≠v.ownBlock:=fun i hi e=>by have:=(h.own.lt i e.symm).1;omega
 have hbl:∀{b:Nat} {C:Array Value} {ty:TypeId},cj wx b C ty→b<p+1→cj w1 b C ty:=fun hb hlt=>(hg.block _ hb.lt (hn _ hlt)).trans hb
 have hlo:=h.lo;refine⟨(hbl h2.b0 (by omega)).set 0 v',?_,(hbl h2.box (by omega)).other (by omega) 0 v',h.lo,(h2.bl.trans ⟨hg.os,hg.tape,hg.output,hg.size,fun k hk=>hg.block k (by have:=h2.b0.lt;omega) (hn k (by omega))⟩).setCell (by show w.heap.size<=p;omega) _⟩;have:=ownsRow_setCell_below hown (a:=⟨p,0,none⟩) (by show p<p+1;omega) v';rw[pG,List.flatMap_append];simpa using this
theorem xg.first{w wr:World}{c:cF}{t j f q p:Nat}{v:Value}(h:xg w wr c t j f q p v)(f':Nat):xg w (wr.setCell (aj p 1) (U f')) c t j f' q p v:=
 ⟨h.b0.set 1 _,ownsRow_setCell_below h.own (a:=⟨p,1,none⟩) (by show p<p+1;omega) _,h.box.other (by have:=h.lo;omega) 1 _,h.lo,h.bl.setCell (by have:=h.lo;show w.heap.size<=p;omega) _⟩
theorem xg.cB{w wr:World}{c:cF}{t j f q p:Nat}{v:Value}(h:xg w wr c t j f q p v)(q':Nat):xg w (wr.setCell (aj p 2) (U q')) c t j f q' p v:=
 ⟨h.b0.set 2 _,ownsRow_setCell_below h.own (a:=⟨p,2,none⟩) (by show p<p+1;omega) _,h.box.other (by have:=h.lo;omega) 2 _,h.lo,h.bl.setCell (by have:=h.lo;show w.heap.size<=p;omega) _⟩
theorem xg.done{w wr:World}{c:cF}(k:Ok c){t p:Nat}(ht:t<c.ts.length){v:Value}(h:xg w wr c t c.cl.length (cI (gC c t) c.cl.length) (cI (jg c t) c.cl.length) p v):
  ∃g cap,ff wr p g cap (ie c t c.cl.length) (cI (gC c t) c.cl.length) (cI (jg c t) c.cl.length) c.cB/\p<g:=by
 have h0:=h.b0;have hs:=LK k ht c.cl.length (av _);have hp:=k.p2;have hr:=p9 k ht;unfold ke at hr;rw[uk] at hr;have hl:=k.le 0 k.c1;have qJ:=k.p1;obtain⟨hl,⟨h9,h8⟩|⟨g,cap,cur,rfl,hb,hg,hc,hm,pK,htk⟩⟩:=h.own
 .have:=k.c1;omega
 .refine⟨g,cap,⟨?_,⟨(cur.toList.drop (c.cl.length*5)),174,?_⟩,by omega,by omega,by omega,by omega,by omega,by omega,by rw[rH];have:=k.c8;omega⟩,by omega⟩
  .rw[rH];exact h0
  .show wr.heap[g]?=_
   rw[hg,←htk,List.take_append_drop]
end Sl
namespace Sl
open Go.RowKit Go.bZ Go.Gc Go.Cf Cn
theorem OT:(prog.info? 174).map (fun i=>(i.zero,i.size,i.bytes))=some (some (.agg #[U 0,U 0,U 0,U 0,U 0]),5,40):=by kernel_rfl
def P2(w:World)(c:cF)(t j f q p:Nat)(wx:World):Prop:=∃v,xg w wx c t j f q p v
set_option maxHeartbeats 4000000 in
theorem fQ{w:World}{c:cF}(h:gN w c)(k:Ok c)(t:Nat)(ht:t<c.ts.length):
  ak 63 #[cF.val c,U t] w fun e w'=>∃p g cap,e=ae (.tuple #[af (aj p),U 0])/\ff w' p g cap (ie c t c.cl.length) (cI (gC c t) c.cl.length) (cI (jg c t) c.cl.length) c.cB/\Below w.heap.size w w'/\w.heap.size<=p/\p<g:=by
 have dj:=(bV _ w).alloc (av _) (.cells #[ai (aj c.gc c.oc) c.cl.length c.cc,U c.cB,ai (aj c.gt c.ot) c.ts.length c.ct,U c.wk,U c.gy,U c.gn] 25);have h1:=h.cA k dj;have dr:=sR h1 k t ht;obtain⟨i0,uN,iX,jm,nQ⟩:=info_parts OT;have HF:Hid (∀p w1 v,xg w w1 c t c.cl.length (cI (gC c t) c.cl.length) (cI (jg c t) c.cl.length) p v→∃g cap,ff w1 p g cap (ie c t c.cl.length) (cI (gC c t) c.cl.length) (cI (jg c t) c.cl.length) c.cB/\p<g):=bU (fun p w1 v hN=>hN.done k ht);have HB:=bU dj;have HCl:Hid (∀W,Below w.heap.size w W→∀i,i<c.cl.length→W.cell? (aj c.gc (c.oc+i))=some (U (c.cl.getD i 0:Nat))):=bU (fun W hW i hi=>(h.cA k hW).cls i hi);have HSl:Hid (∀j W,j<c.cl.length→Below w.heap.size w W→ak 91 #[.agg #[ai (aj c.gc c.oc) c.cl.length c.cc,U c.cB,ai (aj c.gt c.ot) c.ts.length c.ct,U c.wk,U c.gy,U c.gn],U t,U j] W fun e w'=>e=ae (.tuple #[U (gC c t j:Nat),U 0])/\Below W.heap.size W w'):=bU (fun j W hj hW=>vu (h.cA k hW) k t j ht hj);have HPg:Hid (∀j W,j<c.cl.length→Below w.heap.size w W→ak 88 #[.agg #[ai (aj c.gc c.oc) c.cl.length c.cc,U c.cB,ai (aj c.gt c.ot) c.ts.length c.ct,U c.wk,U c.gy,U c.gn],U t,U j] W fun e w'=>e=ae (.tuple #[U (jg c t j:Nat),U 0])/\Below W.heap.size W w'):=bU (fun j W hj hW=>vv (h.cA k hW) k t j ht hj);have HN:Hid (∀j,j<c.cl.length→(2<=c.cl.getD j 0/\c.cl.getD j 0<=64)/\cI (gC c t) j<=16384/\cI (jg c t) j<=16384/\gC c t j<=2048/\jg c t j<=2048):=bU (fun j hj=>by
  have h1:=k.le j hj;have h2:=LK k ht j (by omega);have h3:=oQ k ht hj;exact⟨⟨h1.1,by omega⟩,h2.1,h2.2,h3.s2,h3.g2⟩)
 have c8:=k.c8;have hpg:=k.p2;unfold cF.val at *;clear h h1 dj k;go_enter func63,ntmps63;go_wp2_with (go_at_call 62;(with_reducible refine dr.mono ?_);rintro e w2 ⟨rfl,cN⟩;obtain⟨x0,x1,x2,x3,x4,x5⟩:=lX w c (cN.mono (by simp));have y0:=fq x0)
 have N0:Hid (P2 w c t 0 0 0 w2.heap.size (w2.alloc (.cells #[ai none 0 0,U 0,U 0,U c.cB] 172))):=by
  have hsz:w.heap.size<w2.heap.size:=by have:=cN.size;simp at this;omega
  have dJ:=bT HB.out cN (by simp);exact bU ⟨_,cj.new w2 _ _,⟨rfl,.inl ⟨rfl,rfl⟩⟩,((cj.new w _ _).cA cN).alloc _,hsz,bA dJ (av _) _⟩
 have hp:w.heap.size<=w2.heap.size:=by have:=cN.size;simp at this;omega
 clear cN x0 x1 x2 x3 x4 x5 y0 dr HB;obtain⟨p,hpp⟩:=al (w2.heap.size);rw[hpp] at N0 hp ⊢
 go_loopw [31] (fun i wr=>∃j:Nat,j<=c.cl.length/\i=U j/\Hid (P2 w c t j (cI (gC c t) j) (cI (jg c t) j) p wr)) (fun i _=>c.cl.length-(intOf i).toNat)
 case atStart=>exact⟨0,by omega,rfl,N0⟩
 case round=>
  obtain⟨j,hj,rfl,hN⟩:=hrel;by_cases hlt:j<c.cl.length
  .obtain⟨v,Sj⟩:=hN.out
   have hQ:=bU Sj;clear Sj hN;have a0:wr.cell? (aj w.heap.size)=some (ai (aj c.gc c.oc) c.cl.length c.cc):=hQ.out.box.cell 0;have a1:wr.cell? (aj w.heap.size 1)=some (U c.cB):=hQ.out.box.cell 1;have a2:wr.cell? (aj w.heap.size 2)=some (ai (aj c.gt c.ot) c.ts.length c.ct):=hQ.out.box.cell 2;have a3:wr.cell? (aj w.heap.size 3)=some (U c.wk):=hQ.out.box.cell 3;have a4:wr.cell? (aj w.heap.size 4)=some (U c.gy):=hQ.out.box.cell 4;have a5:wr.cell? (aj w.heap.size 5)=some (U c.gn):=hQ.out.box.cell 5;have ac:=HCl.out wr hQ.out.bl j hlt;have ds:=HSl.out j wr hlt hQ.out.bl;obtain⟨⟨uM,Ec⟩,Md,Ue,Uf,Ug⟩:=HN.out j hlt;have hdw:IntKind.i64.wrap ((c.cB:Int)/((c.cl.getD j 0:Nat):Int))=((iZ c j:Nat):Int):=by
    have h1:((c.cB:Int)/((c.cl.getD j 0:Nat):Int))=((iZ c j:Nat):Int):=rfl;have h2:iZ c j<=c.cB:=Nat.div_le_self _ _;rw[h1];rw[IntKind.wrap_i64];omega
   have hdz:¬(((c.cl.getD j 0:Nat):Int)=0):=by omega
   have QX:¬(c.cl.getD j 0=0):=by omega
   have hrc:(recAt c t j).cells=[U (c.cl.getD j 0:Nat),U (cI (gC c t) j:Nat),U (gC c t j:Nat),U (cI (jg c t) j:Nat),U (iZ c j:Nat)]:=rfl;obtain⟨x,hx⟩:=al (c.cl.getD j 0);rw[hx] at ac hdw hdz QX hrc uM Ec;clear hx
   go_upto_region 10 with(first|(go_at_call 91;(with_reducible refine ds.mono ?_);rintro e w3 ⟨rfl,dJ⟩;have Kh:=bU (hQ.out.cA dJ);have b0:w3.cell? (aj w.heap.size)=some (ai (aj c.gc c.oc) c.cl.length c.cc):=Kh.out.box.cell 0;have b1:w3.cell? (aj w.heap.size 1)=some (U c.cB):=Kh.out.box.cell 1;have b2:w3.cell? (aj w.heap.size 2)=some (ai (aj c.gt c.ot) c.ts.length c.ct):=Kh.out.box.cell 2;have b3:w3.cell? (aj w.heap.size 3)=some (U c.wk):=Kh.out.box.cell 3;have b4:w3.cell? (aj w.heap.size 4)=some (U c.gy):=Kh.out.box.cell 4;have b5:w3.cell? (aj w.heap.size 5)=some (U c.gn):=Kh.out.box.cell 5;have dp:=HPg.out j w3 hlt Kh.out.bl)|(go_at_call 88;(with_reducible refine dp.mono ?_);rintro e w4 ⟨rfl,ni⟩;have xh:=bU (Kh.out.cA ni);clear hQ Kh dp ds ni dJ))
   go_cut [] from 32 to 90 (fun wx=>P2 w c t (j+1) (cI (gC c t) j) (cI (jg c t) j) p wx)
   case first=>
    have d0:w4.cell? (aj p)=some v:=xh.out.b0.cell 0;have d1:w4.cell? (aj p 1)=some (U (cI (gC c t) j:Nat)):=xh.out.b0.cell 1;have d2:w4.cell? (aj p 2)=some (U (cI (jg c t) j:Nat)):=xh.out.b0.cell 2;have d3:w4.cell? (aj w.heap.size 1)=some (U c.cB):=xh.out.box.cell 1;have HO:=bU (fun o=>(show w4.drew.ownsRow (p+1) 174 5 v j ((ie c t j).flatMap Rec.cells) from xh.out.own).alloc o);have HNw:Hid (∀i u,(recAt c t j).cells[i]?=some u→(w4.drew.alloc (.cells #[U x,U (cI (gC c t) j:Nat),U (gC c t j:Nat),U (cI (jg c t) j:Nat),U (iZ c j:Nat)] 174)).cell? ((⟨w4.heap.size,0,none⟩:Addr).add i)=some u):=bU (fun i u hu=>World.news_of_block (cj.new w4.drew _ _) i u (by rw[hrc] at hu;exact hu));have hH:p<w4.heap.size:=xh.out.b0.lt;have HEn:Hid (∀g cap w1,w1.ownsRow (p+1) 174 5 (ai (aj g) (j+1) cap) (j+1) ((ie c t j).flatMap Rec.cells++(recAt c t j).cells)→(w4.drew.alloc (.cells #[U x,U (cI (gC c t) j:Nat),U (gC c t j:Nat),U (cI (jg c t) j:Nat),U (iZ c j:Nat)] 174)).grownBy w1 v.ownBlock→(w1.cell? (aj p)=some v/\w1.cell? (aj p 1)=some (U (cI (gC c t) j:Nat))/\w1.cell? (aj p 2)=some (U (cI (jg c t) j:Nat))/\w1.cell? (aj w.heap.size 1)=some (U c.cB))/\((w1.setCell (aj p) (ai (aj g) (j+1) cap)).cell? (aj p 1)=some (U (cI (gC c t) j:Nat))/\(w1.setCell (aj p) (ai (aj g) (j+1) cap)).cell? (aj p 2)=some (U (cI (jg c t) j:Nat))/\(w1.setCell (aj p) (ai (aj g) (j+1) cap)).cell? (aj w.heap.size 1)=some (U c.cB))/\w1.frozen? (aj p)=false/\P2 w c t (j+1) (cI (gC c t) j) (cI (jg c t) j) p (w1.setCell (aj p) (ai (aj g) (j+1) cap))):=bU (fun g cap w1 ho hg=>by
     have hx:Below w4.heap.size w4 (w4.drew.alloc (.cells #[U x,U (cI (gC c t) j:Nat),U (gC c t j:Nat),U (cI (jg c t) j:Nat),U (iZ c j:Nat)] 174)):=(bV _ w4).drew.alloc (av _) _;have hb:cj w1 p _ _:=(hg.block _ (by have:=(xh.out.cA hx).b0.lt;exact this) (fun e=>by have:=(xh.out.own.lt p e.symm).1;omega)).trans (xh.out.cA hx).b0;have hbx:cj w1 w.heap.size _ _:=(hg.block _ (by have:=(xh.out.cA hx).box.lt;exact this) (fun e=>by have:=(xh.out.own.lt w.heap.size e.symm).1;have:=xh.out.lo;omega)).trans (xh.out.cA hx).box;have hA:=xh.out.app hx ho hg;exact⟨⟨hb.cell 0,hb.cell 1,hb.cell 2,hbx.cell 1⟩,⟨hA.b0.cell 1,hA.b0.cell 2,hA.box.cell 1⟩,hb.cE 0,_,xh.out.app hx ho hg⟩)
    have Wq:j<8:=by omega
    have d0a:=fun o=>fq (show w4.drew.cell? (aj p)=some v from d0) o
    clear ac a0 a1 a2 a3 a4 a5 b0 b1 b2 b3 b4 b5 xh HF HCl HSl HPg HN hj uM Ec Md Ue Uf Ug hp
    go_region_law (refine step_append_lies _ rfl (.tmp 54) (.tmp 70) 170 rfl (p+1) 174 i0 (.agg #[U 0,U 0,U 0,U 0,U 0]) 5 40 underlying170 uN iX jm nQ rfl (by decide) v j ((ie c t j).flatMap Rec.cells) rfl (HO.out _) ⟨w4.heap.size,0,none⟩ 1 1 (recAt c t j).cells rfl rfl HNw.out (by intro u hu;rw[hrc] at hu;simp at hu;rcases hu with rfl|rfl|rfl|rfl|rfl <;> rfl) (by decide) (by unfold maxLen;omega) (by omega) (by simp;omega) _ rfl ?_;intro g cap w1 hown hgrow hat QY;obtain⟨⟨e0,e3,e4,e5⟩,⟨e6,e7,e8⟩,e1,e2⟩:=HEn.out g cap w1 hown hgrow;have HE:=bU e2;clear hown hgrow hat QY e2)
    all_goals (go_wp2_with fail;go_meet;exact HE.out)
   case rest=>
    obtain⟨v2,hR⟩:=hcut;have R1:=bU hR;have f1:wc.cell? (aj p 1)=some (U (cI (gC c t) j:Nat)):=hR.b0.cell 1;have f2:wc.cell? (aj p 2)=some (U (cI (jg c t) j:Nat)):=hR.b0.cell 2;have f3:=hR.b0.cE 1;have f4:=hR.b0.cE 2;clear hR;go_wp2_with fail
    go_roundw
    case rel=>exact⟨j+1,by omega,by go_num,by
     have:=(R1.out.first (cI (gC c t) j+gC c t j)).cB (cI (jg c t) j+jg c t j);simp only[aY] at this;exact bU ⟨_,this⟩⟩
    case measure=>simp[intOf];omega
  .obtain rfl:j=c.cl.length:=by omega
   go_wp2_with fail
   go_ret2
   obtain⟨v,hQ⟩:=hN.out;obtain⟨g,cap,h1,h2⟩:=HF.out p _ v hQ;exact⟨p,g,cap,rfl,h1,hQ.bl,hp,h2⟩
end Sl
namespace Mm
open Go.RowKit Go.bZ Bt
theorem vZ(w:World)(g o n cap:Nat)(ws:List Int)(h:∀j,(hj:j<ws.length)→w.cell? (aj g (o+j))=some (aa ws[j]))(hn:ws.length=n)(se:n<=100000000):
  ak 90 #[ai (aj g o) n cap] w fun e w'=>∃v,e=ae v/\w'.ownsRow w.heap.size 36 1 v n (ws.map (Value.int .u64))/\Below w.heap.size w w':=by
 have hq:∀w,(binOp .eql 108 (ai (aj g o) n cap) (ai none 0 0)).run prog w=.ok (.bool false) w:=fun w=>by
  have he:=run_equal_slice_nil (P:=prog) w 108 36 (some ⟨g,o,none⟩) n cap underlying108;simp[binOp,go_sem,he]
 obtain⟨i0,hi,iX,jm,nQ⟩:=info_parts qB;have OW:=bU (World.ownsRow_made (base:=w.heap.size) (e:=36) (size:=1) w #[] 0 (av _) (by unfold maxLen;omega) rfl);have B1:=bU ((bV w.heap.size w).alloc (av _) (.cells #[] 36));have X1:Hid (Src prog 1 108 (ai (aj g o) n cap) n (ws.map (Value.int .u64)) (w.alloc (.cells #[] 36))):=bU (Src.ofSlice _ underlying108 ⟨g,o,none⟩ n cap _ (by rw[List.length_map,hn,bP]) (fun j u hj=>by
  have hadd:(⟨g,o,none⟩:Addr).add j=⟨g,o+j,none⟩:=by unfold Addr.add;split <;> simp_all
  rw[hadd];have hjl:j<ws.length:=by have:=(au.1 hj).1;simpa using this
  refine fq ((h j hjl).trans ?_) _;rw[aR,aq hjl] at hj;exact hj) (fun u hu=>by obtain⟨x,_,rfl⟩:=List.mem_map.1 hu;rfl))
 clear h hn;go_enter func90,ntmps90;go_wp2_with (at_builtin;refine fA _ rfl _ _ 108 108 rfl w.heap.size 36 i0 (aa 0) 1 8 underlying108 hi iX jm nQ rfl _ 0 [] rfl OW.out (ai (aj g o) n cap) n _ rfl X1.out (show Value.slice (some ⟨w.heap.size,0,none⟩) 0 0≠.slice none 0 0 from by simp) ?c1 ?c2 ?c3 ?_)
 case c1=>unfold maxLen;omega
 case c2=>omega
 case c3=>simp
 intro v1 w1 hown hgrow _;have hb:=B1.out.grown hgrow (by simp) (fun j hj=>(OW.out.lt j hj).1);have HB:=bU hb;have fN:w1.ownsRow w.heap.size 36 1 v1 n (ws.map (Value.int .u64)):=by first|exact hown|simpa using hown
 have HO:=bU fN;clear hown fN hgrow hb;go_wp2_with fail;go_ret;exact⟨_,rfl,HO.out,HB.out⟩
theorem zZ{w:World}{B n:Nat}{v:Value}{xs:List Value}(h:w.ownsRow B 36 1 v n xs)(hn:0<n):∃g cap,v=ai (aj g) n cap:=by
 obtain⟨hl,⟨rfl,rfl⟩|⟨g,cap,cur,rfl,-⟩⟩:=h
 .omega
 .exact⟨g,cap,rfl⟩
theorem yf{w:World}{mp mw mb cap:Nat}{bs:List Nat}{ws:List Int}(h:fI w mp mw mb cap bs ws):ak 61 #[af (aj mp)] w fun e w'=>(∃g n cap,e=ae (ai (aj g) n cap))/\Below w.heap.size w w':=by
 have d:=cC h;have c0:w.cell? (aj mp)=some (ai (aj mw) ws.length ws.length):=h.b0.cell 0;have hpos:0<ws.length:=by have h1:=h.up 0 h.two;have h2:=h.le 1 h.two;simp only[bM] at h1;omega
 have dc:=vZ w mw 0 ws.length ws.length ws (fun j hj=>by rw[bM];exact(h.b1.cell j).trans (ints_at _ _ _ hj)) rfl h.small;clear h;go_enter func61,ntmps61;go_wp2_with (first|(go_at_call 89;(with_reducible refine d.mono ?_);rintro e w' ⟨rfl,rfl⟩)|(go_at_call 90;refine dc.mono ?_;rintro e w2 ⟨v,rfl,ho,hb⟩;obtain⟨g2,mR,rfl⟩:=zZ ho hpos))
 go_ret;exact⟨⟨_,_,_,rfl⟩,hb⟩
theorem yg{w:World}{mp mw mb cap:Nat}{bs:List Nat}{ws:List Int}(h:fI w mp mw mb cap bs ws)(bm bt bw t:Nat)(ht:t+1<bs.length)
 (c0:w.cell? (aj bm)=some (af (aj mp)))(c1:w.cell? (aj bt)=some (U t))(b3:cj w bw #[ai none 0 0] 108):
  ak 115 #[af (aj bm),af (aj bt),af (aj bw)] w fun e w'=>e=ae (.tuple #[])/\(∃g cap,cj w' bw #[ai (aj g) (bs.getD (t+1) 0-bs.getD t 0) cap] 108)/\cu (· =bw) w w':=by
 have d:=sP h t ht;have hl:=h.le (t+1) ht;have hu:=h.up t ht;have hs:=h.small;have dc:=fun k=>vZ (w.drewN k) mw (bs.getD t 0) (bs.getD (t+1) 0-bs.getD t 0) (ws.length-bs.getD t 0) ((ws.drop (bs.getD t 0)).take (bs.getD (t+1) 0-bs.getD t 0)) (fun j hj=>by
  have IM:bs.getD t 0+j<ws.length:=by rw[List.length_take,List.length_drop] at hj;omega
  rw[List.getElem_take,List.getElem_drop];exact(h.b1.cell _).trans (ints_at _ _ _ IM)) (by rw[List.length_take,List.length_drop];omega) (by omega)
 have DC:=bU dc;generalize (ws.drop (bs.getD t 0)).take (bs.getD (t+1) 0-bs.getD t 0)=xs at *;generalize bs.getD t 0=z at *;generalize bs.getD (t+1) 0=z2 at *;obtain⟨n,hn⟩:=al (z2-z);rw[hn] at d DC ⊢;have se:0<n:=by omega
 have HK:Hid (∀k w2,Below w.heap.size (w.drewN k) w2→cj w2 bw #[ai none 0 0] 108):=bU (fun k w2 hb=>(b3.drewN k).below hb b3.lt);have HC:Hid (∀k w2,Below w.heap.size (w.drewN k) w2→∀v,cu (· =bw) w (w2.setCell (aj bw) v)):=bU (fun k w2 hb v=>((cu.cD (jh (bV w.heap.size w) k |>.trans hb)):cu (· =bw) w w2).stored (.inl rfl) _ _);clear h b3 dc hn hl hu;go_enter func115,ntmps115;go_wp2_with (first|(go_at_call 116;refine d.mono ?_;rintro e w' ⟨rfl,k,rfl⟩)|(go_at_call 90;refine(DC.out _).mono ?_;rintro e w2 ⟨v,rfl,ho,hb⟩;obtain⟨g2,mR,rfl⟩:=zZ ho se;have K:=HK.out _ _ hb;have k0:w2.cell? (aj bw)=some (ai none 0 0):=K.cell 0;have f0:=K.cE 0;have QG:=bU (K.set 0 (ai (aj g2) n mR));clear K))
 go_end0
 exact⟨rfl,⟨g2,mR,QG.out⟩,HC.out _ _ hb _⟩
end Mm
end Go.Proofs.YtgblmelijlgimaaGreatDoor
