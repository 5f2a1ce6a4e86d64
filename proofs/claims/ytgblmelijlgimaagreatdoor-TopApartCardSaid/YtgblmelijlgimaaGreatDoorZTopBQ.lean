/- Parts of the proof of TopApart. -/
import Derived.Test.YtgblmelijlgimaaGreatDoorZTopBP
set_option maxRecDepth 100000
namespace Go.Proofs.YtgblmelijlgimaaGreatDoor
open Go.Proofs.Tryz
namespace Mk
open Go.RowKit Go.bZ Go.Gc Sl Mm Hd Bd Gy Bt Tb Pn
open Ti (Tn)
theorem Pm:(prog.info? 264).map (fun i=>(i.zero,i.size,i.bytes))=some (some (.agg #[U 0,U 0,.bool false]),3,24):=by kernel_rfl
theorem yP(n:Nat):madeCells (Value.agg #[U 0,U 0,.bool false]).cells (n*3)=(dQ (List.replicate n ⟨0,0,false⟩)).toArray:=by
 unfold dQ;rw[List.flatMap_def,List.map_replicate];exact LJ (U 0) (U 0) (.bool false) n
theorem yQ(w:World)(n:Nat)(h1:1<=n)(h2:n<=9):(Instr.makeSlice 205 (U n) (U n)).run prog w=.ok (ai (aj w.heap.size) n n) (w.alloc (.cells (dQ (List.replicate n ⟨0,0,false⟩)).toArray 264)):=by
 obtain⟨i,hi,hzz⟩:=Option.map_eq_some_iff.1 Pm;simp only[Prod.mk.injEq] at hzz;obtain⟨hz,hs,hb⟩:=hzz;have hr:=run_make (P:=prog) w 205 264 i _ underlying205 hi hz .i64 .i64 n n (by omega) (Int.le_refl _) (by rw[hb];omega) (by omega);simp only[aG,hs] at hr;rw[yP n] at hr;exact hr
structure NH(w w':World)(c:Bc)(tb pn:Nat)(hn:Nat)(N:Int)(m g p1 p2:Nat)(i:Gi):Prop where
 gy:dV w' i [] (fun _=>false) (fun _=>false) 0 0
 ip:i.p=c.p/\i.n=c.n/\i.pg=c.pg
 tn:Tn w' p1 p2 (List.replicate c.n 0) N
 b0:cj w' m #[af (aj c.b),af (aj c.p),af (aj tb),af (aj pn),af (aj p1),af (aj i.q),ai (aj g) hn hn,U 0,.bool false,U 0] 207
 b1:cj w' g (dQ (List.replicate hn ⟨0,0,false⟩)).toArray 264
 bl:Below w.heap.size w w'
 o1:∀k,i.own k→w.heap.size<=k/\k<p1/\k<p2
 o2:p1<g/\p2<g/\g<m
theorem KZ{w w1 w2:World}{c:Bc}{tb pn hn:Nat}{N:Int}{p1 p2:Nat}{i:Gi}(g1:dV w1 i [] (fun _=>false) (fun _=>false) 0 0)(gi:i.p=c.p/\i.n=c.n/\i.pg=c.pg)(h1:Below w.heap.size w w1)(go:∀k,i.own k→w.heap.size<=k)(t2:Tn w2 p1 p2 (List.replicate c.n 0) N)(h2:Below w1.heap.size w1 w2)(k1:w1.heap.size<=p1)(k2:w1.heap.size<=p2):
  NH w ((w2.alloc (.cells (dQ (List.replicate hn ⟨0,0,false⟩)).toArray 264)).alloc (.cells #[af (aj c.b),af (aj c.p),af (aj tb),af (aj pn),af (aj p1),af (aj i.q),ai (aj w2.heap.size) hn hn,U 0,.bool false,U 0] 207)) c tb pn hn N (w2.heap.size+1) w2.heap.size p1 p2 i:=by
 obtain⟨f,ring,g⟩:=id g1;have lt:=t2.lt;have h3:Below w2.heap.size w2 ((w2.alloc (.cells (dQ (List.replicate hn ⟨0,0,false⟩)).toArray 264)).alloc (.cells #[af (aj c.b),af (aj c.p),af (aj tb),af (aj pn),af (aj p1),af (aj i.q),ai (aj w2.heap.size) hn hn,U 0,.bool false,U 0] 207)):=bA (bA (bV _ _) (av _) _) (av _) _;have hc:cu (fun _=>False) w2 _:=cu.cD h3;refine⟨(g1.cA h2).cA h3,gi,ib t2 hc id id,cj.jf w2 _ _ _ _,cj.gR w2 _ _ _ _,fj (fj h1 h2) h3,fun k hk=>⟨go k hk,?_⟩,lt.1,lt.2,bD _⟩;have:k<w1.heap.size:=by
  rcases hk with rfl|rfl|rfl|rfl|rfl|rfl
  .exact g.b0.lt
  .exact g.ro.lt.1
  .exact g.ro.lt.2
  .exact g.rd.lt.1
  .exact g.rd.lt.2
  .exact g.b1.lt
 omega
set_option maxHeartbeats 1000000 in
theorem fQ{w:World}{c:Bc}{ws:List Int}(h:Cx w c ws)(h0:at' c.bs c.tn ws (addrOf c.pw c.rs 0)=0)(se:0<c.n)(hn:c.n<=65536)(hpg:c.pg<=65536){t tg gens:Nat}{es:List eG}(ht:eP w t tg es gens){q g2 pr Ve:Nat}{cs:List Int}(hq:iV w q g2 pr Ve cs)(hcs:cs.length=c.n){wk dv:Nat}(hw:wk<=8)(hl:1<=dv/\dv<=64)(N:Int)(hN:1<=N)(Vf:N<=1000000):
  ak 69 #[af (aj c.b),af (aj c.p),af (aj t),af (aj q),U wk,U dv] w fun e w'=>∃m g p1 p2 i,e=ae (.tuple #[af (aj m),U 0])/\i.dv=dv/\NH w w' c t q (wk+1) N m g p1 p2 i:=by
 obtain⟨k,r,sl⟩:=gq h.ok se;have dh:=tZ h sl se 0 h0 (by decide);rw[show((0:Nat):Int)=0 from rfl] at dh;have HD:Hid (∀W,Below w.heap.size w W→(ak 68 #[af (aj c.p)] W fun e w'=>e=ae (U c.n)/\W=w')/\(ak 98 #[af (aj t)] W fun e w'=>e=ae (U es.length)/\W=w')/\(ak 99 #[af (aj q)] W fun e w'=>∃b,e=ae (af (aj b))/\Below W.heap.size W w')/\(ak 100 #[af (aj q)] W fun e w'=>e=ae (U c.n)/\W=w')/\ak 101 #[af (aj c.p),U dv] W (Gy.tY c.p c.n c.pg dv W)):=bU (fun W hW=>
  ⟨ik (h.cA hW).pl,Tb.gX (ht.bY (cu.cD (S:=fun _=>False) hW) id id),Ik (hq.cA hW) (by omega) (by omega),by have:=Pn.gX (hq.cA hW);rwa [hcs] at this,Gy.fQ (h.cA hW).pl se hpg hl⟩)
 have HT:=bU (fun W=>Ti.JV W c.n N hn hN Vf);have e1:((c.n:Int)==0)=false:=by rw[aA];omega
 have e2:((es.length:Int)==0)=false:=by have:=ht.pos;rw[aA];omega
 have e3:decide ((wk:Int)<0)=false:=az (by omega);have e4:decide ((8:Int)<(wk:Int))=false:=az (by omega);have e5:((c.n:Int)==(c.n:Int))=true:=by rw[beq_iff_eq]
 have HM:Hid (∀W:World,(Instr.makeSlice 205 (U ((wk:Int)+1)) (U ((wk:Int)+1))).run prog W=.ok (ai (aj W.heap.size) (wk+1) (wk+1)) (W.alloc (.cells (dQ (List.replicate (wk+1) ⟨0,0,false⟩)).toArray 264))):=bU (fun W=>by
  have:=yQ W (wk+1) (by omega) (by omega)
  rwa [aY] at this)
 have hm:=HM.out;have hwk:(wk:Int)<=8:=by omega
 clear h h0 ht hq sl;go_enter func69,ntmps69;go_wp2_with (first
  | (go_at_call 97;(with_reducible refine dh.mono ?_);rintro e w1 ⟨rfl,hb⟩;have H1:Hid (Below w.heap.size w (w1.alloc (.cells #[U 0,U 0,U 0] 195))):=bU (bA hb (av _) _);obtain⟨dS,dL,dC,-,-⟩:=HD.out _ H1.out;clear hb)
  | (go_at_call 68;(with_reducible refine dS.mono ?_);rintro e w2 ⟨rfl,rfl⟩)
  | (go_at_call 98;(with_reducible refine dL.mono ?_);rintro e w2 ⟨rfl,rfl⟩)
  | (go_at_call 99;(with_reducible refine dC.mono ?_);rintro e w3 ⟨bp,rfl,hb⟩;have H3:=bU (fj H1.out hb);clear dS dL dC;obtain⟨dS,-,-,dP,dG⟩:=HD.out _ H3.out;clear hb)
  | (go_at_call 100;(with_reducible refine dP.mono ?_);rintro e w2 ⟨rfl,rfl⟩)
  | (go_at_call 101;(with_reducible refine dG.mono ?_);rintro e w4 ⟨i,rfl,i1,i2,i3,i4,hg,hb,ho⟩;have H4:=bU (fj H3.out hb);have HG:=bU (And.intro (And.intro i1 (And.intro i2 (And.intro i3 i4))) (And.intro hg (fun k hk=>aE H3.out.size (ho k hk))));clear dS dP dG;obtain⟨dS,-,-,-,-⟩:=HD.out _ H4.out;clear hb hg i1 i2 i3 i4 ho)
  | (go_at_call 102;(with_reducible refine(HT.out _).mono ?_);rintro e w5 ⟨p1,p2,rfl,SQ,uK,k1,k2⟩;have H5:=bU (And.intro SQ (And.intro uK (And.intro k1 k2)));clear SQ uK k1 k2))
 go_ret2
 obtain⟨⟨i1,i2,i3,i4⟩,hg,ho⟩:=HG.out;obtain⟨t5,uK,k1,k2⟩:=H5.out;exact⟨_,_,p1,p2,i,rfl,i4,KZ hg ⟨i1,i2,i3⟩ H4.out ho t5 uK k1 k2⟩
end Mk
end Go.Proofs.YtgblmelijlgimaaGreatDoor
namespace Go.Gc
def K0(n L hn:Nat):St:={T:=fun _=>false,used:=0,es:=List.replicate L ⟨0,0,1⟩,cs:=List.replicate n 0,M:=fun _=>0,col:=fun _=>0,q:=[],eI:=fun _=>false,dq:=fun _=>false,wa:=0,we:=0,hs:=List.replicate hn ⟨0,0,false⟩,root:=0,act:=false,phase:=0,cZ:=fun _=>false,sa:=0,sact:=false}
def v0(C:cV):V:=⟨⟨fun _=>false,fun _=>false,0,List.replicate C.K.L ⟨0,0,1⟩,List.replicate C.K.n 0,fun _=>0,false⟩,0,0⟩
theorem K4(K:eV)(hn:Nat):Inv K (K0 K.n K.L hn) (fun _=>false) where
 gT:=fun x h=>by cases h
 tn:=fun x h=>by cases h
 lc:=aN ..
 le:=aN ..
 roots:=fun r x h=>by
  exfalso
  unfold rootOf at h
  split at h
  .split at h
   .rename_i e he
    have:=aH he;have:=aQ this;subst this;simp at h
   .cases h
  .have e:(List.replicate K.n (0:Int)).getD (r-(List.replicate K.L (⟨0,0,1⟩:eG)).length) 0=0:=by
    rw[ao]
    cases hc:(List.replicate K.n (0:Int))[r-(List.replicate K.L (⟨0,0,1⟩:eG)).length]? with
    | none=>rfl
    | some y=>exact aQ (aH hc)
   rw[if_neg (by show ¬(0:Int)<(List.replicate K.n (0:Int)).getD _ 0;rw[show(K0 K.n K.L hn).es=List.replicate K.L ⟨0,0,1⟩ from rfl,e];omega)] at h
   cases h
 jo:=fun a k x h=>by cases h.1
 free:=fun x _ _ i _ _=>rfl
 dw:=fun x h=>by cases h
 on:=fun x h=>by cases h
 ow:=fun x h=>by cases h
 ac:=rfl
 sc:=rfl
 ph:=aW _
 idle:=fun _ _=>rfl
 dm:=fun x=>rfl
 sq:=fun _=>rfl
 vc:=aW _
 sI:=fun h=>by cases h
 nw:=fun h=>absurd rfl h
 qv:=fun h=>by cases h
 ov:=fun h=>by cases h
 hv:=fun h=>by cases h
 gr:=fun h=>by cases h
 gZ:=fun h=>by cases h
 bl:=fun h=>by have h:2<=0:=h;omega
 c2:=fun _=>aW _
 ww:=av _
 wn:=aW _
 tN:=aW _
 rt:=aW _
 hf:=fun h hm=>by
  have:=aQ hm;subst this;exact aW _
 ql:=aW _
 nd:=fun h=>by cases h
 ns:=fun h=>by cases h
theorem pb(sz:Nat→Nat):∀n,fE sz (fun _=>false) n=0
 | 0=>rfl
 | n+1=>by unfold fE;rw[pb sz n];rfl
theorem NI(C:cV)(hn:Nat):Rp C (K0 C.K.n C.K.L hn) (fun _=>false) (v0 C):=by
 refine⟨K4 C.K hn,?_,?_⟩
 .unfold lJ v0
  have e:mask C.K (fun _=>false) (fun _=>false) (fun _=>0)=fun _=>0:=funext fun i=>lY (fun x h=>by cases h)
  show(⟨_,_,_,_,_,mask C.K (fun _=>false) (fun _=>false) (fun _=>0),_⟩:sU)=_;rw[e]
  rfl
 .refine⟨?_,fun s h=>(by cases h),fun s h=>(by cases h),fun s k h=>(by cases h),fun c hc=>?_,⟨Int.le_refl 0,by show(0:Int)<=4611686018427387904;omega⟩,⟨Int.le_refl 0,by show(0:Int)<=4611686018427387904;omega⟩⟩
  .show(0:Int)=(fE C.K.size (fun _=>false) C.K.n:Nat)
   rw[pb]
   rfl
  .have:=aQ hc
   subst this;exact⟨Int.le_refl 0,by omega⟩
def jd(l:List Nat)(M:Nat)(i:Nat):Nat:=if i<l.length then l.getD i 0 else M+i
theorem wR{l:List Nat}{M:Nat}(hd:l.Nodup)(hM:∀x∈l,x<M):∀i j,jd l M i=jd l M j→i=j:=fun i j h=>by
 unfold jd at h;have hm:∀k,k<l.length→l.getD k 0<M:=fun k hk=>hM _ (by rw[ao,aq hk];exact aF hk)
 by_cases hi:i<l.length <;> by_cases hj:j<l.length
 .rw[if_pos hi,if_pos hj,ao,ao,aq hi,aq hj] at h
  have hp:=List.pairwise_iff_getElem.1 hd;rcases Nat.lt_trichotomy i j with k|k|k
  .exact absurd h (hp i j hi hj k)
  .exact k
  .exact absurd h.symm (hp j i hj hi k)
 .rw[if_pos hi,if_neg hj] at h
  have:=hm i hi;omega
 .rw[if_neg hi,if_pos hj] at h
  have:=hm j hj;omega
 .rw[if_neg hi,if_neg hj] at h
  omega
end Go.Gc
namespace Go.Proofs.YtgblmelijlgimaaGreatDoor
open Go.Proofs.Tryz
namespace Cy
open Go.RowKit Go.bZ Go.Gc Go.Cf Cn Sl Mm Hd Bd Gy Bt Tb Pn Mk Sw Ar
open Ti (Tn)
structure Bs(w:World)(c:cF)(t mp mw mb cO:Nat)(ws:List Int):Prop where
 cf:gN w c
 k:Go.Cf.Ok c
 ht:t<c.ts.length
 mm:fI w mp mw mb cO (gj c (c.ts.length+1)) ws
 gw:Gw w
 de:TabAt 2 Lib.deBruijn64tab w
 d2:2<w.heap.size
 zr:∀a,at' (gj c (c.ts.length+1)) t ws a=0
 n1:mp≠mw
 n2:mb≠mw
theorem Bs.cA{w w':World}{c:cF}{t mp mw mb cO:Nat}{ws:List Int}(h:Bs w c t mp mw mb cO ws)(hb:Below w.heap.size w w'):Bs w' c t mp mw mb cO ws:=
 ⟨h.cf.cA h.k hb,h.k,h.ht,h.mm.cA hb,h.gw.cA hb,iQ h.de h.d2 (cu.cD (S:=fun _=>False) hb) id,aB h.d2 hb.size,h.zr,h.n1,h.n2⟩
def nN(c:cF)(t:Nat):Nat:=cI (gC c t) c.cl.length
def nP(c:cF)(t:Nat):Nat:=cI (jg c t) c.cl.length
def Dy(c:cF)(t:Nat):List Rec:=ie c t c.cl.length
def mB(c:cF):List Nat:=gj c (c.ts.length+1)
def ld(c:cF)(t:Nat):Nat:=(c.ts.getD t ⟨0,0,0,0⟩).ca
theorem LR(c:cF){i:Nat}(h:i<=c.ts.length):(mB c).getD i 0=fG c i:=by
 unfold mB gj;rw[ao,aR,List.getElem?_range (by omega)]
 rfl
theorem Ax(c:cF){t:Nat}(h:t<c.ts.length):(mB c).getD (t+1) 0=(mB c).getD t 0+nP c t*c.cB:=by
 rw[LR c (by omega),LR c (by omega)];show fG c t+ke c t=_;unfold ke nP;rw[uk]
theorem rU{c:cF}(k:Go.Cf.Ok c){t:Nat}(ht:t<c.ts.length):0<nN c t:=by
 have h1:=rF (gC c t) c.cl.length 0 k.c1;have h2:=(oQ k ht k.c1).s1;unfold nN;omega
def Qi(c:cF)(t mp mw mb cO b p g cap:Nat):Bc:=⟨b,mp,t,p,g,cap,Dy c t,nN c t,nP c t,c.cB,mw,mb,cO,mB c⟩
def Nd(y:Nat)(l:List Nat)(V:World):Prop:=l.Nodup/\∀x∈l,y<x/\x<V.heap.size
theorem Nd.add{y:Nat}{l l2:List Nat}{V V':World}(h:Nd y l V)(hy:y<V.heap.size)(hs:V.heap.size<=V'.heap.size)(k:l2.Nodup)(k2:∀x∈l2,V.heap.size<=x/\x<V'.heap.size):Nd y (l++l2) V':=by
 refine⟨List.nodup_append.2 ⟨h.1,k,fun a ha b hb e=>?_⟩,fun x hx=>?_⟩
 .have:=(h.2 a ha).2
  have:=(k2 b hb).1;omega
 .rcases bu.1 hx with hx|hx
  .have:=h.2 x hx
   omega
  .have:=k2 x hx
   omega
theorem Nd.up{y:Nat}{l:List Nat}{V V':World}(h:Nd y l V)(hs:V.heap.size<=V'.heap.size):Nd y l V':=⟨h.1,fun x hx=>⟨(h.2 x hx).1,aB (h.2 x hx).2 hs⟩⟩
def Rz(lv p g b a r ga t1 tg q q2 q3 q4:Nat)(i:Gi)(p1 p2 m hg:Nat):List Nat:=match lv with
 | 0=>[]
 | 1=>[p,g]
 | 2=>[p,g,b]
 | 3=>[p,g,b,a,r,ga]
 | 4=>[p,g,b,a,r,ga,t1,tg]
 | 5=>[p,g,b,a,r,ga,t1,tg,q,q2,q3,q4]
 | _=>[p,g,b,a,r,ga,t1,tg,q,q2,q3,q4,i.q,i.ro,i.go,i.rd,i.gd,i.rg,p1,p2,hg,m]
def Vg(b p t1 q p1 iq hg m hn:Nat)(V:World):Prop:=cj V m #[af (aj b),af (aj p),af (aj t1),af (aj q),af (aj p1),af (aj iq),ai (aj hg) hn hn,U 0,.bool false,U 0] 207/\cj V hg (dQ (List.replicate hn ⟨0,0,false⟩)).toArray 264
theorem wS{y:Nat}{a b:World}(h:cu (· =y) a b)(j:Nat)(v:Value):cu (· =y) a (b.setCell (aj y j) v):=cu.stored (S:=fun x=>x=y) h (p:=y) (.inl rfl) j v
structure Al(lv:Nat)(w V:World)(c:cF)(t mp y:Nat)(arr:Array Value)(p g cap b a r ga t1 tg q q2 q3 q4:Nat)(i:Gi)(p1 p2 m hg:Nat):Prop where
 hB:Below w.heap.size w V
 bx:cj V w.heap.size c.cells 25
 yb:cj V y arr 142
 ly:w.heap.size<y
 pl:1<=lv→ff V p g cap (Dy c t) (nN c t) (nP c t) c.cB/\y≠p/\y≠g
 bd:2<=lv→xO V b mp t p/\y≠b
 ar:3<=lv→lE V a r ga p (nN c t) (fun _=>false) 0/\y≠a/\y≠r/\y≠ga
 tb:4<=lv→eP V t1 tg (List.replicate (ld c t) ⟨0,0,1⟩) c.gn/\y≠t1/\y≠tg
 pn:5<=lv→iV V q q2 q3 q4 (List.replicate (nN c t) 0)/\y≠q/\y≠q2/\y≠q3/\y≠q4
 gy:6<=lv→(dV V i [] (fun _=>false) (fun _=>false) 0 0/\∀k,i.own k→y≠k)/\i.p=p/\i.n=nN c t/\i.pg=nP c t/\i.dv=c.gy
 tn:6<=lv→Tn V p1 p2 (List.replicate (nN c t) 0) 1/\y≠p1/\y≠p2
 mr:6<=lv→Vg b p t1 q p1 i.q hg m (c.wk+1) V/\y≠m/\y≠hg
 nd:Nd y (Rz lv p g b a r ga t1 tg q q2 q3 q4 i p1 p2 m hg) V
theorem Al.next{lv:Nat}{w V W:World}{c:cF}{t mp y:Nat}{arr:Array Value}{p g cap b a r ga t1 tg q q2 q3 q4:Nat}{i:Gi}{p1 p2 m hg:Nat}(h:Al lv w V c t mp y arr p g cap b a r ga t1 tg q q2 q3 q4 i p1 p2 m hg)(hb:Below V.heap.size V W)(j:Nat)(v:Value):Al lv w (W.setCell (aj y j) v) c t mp y (arr.setIfInBounds j v) p g cap b a r ga t1 tg q q2 q3 q4 i p1 p2 m hg:=by
 have hs:=hb.size;have hc:cu (· =y) V (W.setCell (aj y j) v):=wS (cu.cD hb) j v;have ly:=h.ly;have no:∀{x},y≠x→¬(x=y):=fun h e=>h e.symm
 refine⟨(h.hB.trans (hb.mono h.hB.size)).setCell (by show w.heap.size<=y;omega) v,h.bx.bY hc (by show ¬(w.heap.size=y);omega),(h.yb.cA hb).set j v,ly,fun l=>?_,fun l=>?_,fun l=>?_,fun l=>?_,fun l=>?_,fun l=>?_,fun l=>?_,fun l=>?_,h.nd.up hc.size⟩
 .obtain⟨k,e1,e2⟩:=h.pl l
  exact⟨k.bY hc (no e1) (no e2),e1,e2⟩
 .obtain⟨k,e1⟩:=h.bd l
  exact⟨cj.bY k hc (no e1),e1⟩
 .obtain⟨k,e1,e2,e3⟩:=h.ar l
  exact⟨k.bY hc (no e1) (no e2) (no e3),e1,e2,e3⟩
 .obtain⟨k,e1,e2⟩:=h.tb l
  exact⟨k.bY hc (no e1) (no e2),e1,e2⟩
 .obtain⟨k,e1,e2,e3,e4⟩:=h.pn l
  exact⟨k.bY hc (no e1) (no e2) (no e3) (no e4),e1,e2,e3,e4⟩
 .obtain⟨⟨k,e1⟩,e2⟩:=h.gy l
  exact⟨⟨k.bY hc (fun x hx=>no (e1 x hx)),e1⟩,e2⟩
 .obtain⟨k,e1,e2⟩:=h.tn l
  exact⟨ib k hc (no e1) (no e2),e1,e2⟩
 .obtain⟨⟨k1,k2⟩,e1,e2⟩:=h.mr l
  exact⟨⟨k1.bY hc (no e1),k2.bY hc (no e2)⟩,e1,e2⟩
theorem Al.drew{lv:Nat}{w V:World}{c:cF}{t mp y:Nat}{arr:Array Value}{p g cap b a r ga t1 tg q q2 q3 q4:Nat}{i:Gi}{p1 p2 m hg:Nat}(h:Al lv w V c t mp y arr p g cap b a r ga t1 tg q q2 q3 q4 i p1 p2 m hg):Al lv w V.drew c t mp y arr p g cap b a r ga t1 tg q q2 q3 q4 i p1 p2 m hg:=by
 have hb:Below V.heap.size V V.drew:=Go.bZ.bd (bV _ _);exact⟨Go.bZ.bd h.hB,h.bx.drew,h.yb.drew,h.ly,fun l=>⟨(h.pl l).1.cA hb,(h.pl l).2⟩,fun l=>⟨cj.cA (h.bd l).1 hb,(h.bd l).2⟩,fun l=>⟨(h.ar l).1.cA hb,(h.ar l).2⟩,fun l=>⟨(h.tb l).1.bY (cu.cD (S:=fun _=>False) hb) id id,(h.tb l).2⟩,fun l=>⟨(h.pn l).1.cA hb,(h.pn l).2⟩,fun l=>⟨⟨(h.gy l).1.1.cA hb,(h.gy l).1.2⟩,(h.gy l).2⟩,fun l=>⟨ib (h.tn l).1 (cu.cD (S:=fun _=>False) hb) id id,(h.tn l).2⟩,fun l=>⟨⟨(h.mr l).1.1.cA hb,(h.mr l).1.2.cA hb⟩,(h.mr l).2⟩,h.nd⟩
theorem Al.LS{lv:Nat}{w V:World}{c:cF}{t mp y:Nat}{arr:Array Value}{p g cap b a r ga t1 tg q q2 q3 q4:Nat}{i:Gi}{p1 p2 m hg:Nat}(h:Al lv w V c t mp y arr p g cap b a r ga t1 tg q q2 q3 q4 i p1 p2 m hg):y<V.heap.size:=h.yb.lt
theorem Al.cx{lv:Nat}{w V:World}{c:cF}{t mp mw mb cO y:Nat}{ws:List Int}{arr:Array Value}{p g cap b a r ga t1 tg q q2 q3 q4:Nat}{i:Gi}{p1 p2 m hg:Nat}(h:Al lv w V c t mp y arr p g cap b a r ga t1 tg q q2 q3 q4 i p1 p2 m hg)(H:Bs w c t mp mw mb cO ws)(l:2<=lv):Cx V (Qi c t mp mw mb cO b p g cap) ws:=by
 have H':=H.cA h.hB;exact⟨(h.bd l).1,(h.pl (by omega)).1,H'.mm,H'.gw,o7 H.k H.ht _ (av _),by rw[show(Qi c t mp mw mb cO b p g cap).bs=mB c from rfl];unfold mB;rw[gI];have:=H.ht;show t+1<_;omega,Ax c H.ht,H.n1,H.n2⟩
theorem uG{V:World}{p g n:Nat}{f:Nat→Bool}(h:ee V p g n f):p≠g:=by
 obtain⟨ws,h,rfl⟩:=h;exact h.ne
def yC(v0 v1 v2 v3 v4 v5 v6:Value)(wk:Nat):Array Value:=#[v0,v1,v2,v3,v4,v5,v6,U wk,ab 0,U 0]
theorem Al.slot{w V W:World}{c:cF}{t mp y:Nat}{arr:Array Value}{p g cap b a r ga t1 tg q q2 q3 q4:Nat}{i:Gi}{p1 p2 m hg:Nat}(h:Al 0 w V c t mp y arr p g cap b a r ga t1 tg q q2 q3 q4 i p1 p2 m hg)(hb:Below V.heap.size V W)(pl:ff W p g cap (Dy c t) (nN c t) (nP c t) c.cB)(l1:V.heap.size<=p)(l2:p<g)(j:Nat)(v:Value):Al 1 w (W.setCell (aj y j) v) c t mp y (arr.setIfInBounds j v) p g cap b a r ga t1 tg q q2 q3 q4 i p1 p2 m hg:=by
 have n:=h.next hb j v;have ly:=h.LS;have hc:cu (· =y) W (W.setCell (aj y j) v):=wS (cu.refl _ W) j v;obtain⟨rest,tt,hbk⟩:=pl.b1;have:=hbk.lt;have:=hc.size;refine⟨n.hB,n.bx,n.yb,n.ly,fun _=>⟨pl.bY hc (by show ¬(p=y);omega) (by show ¬(g=y);omega),by omega,by omega⟩,fun l=>absurd l (by omega),fun l=>absurd l (by omega),fun l=>absurd l (by omega),fun l=>absurd l (by omega),fun l=>absurd l (by omega),fun l=>absurd l (by omega),fun l=>absurd l (by omega),?_⟩;have:=h.nd.add (l2:=[p,g]) ly (aE hb.size hc.size) (by simp;omega) (fun x hx=>by simp at hx;rcases hx with rfl|rfl <;> omega);exact this
theorem Al.body{w V W:World}{c:cF}{t mp y:Nat}{arr:Array Value}{p g cap b0 b a r ga t1 tg q q2 q3 q4:Nat}{i:Gi}{p1 p2 m hg:Nat}(h:Al 1 w V c t mp y arr p g cap b0 a r ga t1 tg q q2 q3 q4 i p1 p2 m hg)(hb:Below V.heap.size V W)(bd:xO W b mp t p)(l1:V.heap.size<=b)(j:Nat)(v:Value):Al 2 w (W.setCell (aj y j) v) c t mp y (arr.setIfInBounds j v) p g cap b a r ga t1 tg q q2 q3 q4 i p1 p2 m hg:=by
 have n:=h.next hb j v;have ly:=h.LS;have hc:cu (· =y) W (W.setCell (aj y j) v):=wS (cu.refl _ W) j v;have:=cj.lt bd;have:=hc.size;refine⟨n.hB,n.bx,n.yb,n.ly,fun _=>n.pl (by omega),fun _=>⟨cj.bY bd hc (by show ¬(b=y);omega),by omega⟩,fun l=>absurd l (by omega),fun l=>absurd l (by omega),fun l=>absurd l (by omega),fun l=>absurd l (by omega),fun l=>absurd l (by omega),fun l=>absurd l (by omega),?_⟩;have:=h.nd.add (l2:=[b]) ly (aE hb.size hc.size) (by simp) (fun x hx=>by simp at hx;subst hx;omega);exact this
theorem Al.Po{w V W:World}{c:cF}{t mp y:Nat}{arr:Array Value}{p g cap b a0 r0 Vh a r ga t1 tg q q2 q3 q4:Nat}{i:Gi}{p1 p2 m hg:Nat}(h:Al 2 w V c t mp y arr p g cap b a0 r0 Vh t1 tg q q2 q3 q4 i p1 p2 m hg)(hb:Below V.heap.size V W)(ar:lE W a r ga p (nN c t) (fun _=>false) 0)(l1:V.heap.size<=a)(l2:V.heap.size<=r)(l3:V.heap.size<=ga)(j:Nat)(v:Value):Al 3 w (W.setCell (aj y j) v) c t mp y (arr.setIfInBounds j v) p g cap b a r ga t1 tg q q2 q3 q4 i p1 p2 m hg:=by
 have n:=h.next hb j v;have ly:=h.LS;have hc:cu (· =y) W (W.setCell (aj y j) v):=wS (cu.refl _ W) j v;have:=ar.b0.lt;have:=ar.rw.lt;have:=uG ar.rw;have:=ar.n1;have:=ar.n2;have:=hc.size;refine⟨n.hB,n.bx,n.yb,n.ly,fun _=>n.pl (by omega),fun _=>n.bd (by omega),fun _=>⟨ar.bY hc (by show ¬(a=y);omega) (by show ¬(r=y);omega) (by show ¬(ga=y);omega),by omega,by omega,by omega⟩,fun l=>absurd l (by omega),fun l=>absurd l (by omega),fun l=>absurd l (by omega),fun l=>absurd l (by omega),fun l=>absurd l (by omega),?_⟩;have:=h.nd.add (l2:=[a,r,ga]) ly (aE hb.size hc.size) (by simp;omega) (fun x hx=>by simp at hx;rcases hx with rfl|rfl|rfl <;> omega);exact this
theorem Al.table{w V W:World}{c:cF}{t mp y:Nat}{arr:Array Value}{p g cap b a r ga t10 Vi t1 tg q q2 q3 q4:Nat}{i:Gi}{p1 p2 m hg:Nat}(h:Al 3 w V c t mp y arr p g cap b a r ga t10 Vi q q2 q3 q4 i p1 p2 m hg)(hb:Below V.heap.size V W)(tb:eP W t1 tg (List.replicate (ld c t) ⟨0,0,1⟩) c.gn)(l1:V.heap.size<=t1)(l2:V.heap.size<=tg)(j:Nat)(v:Value):Al 4 w (W.setCell (aj y j) v) c t mp y (arr.setIfInBounds j v) p g cap b a r ga t1 tg q q2 q3 q4 i p1 p2 m hg:=by
 have n:=h.next hb j v;have ly:=h.LS;have hc:cu (· =y) W (W.setCell (aj y j) v):=wS (cu.refl _ W) j v;have:=tb.b0.lt;have:=tb.b1.lt;have:=tb.ne;have:=hc.size;refine⟨n.hB,n.bx,n.yb,n.ly,fun _=>n.pl (by omega),fun _=>n.bd (by omega),fun _=>n.ar (by omega),fun _=>⟨tb.bY hc (by show ¬(t1=y);omega) (by show ¬(tg=y);omega),by omega,by omega⟩,fun l=>absurd l (by omega),fun l=>absurd l (by omega),fun l=>absurd l (by omega),fun l=>absurd l (by omega),?_⟩;have:=h.nd.add (l2:=[t1,tg]) ly (aE hb.size hc.size) (by simp;omega) (fun x hx=>by simp at hx;rcases hx with rfl|rfl <;> omega);exact this
theorem Al.pins{w V W:World}{c:cF}{t mp y:Nat}{arr:Array Value}{p g cap b a r ga t1 tg q0 PV Vj Vk q q2 q3 q4:Nat}{i:Gi}{p1 p2 m hg:Nat}(h:Al 4 w V c t mp y arr p g cap b a r ga t1 tg q0 PV Vj Vk i p1 p2 m hg)(hb:Below V.heap.size V W)(pn:iV W q q2 q3 q4 (List.replicate (nN c t) 0))(l1:V.heap.size<=q)(l2:V.heap.size<=q2)(l3:V.heap.size<=q3)(l4:V.heap.size<=q4)(j:Nat)(v:Value):Al 5 w (W.setCell (aj y j) v) c t mp y (arr.setIfInBounds j v) p g cap b a r ga t1 tg q q2 q3 q4 i p1 p2 m hg:=by
 have n:=h.next hb j v;have ly:=h.LS;have hc:cu (· =y) W (W.setCell (aj y j) v):=wS (cu.refl _ W) j v;have:=pn.b0.lt;have:=pn.b1.lt;have:=pn.row.lt;have:=uG pn.row;have:=pn.n1;have:=pn.n2;have:=pn.n3;have:=pn.n4;have:=pn.n5;have:=hc.size;refine⟨n.hB,n.bx,n.yb,n.ly,fun _=>n.pl (by omega),fun _=>n.bd (by omega),fun _=>n.ar (by omega),fun _=>n.tb (by omega),fun _=>⟨pn.bY hc (by show ¬(q=y);omega) (by show ¬(q2=y);omega) (by show ¬(q3=y);omega) (by show ¬(q4=y);omega),by omega,by omega,by omega,by omega⟩,fun l=>absurd l (by omega),fun l=>absurd l (by omega),fun l=>absurd l (by omega),?_⟩;have:=h.nd.add (l2:=[q,q2,q3,q4]) ly (aE hb.size hc.size) (by simp;omega) (fun x hx=>by simp at hx;rcases hx with rfl|rfl|rfl|rfl <;> omega);exact this
theorem K6{V:World}{i:Gi}{q:List Nat}{ow di:Nat→Bool}{wa we:Nat}(h:dV V i q ow di wa we):∀k,i.own k→k<V.heap.size:=fun k hk=>by
 obtain⟨f,ring,g⟩:=h;rcases hk with rfl|rfl|rfl|rfl|rfl|rfl
 .exact g.b0.lt
 .exact g.ro.lt.1
 .exact g.ro.lt.2
 .exact g.rd.lt.1
 .exact g.rd.lt.2
 .exact g.b1.lt
theorem K7{V:World}{i:Gi}{q:List Nat}{ow di:Nat→Bool}{wa we:Nat}(h:dV V i q ow di wa we):[i.q,i.ro,i.go,i.rd,i.gd,i.rg].Nodup:=by
 obtain⟨f,ring,g⟩:=h;exact g.nd
theorem Al.mark{w V W:World}{c:cF}{t mp mw mb cO y:Nat}{arr:Array Value}{p g cap b a r ga t1 tg q q2 q3 q4:Nat}{i0 i:Gi}{Vl Ry m0 O0 p1 p2 m hg:Nat}(h:Al 5 w V c t mp y arr p g cap b a r ga t1 tg q q2 q3 q4 i0 Vl Ry m0 O0)(hi:i.dv=c.gy)(hb:NH V W (Qi c t mp mw mb cO b p g cap) t1 q (c.wk+1) 1 m hg p1 p2 i)(j:Nat)(v:Value):Al 6 w (W.setCell (aj y j) v) c t mp y (arr.setIfInBounds j v) p g cap b a r ga t1 tg q q2 q3 q4 i p1 p2 m hg:=by
 have n:=h.next hb.bl j v;have ly:=h.LS;have hc:cu (· =y) W (W.setCell (aj y j) v):=wS (cu.refl _ W) j v;have k1:=hb.b0.lt;have k2:=hb.b1.lt;have k3:=hb.tn.ne;have k4:=K6 hb.gy;have k5:=hb.o1;have k6:=hb.o2;have k7:=hc.size;have k8:=k5 i.q (.inl rfl);refine⟨n.hB,n.bx,n.yb,n.ly,fun _=>n.pl (by omega),fun _=>n.bd (by omega),fun _=>n.ar (by omega),fun _=>n.tb (by omega),fun _=>n.pn (by omega),fun _=>⟨⟨hb.gy.bY hc (fun k hk e=>by have e:k=y:=e;have:=(k5 k hk).1;omega),fun k hk e=>by have:=(k5 k hk).1;omega⟩,hb.ip.1,hb.ip.2.1,hb.ip.2.2,hi⟩,fun _=>⟨ib hb.tn hc (by show ¬(p1=y);omega) (by show ¬(p2=y);omega),by omega,by omega⟩,fun _=>⟨⟨hb.b0.bY hc (by show ¬(m=y);omega),hb.b1.bY hc (by show ¬(hg=y);omega)⟩,by omega,by omega⟩,?_⟩;have o:∀k∈[i.q,i.ro,i.go,i.rd,i.gd,i.rg],i.own k:=fun k hk=>by
  simp at hk;rcases hk with rfl|rfl|rfl|rfl|rfl|rfl
  .exact .inl rfl
  .exact .inr (.inl rfl)
  .exact .inr (.inr (.inl rfl))
  .exact .inr (.inr (.inr (.inl rfl)))
  .exact .inr (.inr (.inr (.inr (.inl rfl))))
  .exact .inr (.inr (.inr (.inr (.inr rfl))))
 have:=h.nd.add (l2:=[i.q,i.ro,i.go,i.rd,i.gd,i.rg]++[p1,p2,hg,m]) ly (aE hb.bl.size hc.size) (List.nodup_append.2 ⟨K7 hb.gy,by simp;omega,fun x hx z hz e=>by
   have:=k5 x (o x hx);simp at hz;rcases hz with rfl|rfl|rfl|rfl <;> omega⟩) (fun x hx=>by
  rcases bu.1 hx with hx|hx
  .have:=k5 x (o x hx)
   omega
  .simp at hx
   rcases hx with rfl|rfl|rfl|rfl <;> omega)
 exact this
end Cy
end Go.Proofs.YtgblmelijlgimaaGreatDoor
