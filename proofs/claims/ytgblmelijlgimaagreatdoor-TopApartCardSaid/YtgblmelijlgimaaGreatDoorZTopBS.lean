/- Parts of the proof of TopApart. -/
import Derived.Test.YtgblmelijlgimaaGreatDoorZTopBR
set_option maxRecDepth 100000
namespace Go.Proofs.YtgblmelijlgimaaGreatDoor
open Go.Proofs.Tryz
namespace Hp
open Go.RowKit Go.bZ Go.Gc Go.Cf Cn Sl Mm Hd Bd Ca Mk Sw Cy
def iH(c:cF)(t:Nat):cV:=⟨Qr c.cB (Dy c t) (nN c t) (nP c t) (ld c t) c.gy MH,c.gn,(c.ts.getD t ⟨0,0,0,0⟩).q,((c.ts.getD t ⟨0,0,0,0⟩).tr:Nat),c.cl,cI (gC c t),gC c t,v7 t,OY t,vz,kh c.cl,sE⟩
structure S7(w w':World)(c:cF)(t mp mw mb cO:Nat)(ws:List Int)(E:Env)(c':cF):Prop where
 lk:Lk (iH c t) E c'
 hv:Hv w' (iH c t) E c' ws 1 (v0 (iH c t))
 nm:E.tn=t/\E.mp=mp/\E.mw=mw/\E.mb=mb/\E.cO=cO/\E.bs=mB c
 il:∀i,i<30→w.heap.size<=E.A i/\E.A i<w'.heap.size
 bl:Below w.heap.size w w'
def yT(w:World)(c:cF)(t mp mw mb cO:Nat)(ws:List Int)(e:Ending)(w':World):Prop:=∃E c',e=ae (.tuple #[af (aj (E.A 26)),U 0])/\S7 w w' c t mp mw mb cO ws E c'
theorem Ok.clone{c c':cF}(k:Go.Cf.Ok c)(h1:c'.cl=c.cl)(h2:c'.ts=c.ts)(h3:c'.cB=c.cB)(h4:c'.wk=c.wk)(h5:c'.gy=c.gy)(h6:c'.gn=c.gn):Go.Cf.Ok c':=by
 obtain⟨gc,oc,cc,gt,ot,ct,cl,cB,ts,wk,gy,gn⟩:=c';simp only at h1 h2 h3 h4 h5 h6;subst h1 h2 h3 h4 h5 h6;exact⟨k.c1,k.c8,k.lo,k.hi,k.inc,k.p1,k.p2,k.t1,k.t8,k.wk,k.g1,k.g2,k.n1,k.n2,k.q1,k.q2,k.r1,k.r2,k.a1,k.a2,k.s2⟩
theorem NN{w W0 W1 W2 W3:World}{c c':cF}{t mp mw mb cO p cap:Nat}{ws:List Int}{l:List Nat}(H:Bs w c t mp mw mb cO ws)(hw:2<mw)(b0:Below w.heap.size w W0)(ll:l.length=26)(ln:l.Nodup)(lx:∀x∈l,W0.heap.size<=x/\x<W1.heap.size)(b1:Below W0.heap.size W0 W1)(cy:∀A,Ag l A→gF W1 (ng c t mp mw mb cO cap A) ws (K0 (nN c t) (ld c t) (c.wk+1)) 1)
 (pc:Pc W2 p (gR ((c.ts.getD t ⟨0,0,0,0⟩).tr:Nat) ((c.ts.getD t ⟨0,0,0,0⟩).zas:Nat)))(b2:Below W1.heap.size W1 W2)(pl:W1.heap.size<=p)(cf:gN W3 c')(h1:c'.cl=c.cl)(h2:c'.ts=c.ts)(h3:c'.cB=c.cB)(h4:c'.wk=c.wk)(h5:c'.gy=c.gy)(h6:c'.gn=c.gn)(b3:Below W2.heap.size W2 W3)(g1:W2.heap.size<=c'.gc)(g2:W2.heap.size<=c'.gt)(gne:c'.gc≠c'.gt):
  yT w c t mp mw mb cO ws (ae (.tuple #[af (aj W3.heap.size),U 0])) (W3.alloc (.cells #[ai (aj c'.gc c'.oc) c'.cl.length c'.cc,U c'.cB,ai (aj c'.gt c'.ot) c'.ts.length c'.ct,U c'.wk,U c'.gy,U c'.gn,U t,af (aj (l.getD 25 0)),af (aj p),U 0] 121)):=by
 have k':=Ok.clone H.k h1 h2 h3 h4 h5 h6;obtain⟨q1,q2⟩:=cf.lt k';generalize Kg:W3.alloc (.cells #[ai (aj c'.gc c'.oc) c'.cl.length c'.cc,U c'.cB,ai (aj c'.gt c'.ot) c'.ts.length c'.ct,U c'.wk,U c'.gy,U c'.gn,U t,af (aj (l.getD 25 0)),af (aj p),U 0] 121)=W4;have b4:Below W3.heap.size W3 W4:=by rw[←Kg];exact bA (bV _ _) (av _) _
 have hb:cj W4 W3.heap.size #[ai (aj c'.gc c'.oc) c'.cl.length c'.cc,U c'.cB,ai (aj c'.gt c'.ot) c'.ts.length c'.ct,U c'.wk,U c'.gy,U c'.gn,U t,af (aj (l.getD 25 0)),af (aj p),U 0] 121:=by rw[←Kg];exact cj.new _ _ _
 have s0:=b0.size;have s1:=b1.size;have s2:=b2.size;have s3:=b3.size;have s4:=b4.size;have l4:=hb.lt;have lp:p<W2.heap.size:=(aD.1 pc).1;clear Kg;have hL:(l++[W3.heap.size,p,c'.gc,c'.gt]).length=30:=by simp[ll]
 have hd:(l++[W3.heap.size,p,c'.gc,c'.gt]).Nodup:=List.nodup_append.2 ⟨ln,by simp;omega,fun x hx z hz e=>by
  have:=lx x hx;simp at hz;omega⟩
 have hM:∀x∈l++[W3.heap.size,p,c'.gc,c'.gt],w.heap.size<=x/\x<W4.heap.size:=fun x hx=>by
  rcases bu.1 hx with hx|hx
  .have:=lx x hx
   omega
  .simp at hx
   omega
 have hA:∀i,i<30→jd (l++[W3.heap.size,p,c'.gc,c'.gt]) W4.heap.size i=(l++[W3.heap.size,p,c'.gc,c'.gt]).getD i 0:=fun i hi=>by
  unfold jd;rw[if_pos (by omega)]
 have hm:∀i,i<30→(l++[W3.heap.size,p,c'.gc,c'.gt]).getD i 0∈l++[W3.heap.size,p,c'.gc,c'.gt]:=fun i hi=>by
  rw[ao,aq (by omega)];exact aF _
 have hr:∀j,(l++[W3.heap.size,p,c'.gc,c'.gt]).getD (26+j) 0=[W3.heap.size,p,c'.gc,c'.gt].getD j 0:=fun j=>by
  rw[ao,aS (by omega),ll,Nat.add_sub_cancel_left,ao]
 have hi:=wR hd (fun x hx=>(hM x hx).2);have lo:∀i,w.heap.size<=jd (l++[W3.heap.size,p,c'.gc,c'.gt]) W4.heap.size i:=fun i=>by
  by_cases h:i<30
  .rw[hA i h]
   exact(hM _ (hm i h)).1
  .unfold jd
   rw[if_neg (by omega)];omega
 have ag:Ag l (jd (l++[W3.heap.size,p,c'.gc,c'.gt]) W4.heap.size):=fun i h=>by
  rw[hA i (by omega),ao,bj h,ao]
 have a25:=ag 25 (by omega);have S8:=(hA 26 (by omega)).trans (hr 0);have a27:=(hA 27 (by omega)).trans (hr 1);have a28:=(hA 28 (by omega)).trans (hr 2);have VA:=(hA 29 (by omega)).trans (hr 3);have il:∀i,i<30→w.heap.size<=jd (l++[W3.heap.size,p,c'.gc,c'.gt]) W4.heap.size i/\jd (l++[W3.heap.size,p,c'.gc,c'.gt]) W4.heap.size i<W4.heap.size:=fun i h=>by
  rw[hA i h];exact hM _ (hm i h)
 generalize jd (l++[W3.heap.size,p,c'.gc,c'.gt]) W4.heap.size=A at *;clear hA hr hm hM hd hL;have Ee:=cy A ag;have m0:=H.mm.b0.lt;have m1:=H.mm.b1.lt;have m2:mb<w.heap.size:=World.block_lt_of_cell? w ⟨mb,0,none⟩ (H.mm.b2 0 (by have:=H.mm.two;omega));have d2:=H.d2;have eo:(ng c t mp mw mb cO cap A).Ok:=by
  obtain⟨z1,z2⟩:=LU H.k H.ht;have:=H.k.wk;refine⟨fun i j _ _ h=>hi i j h,fun i _=>?_,fun i _=>?_,fun i _=>?_,fun i _=>?_,fun i _=>?_,Ne.symm H.n1,Ne.symm H.n2,?_,?_,rU H.k H.ht,Ee.co.mp.cx.pl.jU,z1,?_,H.k.g1,H.k.g2,?_,?_,o7 H.k H.ht _ (av _)⟩
  .show A i≠mp
   have:=lo i;omega
  .show A i≠mw
   have:=lo i;omega
  .show A i≠mb
   have:=lo i;omega
  .show A i≠0
   have:=lo i;omega
  .show A i≠2
   have:=lo i;omega
  .show mw≠0
   omega
  .show mw≠2
   omega
  .show ld c t<=65536
   omega
  .show 1<=c.wk+1
   omega
  .show c.wk+1<=9
   omega
 have Qh:Below W1.heap.size W1 W4:=(b2.trans (b3.mono s2)).trans (b4.mono (aE s2 s3));have VB:Below W2.heap.size W2 W4:=b3.trans (b4.mono s3);have pk:Pc W4 p _:=Pc.rJ pc (cu.cD (S:=fun _=>False) VB) id;have bw:Below w.heap.size w W4:=(b0.trans (b1.mono s0)).trans (Qh.mono (by omega));have fit:Fit ((c.ts.getD t ⟨0,0,0,0⟩).tr:Nat) ((c.ts.getD t ⟨0,0,0,0⟩).zas:Nat):=by
  have hm:=mI H.ht;have:=H.k.r1 _ hm;have:=H.k.r2 _ hm;have:=H.k.s2 _ hm;unfold Fit;omega
 have VC:=cf.cA k' b4;obtain⟨gc,oc,cc,gt,ot,ct,cl,cB,ts,wk,gy,gn⟩:=c';simp only at h1 h2 h3 h4 h5 h6;subst h1 h2 h3 h4 h5 h6;refine⟨ng c t mp mw mb cO cap A,_,by show _=Ending.returned (.tuple #[af (aj (A 26)),U 0]);rw[S8];rfl,⟨?_,⟨K0 (nN c t) (ld c t) (c.wk+1),fun _=>false,⟨Ee.cA Qh,⟨0,?_⟩,⟨_,?_,⟨CX fit,rfl,rfl,rfl,rfl⟩⟩,VC⟩,NI (iH c t) (c.wk+1),fun e he=>?_⟩,⟨rfl,rfl,rfl,rfl,rfl,rfl⟩,il,bw⟩⟩
 .exact⟨eo,k',a28.symm,VA.symm,H.ht,rfl,rfl,rfl,rfl,rfl,rfl,rfl,rfl,rfl,rfl,rfl,rfl,rfl,rfl,rfl,rfl⟩
 .show cj W4 (A 26) #[_,_,_,_,_,_,_,af (aj (A 25)),af (aj (A 27)),_] _
  rw[a25,S8,a27];exact hb
 .show Pc W4 (A 27) _
  rw[a27];exact pk
 .have:=aQ he
  subst this;exact av 1
set_option maxHeartbeats 2000000 in
theorem fQ{w:World}{c:cF}{t mp mw mb cO:Nat}{ws:List Int}(H:Bs w c t mp mw mb cO ws)(hw:2<mw):ak 27 #[cF.val c,U t,af (aj mp)] w (yT w c t mp mw mb cO ws):=by
 obtain⟨W0,sJ⟩:=al (w.alloc (.cells #[ai (aj c.gc c.oc) c.cl.length c.cc,U c.cB,ai (aj c.gt c.ot) c.ts.length c.ct,U c.wk,U c.gy,U c.gn] 25));have lO:Below w.heap.size w W0:=by rw[←sJ];exact bA (bV _ _) (av _) _
 have pV:cj W0 w.heap.size #[ai (aj c.gc c.oc) c.cl.length c.cc,U c.cB,ai (aj c.gt c.ot) c.ts.length c.ct,U c.wk,U c.gy,U c.gn] 25:=by rw[←sJ];exact cj.new _ _ _
 have H0:=H.cA lO;have dC:ak 46 #[cF.val c,U t,af (aj mp)] W0 fun e w1=>∃y,e=ae (.tuple #[af (aj y),U 0])/\Hid (Below W0.heap.size W0 w1)/\Hid (∃l cap,y=l.getD 25 0/\l.length=26/\l.Nodup/\(∀x∈l,W0.heap.size<=x/\x<w1.heap.size)/\Below W0.heap.size W0 w1/\∀A,Ag l A→gF w1 (ng c t mp mw mb cO cap A) ws (K0 (nN c t) (ld c t) (c.wk+1)) 1):=by
  refine(Cy.fQ H0).mono ?_;rintro e w1 ⟨l,cap,rfl,q1,q2,q3,q4,q5⟩;exact⟨_,rfl,bU q4,bU ⟨l,cap,rfl,q1,q2,q3,q4,q5⟩⟩
 have hq:∀{W:World},Below W0.heap.size W0 W→W.cell? (aj c.gt (c.ot+t*4))=some (U (c.ts.getD t ⟨0,0,0,0⟩).q)/\W.cell? (aj c.gt (c.ot+t*4+1))=some (U (c.ts.getD t ⟨0,0,0,0⟩).tr)/\W.cell? (aj c.gt (c.ot+t*4+2))=some (U (c.ts.getD t ⟨0,0,0,0⟩).ca)/\W.cell? (aj c.gt (c.ot+t*4+3))=some (U (c.ts.getD t ⟨0,0,0,0⟩).zas):=fun {W} hb=>by
  have:=(H0.cA hb).cf.LD t H.ht;rw[ao,aq H.ht];exact this
 have HQ:Hid (∀W,Below W0.heap.size W0 W→(cj W w.heap.size #[ai (aj c.gc c.oc) c.cl.length c.cc,U c.cB,ai (aj c.gt c.ot) c.ts.length c.ct,U c.wk,U c.gy,U c.gn] 25/\W.cell? (aj w.heap.size 2)=some (ai (aj c.gt c.ot) c.ts.length c.ct))/\(W.cell? (aj c.gt (c.ot+t*4))=some (U (c.ts.getD t ⟨0,0,0,0⟩).q)/\W.cell? (aj c.gt (c.ot+t*4+1))=some (U (c.ts.getD t ⟨0,0,0,0⟩).tr)/\W.cell? (aj c.gt (c.ot+t*4+2))=some (U (c.ts.getD t ⟨0,0,0,0⟩).ca)/\W.cell? (aj c.gt (c.ot+t*4+3))=some (U (c.ts.getD t ⟨0,0,0,0⟩).zas))/\(ak 47 #[.agg #[U (c.ts.getD t ⟨0,0,0,0⟩).q,U (c.ts.getD t ⟨0,0,0,0⟩).tr,U (c.ts.getD t ⟨0,0,0,0⟩).ca,U (c.ts.getD t ⟨0,0,0,0⟩).zas]] W fun e w'=>∃p,e=ae (.tuple #[af (aj p),U 0])/\Hid (Below W.heap.size W w')/\Hid (Pc w' p (gR ((c.ts.getD t ⟨0,0,0,0⟩).tr:Nat) ((c.ts.getD t ⟨0,0,0,0⟩).zas:Nat))/\W.heap.size<=p))/\ak 26 #[cF.val c] W fun e w'=>∃c':cF,e=ae (.agg #[ai (aj c'.gc c'.oc) c'.cl.length c'.cc,U c'.cB,ai (aj c'.gt c'.ot) c'.ts.length c'.ct,U c'.wk,U c'.gy,U c'.gn])/\Hid (qp c W e w'/\gN w' c'/\c'.cl=c.cl/\c'.ts=c.ts/\c'.cB=c.cB/\c'.wk=c.wk/\c'.gy=c.gy/\c'.gn=c.gn/\Below W.heap.size W w'/\W.heap.size<=c'.gc/\W.heap.size<=c'.gt/\c'.gc≠c'.gt)):=bU (fun W hb=>by
  refine⟨⟨pV.cA hb,(pV.cA hb).cell 2⟩,hq hb,(Kr W _ _ _ _ (by
   have hm:=mI H.ht;have:=H.k.r1 _ hm;have:=H.k.r2 _ hm;have:=H.k.s2 _ hm;unfold Fit;omega)).mono ?_,(GB (H0.cA hb).cf H.k).mono ?_⟩
  .rintro e w' ⟨p,rfl,q1,q2,q3⟩
   exact⟨p,rfl,bU q2,bU ⟨q1,q3⟩⟩
  .rintro e w' hh
   obtain⟨c',rfl,q⟩:=id hh;exact⟨c',rfl,bU ⟨hh,q⟩⟩)
 have ht:t<c.ts.length:=H.ht;have h8:c.ts.length<=8:=H.k.t8;have HF:Hid (∀(W1 W2 W3:World) (c':cF) (p y:Nat),Hid (∃l cap,y=l.getD 25 0/\l.length=26/\l.Nodup/\(∀x∈l,W0.heap.size<=x/\x<W1.heap.size)/\Below W0.heap.size W0 W1/\∀A,Ag l A→gF W1 (ng c t mp mw mb cO cap A) ws (K0 (nN c t) (ld c t) (c.wk+1)) 1)→Hid (Below W1.heap.size W1 W2)→Hid (Pc W2 p (gR ((c.ts.getD t ⟨0,0,0,0⟩).tr:Nat) ((c.ts.getD t ⟨0,0,0,0⟩).zas:Nat))/\W1.heap.size<=p)→(gN W3 c'/\c'.cl=c.cl/\c'.ts=c.ts/\c'.cB=c.cB/\c'.wk=c.wk/\c'.gy=c.gy/\c'.gn=c.gn/\Below W2.heap.size W2 W3/\W2.heap.size<=c'.gc/\W2.heap.size<=c'.gt/\c'.gc≠c'.gt)→yT w c t mp mw mb cO ws (ae (.tuple #[af (aj W3.heap.size),U 0])) (W3.alloc (.cells #[ai (aj c'.gc c'.oc) c'.cl.length c'.cc,U c'.cB,ai (aj c'.gt c'.ot) c'.ts.length c'.ct,U c'.wk,U c'.gy,U c'.gn,U t,af (aj y),af (aj p),U 0] 121))):=bU (fun W1 W2 W3 c' p y a b d g=>by
  obtain⟨l,cap,rfl,q1,q2,q3,q4,q5⟩:=a.out;obtain⟨f1,f2,f3,f4,f5,f6,f7,f8,f9,f10,f11⟩:=g;exact NN H hw lO q1 q2 q3 q4 q5 d.out.1 b.out d.out.2 f1 f2 f3 f4 f5 f6 f7 f8 f9 f10 f11)
 clear H H0 lO hq;unfold cF.val at *;generalize ((c.ts.getD t ⟨0,0,0,0⟩).q:Int)=tq at *;generalize ((c.ts.getD t ⟨0,0,0,0⟩).ca:Int)=tc at *;generalize ((c.ts.getD t ⟨0,0,0,0⟩).zas:Int)=ta at *;generalize ((c.ts.getD t ⟨0,0,0,0⟩).tr:Int)=tt at *;go_enter func27,ntmps27;go_wp2_with (first
  | (refine wpList_load_row rfl _ _ rfl w.heap.size rfl 25 #[ai (aj c.gc c.oc) c.cl.length c.cc,U c.cB,ai (aj c.gt c.ot) c.ts.length c.ct,U c.wk,U c.gy,U c.gn] (0,0) _ pV underlying25 rfl pd ?_)
  | (go_at_call 46;(with_reducible refine dC.mono ?_);rintro e w1 ⟨y,rfl,dj,hC⟩;clear pV;obtain⟨⟨-,z2⟩,⟨x0,x1,x2,x3⟩,dP,-⟩:=HQ.out w1 dj.out)
  | (go_at_call 47;(with_reducible refine dP.mono ?_);rintro e w2 ⟨p,rfl,cN,hP⟩;clear z2 x0 x1 x2 x3;obtain⟨⟨pV,-⟩,-,-,dO⟩:=HQ.out w2 (fj dj.out cN.out))
  | (go_at_call 26;(with_reducible refine dO.mono ?_);rintro e w3 ⟨c',rfl,hO⟩))
 go_ret2
 exact HF.out w1 w2 w3 c' p y hC cN hP hO.out.2
end Hp
namespace Fm
open Go.RowKit Go.bZ Go.Gc Go.Cf Cn Mm Go.Proofs.YtgblmelijlgimaaGreatDoor.Fd Bd Hd Hp Mk Sw Cy
theorem NP:(prog.info? 82).map (fun i=>(i.zero,i.size,i.bytes))=some (some (af none),1,8):=by kernel_rfl
def Io(hs:List Nat):List Value:=hs.map fun h=>.pointer (some ⟨h,0,none⟩)
def Pv(c':cF)(mp:Nat)(v:Value):Array Value:=#[ai (aj c'.gc c'.oc) c'.cl.length c'.cc,U c'.cB,ai (aj c'.gt c'.ot) c'.ts.length c'.ct,U c'.wk,U c'.gy,U c'.gn,af (aj mp),v]
structure IY(w:World)(c:cF):Prop where
 cf:gN w c
 k:Go.Cf.Ok c
 cp:c.ts.length<=c.ct
 gw:Gw w
 de:TabAt 2 Lib.deBruijn64tab w
 d2:2<w.heap.size
theorem IY.bY{S:Nat→Prop}{w w':World}{c:cF}(h:IY w c)(hc:cu S w w')(h0:¬S 0)(h2:¬S 2)(h3:¬S c.gc)(h4:¬S c.gt):IY w' c:=⟨h.cf.bY h.k hc h3 h4,h.k,h.cp,h.gw.bY hc h0,iQ h.de h.d2 hc h2,aB h.d2 hc.size⟩
theorem IY.cA{w w':World}{c:cF}(h:IY w c)(hb:Below w.heap.size w w'):IY w' c:=h.bY (cu.cD (S:=fun _=>False) hb) id id id id
structure FN(w wr:World)(c c':cF)(mp mw mb cO f:Nat)(zs:List Int)(j:Nat)(v:Value)(T:Ts)(hs:List Nat):Prop where
 nw:IY wr c
 hB:Below w.heap.size w wr
 bx:cj wr w.heap.size #[ai (aj c.gc c.oc) c.cl.length c.cc,U c.cB,ai (aj c.gt c.ot) c.ts.length c.ct,U c.wk,U c.gy,U c.gn] 25
 fb:cj wr f (Pv c' mp v) 81
 own:wr.ownsRow (f+1) 82 1 v j (Io hs)
 hl:hs.length=j
 hd:∀t,t<j→hs.getD t 0=(T.E t).A 26
 I:HI wr T j zs 1 (fun t=>v0 (iH c t)) w.heap.size wr.heap.size
 ec:∀t,t<j→T.C t=iH c t
 nm:∀t,t<j→(T.E t).tn=t/\(T.E t).mp=mp/\(T.E t).mw=mw/\(T.E t).mb=mb/\(T.E t).cO=cO/\(T.E t).bs=mB c
 fn:∀t,t<j→∀i,i<30→f<(T.E t).A i
 gn:∀t,t<j→∀i,i<30→v.ownBlock≠some ((T.E t).A i)
 mm:fI wr mp mw mb cO (mB c) zs
 zr:∀t a,at' (mB c) t zs a=0
 l1:w.heap.size<mw/\mw<mp/\mp<mb/\mb<f
 l2:c.gc<w.heap.size/\c.gt<w.heap.size/\2<w.heap.size
theorem FN.bs{w wr:World}{c c':cF}{mp mw mb cO f:Nat}{zs:List Int}{j:Nat}{v:Value}{T:Ts}{hs:List Nat}(h:FN w wr c c' mp mw mb cO f zs j v T hs)(hj:j<c.ts.length):Bs wr c j mp mw mb cO zs/\2<mw:=by
 have l1:=h.l1;have l2:=h.l2;exact⟨⟨h.nw.cf,h.nw.k,hj,h.mm,h.nw.gw,h.nw.de,h.nw.d2,h.zr j,by omega,by omega⟩,by omega⟩
theorem ig{α:Type}(f:Nat→α)(j:Nat)(x:α){t:Nat}(h:t<j):cP f j x t=f t:=du f x (by omega)
theorem FN.next{w wr w3 w5:World}{c c':cF}{mp mw mb cO f:Nat}{zs:List Int}{j:Nat}{v:Value}{T:Ts}{hs:List Nat}(h:FN w wr c c' mp mw mb cO f zs j v T hs){E:Env}{c2:cF}(n:S7 wr w3 c j mp mw mb cO zs E c2){o:Obj}{g cap:Nat}(own:w5.ownsRow (f+1) 82 1 (ai (aj g) (j+1) cap) (j+1) (Io hs++[af (aj (E.A 26))]))(hg:(w3.alloc o).grownBy w5 v.ownBlock)(hk:v.ownBlock=some g\/g=(w3.alloc o).heap.size):
  ∃T' Ed,FN w (w5.setCell (aj f 7) (ai (aj g) (j+1) cap)) c c' mp mw mb cO f zs (j+1) (ai (aj g) (j+1) cap) T' Ed:=by
 have l1:=h.l1;have l2:=h.l2;have fl:=h.fb.lt;have s3:=n.bl.size;have s4:(w3.alloc o).heap.size=w3.heap.size+1:=World.size_alloc _ _;have s5:=hg.size;have hlt:=h.own.lt;have RB:cu (fun k=>some k=v.ownBlock\/k=f) w3 (w5.setCell (aj f 7) (ai (aj g) (j+1) cap)):=by
  have a:cu (fun k=>some k=v.ownBlock\/k=f) (w3.alloc o) w5:=⟨hg.os,hg.tape,hg.output,hg.size,fun k hk hn=>hg.block k hk (fun e=>hn (.inl e))⟩;exact cu.stored (S:=fun k=>some k=v.ownBlock\/k=f) ((xt _ w3 o).trans a) (p:=f) (.inl (.inr rfl)) 7 _
 have cr:cu (fun k=>some k=v.ownBlock\/k=f) wr (w5.setCell (aj f 7) (ai (aj g) (j+1) cap)):=(cu.cD n.bl).trans RB;have s6:=RB.size;have no:∀{k},k<f→¬(some k=v.ownBlock\/k=f):=fun {k} hk e=>by
  rcases e with e|e
  .have:=(hlt k e.symm).1
   omega
  .omega
 have hB:Below w.heap.size w (w5.setCell (aj f 7) (ai (aj g) (j+1) cap)):=h.hB.trans (cr.below h.hB.size (fun k hk=>by
  rcases hk with hk|hk
  .have:=(hlt k hk.symm).1
   omega
  .omega))
 have fb:cj w5 f (Pv c' mp v) 81:=by
  have b3:=h.fb.cA n.bl;refine(hg.block f (by omega) (fun e=>?_)).trans (b3.alloc o);have:=(hlt f e.symm).1;omega
 have lj:j<j+1:=bD j;have hvj:Hv (w5.setCell (aj f 7) (ai (aj g) (j+1) cap)) (iH c j) E c2 zs 1 (v0 (iH c j)):=by
  obtain⟨-,m1,m2,m3,-,-⟩:=n.nm;refine n.hv.bY n.lk RB (fun i hi e=>?_) (by rw[m1];exact no (by omega)) (by rw[m2];exact no (by omega)) (by rw[m3];exact no (by omega)) (no (by omega)) (no (by omega));have:=(n.il i hi).1;rcases e with e|e
  .have:=(hlt _ e.symm).2
   omega
  .omega
 have hvt:∀t,t<j→Hv (w5.setCell (aj f 7) (ai (aj g) (j+1) cap)) (T.C t) (T.E t) (T.c t) zs 1 (v0 (iH c t)):=fun t ht=>by
  obtain⟨-,m1,m2,m3,-,-⟩:=h.nm t ht;refine(h.I.hv t ht).bY (h.I.lk t ht) cr (fun i hi e=>?_) (by rw[m1];exact no (by omega)) (by rw[m2];exact no (by omega)) (by rw[m3];exact no (by omega)) (no (by omega)) (no (by omega));have:=h.fn t ht i hi;rcases e with e|e
  .exact h.gn t ht i hi e.symm
  .omega
 have kv:∀{Q:Nat→Prop},(∀t,t<j→Q t)→Q j→∀t,t<j+1→Q t:=fun {Q} h1 h2 t ht=>by
  by_cases e:t=j
  .exact e▸h2
  .exact h1 t (by omega)
 refine⟨⟨cP T.E j E,cP T.C j (iH c j),cP T.c j c2⟩,hs++[E.A 26],?_⟩;refine⟨h.nw.bY cr (no (by omega)) (no (by omega)) (no (by omega)) (no (by omega)),hB,h.bx.bY cr (no (by omega)),?_,?_,by rw[aJ,h.hl];rfl,?_,⟨?_,?_,?_,?_,?_,?_,by omega,av _⟩,?_,?_,?_,?_,h.mm.bY cr (no (by omega)) (no (by omega)) (no (by omega)),h.zr,h.l1,h.l2⟩
 .exact fb.set 7 _
 .have hx:Io (hs++[E.A 26])=Io hs++[af (aj (E.A 26))]:=by simp[Io]
  rw[hx];have hr:w5.grownBy (w5.setCell (aj f 7) (ai (aj g) (j+1) cap)) (some f):=⟨rfl,rfl,rfl,by simp,fun k _ hk=>Below.heap_setCell w5 _ _ k (fun e=>hk (by rw[show k=f from e]))⟩;refine own.kept hr (.inr (fun e=>?_));have:=own.lt f e;omega
 .refine kv (fun t ht=>?_) ?_
  .show(hs++[E.A 26]).getD t 0=(cP T.E j E t).A 26
   rw[ig _ _ _ ht,ao,bj (by rw[h.hl];exact ht),←ao];exact h.hd t ht
  .show(hs++[E.A 26]).getD j 0=(cP T.E j E j).A 26
   rw[cS,ao,aS (by rw[h.hl];exact av _),h.hl,Nat.sub_self]
   rfl
 .refine kv (fun t ht=>?_) ?_
  .show Lk (cP T.C j _ t) (cP T.E j E t) (cP T.c j c2 t)
   rw[ig _ _ _ ht,ig _ _ _ ht,ig _ _ _ ht];exact h.I.lk t ht
  .show Lk (cP T.C j _ j) (cP T.E j E j) (cP T.c j c2 j)
   rw[cS,cS,cS];exact n.lk
 .refine kv (fun t ht=>?_) ?_
  .show(cP T.C j _ t).sum=_
   rw[ig _ _ _ ht];exact h.I.sm t ht
  .show(cP T.C j _ j).sum=_
   rw[cS]
   rfl
 .refine kv (fun t ht=>?_) ?_
  .show Hv _ (cP T.C j _ t) (cP T.E j E t) (cP T.c j c2 t) _ _ _
   rw[ig _ _ _ ht,ig _ _ _ ht,ig _ _ _ ht];exact hvt t ht
  .show Hv _ (cP T.C j _ j) (cP T.E j E j) (cP T.c j c2 j) _ _ _
   rw[cS,cS,cS];exact hvj
 .intro t u ht hu hne
  obtain⟨z0,z1,z2,z3,z4,z5⟩:=n.nm;show Ht (cP T.E j E t) (cP T.E j E u);by_cases e:t=j
  .subst e
   rw[cS,ig _ _ _ (show u<t by omega)];obtain⟨y0,y1,y2,y3,y4,y5⟩:=h.nm u (by omega);refine⟨fun i k hi hk e=>?_,⟨by rw[y1,z1],by rw[y2,z2],by rw[y3,z3],by rw[y4,z4],by rw[y5,z5]⟩,by rw[z0,y0];exact hne⟩;have:=(n.il i hi).1;have:=(h.I.il u (by omega) k (by omega)).2;omega
  .rw[ig _ _ _ (show t<j by omega)]
   obtain⟨x0,x1,x2,x3,x4,x5⟩:=h.nm t (by omega);by_cases e2:u=j
   .subst e2
    rw[cS];refine⟨fun i k hi hk e=>?_,⟨by rw[x1,z1],by rw[x2,z2],by rw[x3,z3],by rw[x4,z4],by rw[x5,z5]⟩,by rw[z0,x0];exact hne⟩;have:=(n.il k (by omega)).1;have:=(h.I.il t (by omega) i hi).2;omega
   .rw[ig _ _ _ (show u<j by omega)]
    exact h.I.ap t u (by omega) (by omega) hne
 .refine kv (fun t ht i hi=>?_) (fun i hi=>?_)
  .show _<=(cP T.E j E t).A i/\(cP T.E j E t).A i<_
   rw[ig _ _ _ ht];have:=h.I.il t ht i hi;omega
  .show _<=(cP T.E j E j).A i/\(cP T.E j E j).A i<_
   rw[cS];have:=n.il i hi;have:=h.hB.size;omega
 .refine kv (fun t ht=>?_) ?_
  .show(_<=(cP T.E j E t).mp/\(cP T.E j E t).mp<_)/\(_<=(cP T.E j E t).mw/\(cP T.E j E t).mw<_)/\_<=(cP T.E j E t).mb/\(cP T.E j E t).mb<_
   rw[ig _ _ _ ht];obtain⟨-,m1,m2,m3,-,-⟩:=h.nm t ht;rw[m1,m2,m3];omega
  .show(_<=(cP T.E j E j).mp/\(cP T.E j E j).mp<_)/\(_<=(cP T.E j E j).mw/\(cP T.E j E j).mw<_)/\_<=(cP T.E j E j).mb/\(cP T.E j E j).mb<_
   rw[cS];obtain⟨-,m1,m2,m3,-,-⟩:=n.nm;rw[m1,m2,m3];omega
 .refine kv (fun t ht=>?_) ?_
  .show cP T.C j _ t=_
   rw[ig _ _ _ ht];exact h.ec t ht
  .show cP T.C j _ j=_
   rw[cS]
 .refine kv (fun t ht=>?_) ?_
  .show(cP T.E j E t).tn=t/\(cP T.E j E t).mp=mp/\(cP T.E j E t).mw=mw/\(cP T.E j E t).mb=mb/\(cP T.E j E t).cO=cO/\(cP T.E j E t).bs=mB c
   rw[ig _ _ _ ht];exact h.nm t ht
  .show(cP T.E j E j).tn=j/\(cP T.E j E j).mp=mp/\(cP T.E j E j).mw=mw/\(cP T.E j E j).mb=mb/\(cP T.E j E j).cO=cO/\(cP T.E j E j).bs=mB c
   rw[cS];exact n.nm
 .refine kv (fun t ht i hi=>?_) (fun i hi=>?_)
  .show f<(cP T.E j E t).A i
   rw[ig _ _ _ ht];exact h.fn t ht i hi
  .show f<(cP T.E j E j).A i
   rw[cS];have:=(n.il i hi).1;omega
 .refine kv (fun t ht i hi e=>?_) (fun i hi e=>?_)
  .have e:some g=some ((cP T.E j E t).A i):=e
   rw[ig _ _ _ ht] at e;rcases hk with hk|hk
   .exact h.gn t ht i hi (hk.trans e)
   .have:=(h.I.il t ht i hi).2
    injection e with e;omega
  .have e:some g=some ((cP T.E j E j).A i):=e
   rw[cS] at e;injection e with e;have hi:=n.il i hi;rcases hk with hk|hk
   .have:=(hlt g hk).2
    omega
   .omega
def yU(w:World)(c:cF)(e:Ending)(w':World):Prop:=∃f gh cap c' mp T hs zs,e=ae (.tuple #[af (aj f),U 0])/\FI w' f gh cap c' mp T hs zs 1 (fun t=>v0 (iH c t)) w.heap.size w'.heap.size/\hs.length=c.ts.length/\(∀t,t<c.ts.length→T.C t=iH c t)/\Below w.heap.size w w'
theorem FN.fin{w wr:World}{c c':cF}{mp mw mb cO f:Nat}{zs:List Int}{j:Nat}{v:Value}{T:Ts}{hs:List Nat}(h:FN w wr c c' mp mw mb cO f zs j v T hs)(hj:j=c.ts.length):yU w c (ae (.tuple #[af (aj f),U 0])) wr:=by
 have l1:=h.l1;have fl:=h.fb.lt;have t1:=h.nw.k.t1;obtain⟨qd,⟨-,h0⟩|⟨g,cap,cur,hv,hb,hg,hnc,hcm,hcs,htk⟩⟩:=h.own
 .omega
 subst hv;have hc:=h.own.cells (g:=g) rfl;refine⟨f,g,cap,c',mp,T,hs,zs,rfl,⟨⟨?_,fun i hi=>?_,(aD.1 hg).1⟩,by rw[h.hl];exact h.I,fun t ht=>h.hd t (by rw[←h.hl];exact ht),by omega,⟨by omega,(aD.1 hg).1⟩,fun t ht=>⟨fun hk=>?_,fun hk=>?_⟩⟩,h.hl.trans hj,fun t ht=>h.ec t (by omega),h.hB⟩
 .have:=h.fb
  unfold Pv at this;rw[h.hl];exact this
 .have:=hc i (af (aj (hs.getD i 0))) (by
   unfold Io;rw[aR,ao,aq hi]
   rfl)
  rwa [show(⟨g,0,none⟩:Addr).add i=⟨g,i,none⟩ by unfold Addr.add;split <;> simp_all] at this
 .rw[h.hl] at ht
  rcases hk with hk|⟨i,hi,hk⟩
  .rw[(h.nm t ht).2.2.1] at hk
   omega
  .have:=h.fn t ht i (by have:=List.mem_range.1 hi;omega)
   omega
 .rw[h.hl] at ht
  rcases hk with hk|⟨i,hi,hk⟩
  .rw[(h.nm t ht).2.2.1] at hk
   omega
  .exact h.gn t ht i (by have:=List.mem_range.1 hi;omega) (congrArg some hk)
end Fm
namespace Fm
open Go.RowKit Go.bZ Go.Gc Go.Cf Cn Mm Go.Proofs.YtgblmelijlgimaaGreatDoor.Fd Bd Hd Hp Mk Sw Cy
theorem FN.VD{w wr w3:World}{c c':cF}{mp mw mb cO f:Nat}{zs:List Int}{j:Nat}{v:Value}{T:Ts}{hs:List Nat}(h:FN w wr c c' mp mw mb cO f zs j v T hs)(hb:Below wr.heap.size wr w3)(o:Obj):w3.cell? (aj f 7)=some v/\(w3.alloc o).ownsRow (f+1) 82 1 v j (Io hs)/\f+1<=(w3.alloc o).heap.size/\∀w5,(w3.alloc o).grownBy w5 v.ownBlock→w5.cell? (aj f 7)=some v/\w5.frozen? (aj f 7)=false:=by
 have b3:=h.fb.cA hb;have b4:=b3.alloc o;have l:=h.fb.lt;have s3:=hb.size;have s4:(w3.alloc o).heap.size=w3.heap.size+1:=World.size_alloc _ _;have MX:w3.ownsRow (f+1) 82 1 v j (Io hs):=by
  obtain⟨hl,k|⟨g,cap,cur,h1,h2,h3,h4⟩⟩:=h.own
  .exact⟨hl,.inl k⟩
  .exact⟨hl,.inr ⟨g,cap,cur,h1,h2,(hb.block g (aD.1 h3).1).trans h3,h4⟩⟩
 refine⟨b3.cell 7,MX.alloc o,by omega,fun w5 hg=>?_⟩;have b5:cj w5 f (Pv c' mp v) 81:=(hg.block f (by omega) (fun e=>by have:=(h.own.lt f e.symm).1;omega)).trans b4;exact⟨b5.cell 7,b5.cE 7⟩
set_option maxHeartbeats 2000000 in
theorem fQ{w:World}{c:cF}(h:IY w c):ak 13 #[cF.val c] w (yU w c):=by
 obtain⟨W0,sJ⟩:=al (w.alloc (.cells #[ai (aj c.gc c.oc) c.cl.length c.cc,U c.cB,ai (aj c.gt c.ot) c.ts.length c.ct,U c.wk,U c.gy,U c.gn] 25));have lO:Below w.heap.size w W0:=by rw[←sJ];exact bA (bV _ _) (av _) _
 have pV:cj W0 w.heap.size #[ai (aj c.gc c.oc) c.cl.length c.cc,U c.cB,ai (aj c.gt c.ot) c.ts.length c.ct,U c.wk,U c.gy,U c.gn] 25:=by rw[←sJ];exact cj.new _ _ _
 have h0:=h.cA lO;have lW:=pV.lt;have dM:ak 25 #[cF.val c] W0 fun e w1=>∃mp,e=ae (.tuple #[af (aj mp),U 0])/\Hid (Below W0.heap.size W0 w1)/\Hid (∃mw mb cO,fI w1 mp mw mb cO (mB c) (List.replicate (fG c c.ts.length) 0)/\W0.heap.size<=mw/\mw<mp/\mp<mb):=by
  refine(Mm.fQ h0.cf h0.k h0.cp).mono ?_;rintro e w1 ⟨mp,mw,mb,cap,rfl,q1,q2,q3,q4,q5⟩;exact⟨mp,rfl,bU q2,bU ⟨mw,mb,cap,q1,q3,q4,q5⟩⟩
 have HO:Hid (∀W,Below W0.heap.size W0 W→cj W w.heap.size #[ai (aj c.gc c.oc) c.cl.length c.cc,U c.cB,ai (aj c.gt c.ot) c.ts.length c.ct,U c.wk,U c.gy,U c.gn] 25/\ak 26 #[cF.val c] W fun e w'=>∃c':cF,e=ae (.agg #[ai (aj c'.gc c'.oc) c'.cl.length c'.cc,U c'.cB,ai (aj c'.gt c'.ot) c'.ts.length c'.ct,U c'.wk,U c'.gy,U c'.gn])/\Hid (Below W.heap.size W w')):=bU (fun W hb=>by
  refine⟨pV.cA hb,(GB (h0.cA hb).cf h.k).mono ?_⟩;rintro e w' ⟨c',rfl,-,-,-,-,-,-,-,VE,-⟩;exact⟨c',rfl,bU VE⟩)
 have H0:Hid (∀(w1 w2 V:World) (c':cF) (mp:Nat),Hid (Below W0.heap.size W0 w1)→Hid (∃mw mb cO,fI w1 mp mw mb cO (mB c) (List.replicate (fG c c.ts.length) 0)/\W0.heap.size<=mw/\mw<mp/\mp<mb)→Hid (Below w1.heap.size w1 w2)→w2.alloc (.cells #[ai (aj c'.gc c'.oc) c'.cl.length c'.cc,U c'.cB,ai (aj c'.gt c'.ot) c'.ts.length c'.ct,U c'.wk,U c'.gy,U c'.gn,af (aj mp),ai none 0 0] 81)=V→∃mw mb cO zs T,FN w V c c' mp mw mb cO w2.heap.size zs 0 (ai none 0 0) T []):=bU (fun w1 w2 V c' mp b1 hm b2 hV=>by
  obtain⟨mw,mb,cO,mm,q1,q2,q3⟩:=hm.out;have b1:=b1.out;have b2:=b2.out;have b3:Below w2.heap.size w2 V:=by rw[←hV];exact bA (bV _ _) (av _) _
  have fb:cj V w2.heap.size (Pv c' mp (ai none 0 0)) 81:=by rw[←hV];exact cj.new _ _ _
  have s0:=lO.size;have s1:=b1.size;have s2:=b2.size;have m3:mb<w1.heap.size:=World.block_lt_of_cell? w1 ⟨mb,0,none⟩ (mm.b2 0 (by have:=mm.two;omega));have bw:Below w.heap.size w V:=((lO.trans (b1.mono s0)).trans (b2.mono (by omega))).trans (b3.mono (by omega));have VF:Below W0.heap.size W0 V:=(b1.trans (b2.mono s1)).trans (b3.mono (by omega));obtain⟨g1,g2⟩:=h.cf.lt h.k;have d2:=h.d2;refine⟨mw,mb,cO,List.replicate (fG c c.ts.length) 0,⟨fun _=>ng c 0 0 0 0 0 0 (fun _=>0),fun _=>iH c 0,fun _=>c⟩,h.cA bw,bw,pV.cA VF,fb,World.ownsRow_nil _ _ _ _,rfl,fun t ht=>absurd ht (by omega),⟨fun t ht=>absurd ht (by omega),fun t ht=>absurd ht (by omega),fun t ht=>absurd ht (by omega),fun t u ht=>absurd ht (by omega),fun t ht=>absurd ht (by omega),fun t ht=>absurd ht (by omega),d2,av _⟩,fun t ht=>absurd ht (by omega),fun t ht=>absurd ht (by omega),fun t ht=>absurd ht (by omega),fun t ht=>absurd ht (by omega),(mm.cA b2).cA b3,fun t a=>?_,⟨by omega,q2,q3,by omega⟩,g1,g2,d2⟩;unfold at';rw[ao,List.getElem?_replicate]
  split <;> rfl)
 have HN:Hid (∀wr c' mp mw mb cO f zs j v T hs,FN w wr c c' mp mw mb cO f zs j v T hs→j<c.ts.length→cj wr w.heap.size #[ai (aj c.gc c.oc) c.cl.length c.cc,U c.cB,ai (aj c.gt c.ot) c.ts.length c.ct,U c.wk,U c.gy,U c.gn] 25/\ak 27 #[cF.val c,U j,af (aj mp)] wr fun e w3=>∃p,e=ae (.tuple #[af (aj p),U 0])/\w3.cell? (aj f 7)=some v/\Hid ((w3.alloc (.cells #[af (aj p)] 82)).ownsRow (f+1) 82 1 v j (Io hs)/\f+1<=(w3.alloc (.cells #[af (aj p)] 82)).heap.size)/\Hid (∀w5 g cap,w5.ownsRow (f+1) 82 1 (ai (aj g) (j+1) cap) (j+1) (Io hs++[af (aj p)])→(w3.alloc (.cells #[af (aj p)] 82)).grownBy w5 v.ownBlock→(v.ownBlock=some g\/g=(w3.alloc (.cells #[af (aj p)] 82)).heap.size)→w5.cell? (aj f 7)=some v/\w5.frozen? (aj f 7)=false/\Hid (∃T' Ed,FN w (w5.setCell (aj f 7) (ai (aj g) (j+1) cap)) c c' mp mw mb cO f zs (j+1) (ai (aj g) (j+1) cap) T' Ed))):=bU (fun wr c' mp mw mb cO f zs j v T hs n hj=>by
  obtain⟨B,hw⟩:=n.bs hj;refine⟨n.bx,(Hp.fQ B hw).mono ?_⟩;rintro e w3 ⟨E,c2,rfl,hn⟩;obtain⟨q1,q2,q3,q4⟩:=n.VD hn.bl (.cells #[af (aj (E.A 26))] 82);refine⟨_,rfl,q1,bU ⟨q2,q3⟩,bU (fun w5 g cap ho hg hk=>?_)⟩;obtain⟨r1,r2⟩:=q4 w5 hg;exact⟨r1,r2,bU (n.next hn ho hg hk)⟩)
 have HF:Hid (∀wr c' mp mw mb cO f zs j v T hs,FN w wr c c' mp mw mb cO f zs j v T hs→j=c.ts.length→yU w c (ae (.tuple #[af (aj f),U 0])) wr):=bU (fun wr c' mp mw mb cO f zs j v T hs n hj=>n.fin hj);obtain⟨i0,uN,iX,jm,nQ⟩:=info_parts NP;have h8:c.ts.length<=8:=h.k.t8;have k2:Hid (∀wr c' mp mw mb cO f zs j v T hs,FN w wr c c' mp mw mb cO f zs j v T hs→wr.cell? (aj w.heap.size 2)=some (ai (aj c.gt c.ot) c.ts.length c.ct)):=bU (fun wr c' mp mw mb cO f zs j v T hs n=>n.bx.cell 2);clear h h0 lO lW;unfold cF.val at *;go_enter func13,ntmps13;go_wp2_with (first
  | (refine wpList_load_row rfl _ _ rfl w.heap.size rfl 25 #[ai (aj c.gc c.oc) c.cl.length c.cc,U c.cB,ai (aj c.gt c.ot) c.ts.length c.ct,U c.wk,U c.gy,U c.gn] (0,0) _ pV underlying25 rfl pd ?_)
  | (go_at_call 25;(with_reducible refine dM.mono ?_);rintro e w1 ⟨mp,rfl,dj,hM⟩;clear pV;obtain⟨pV,dO⟩:=HO.out w1 dj.out)
  | (go_at_call 26;(with_reducible refine dO.mono ?_);rintro e w2 ⟨c',rfl,cN⟩;clear pV;obtain⟨V,hV⟩:=al (w2.alloc (.cells #[ai (aj c'.gc c'.oc) c'.cl.length c'.cc,U c'.cB,ai (aj c'.gt c'.ot) c'.ts.length c'.ct,U c'.wk,U c'.gy,U c'.gn,af (aj mp),ai none 0 0] 81));obtain⟨mw,mb,cO,zs,T0,n0⟩:=H0.out w1 w2 V c' mp dj hM cN hV;have N0:=bU n0;have z2:=k2.out _ _ _ _ _ _ _ _ _ _ _ _ n0;clear n0))
 go_loopw [26] (fun i wr=>∃j:Nat,j<=c.ts.length/\i=U j/\∃v T hs,Hid (FN w wr c c' mp mw mb cO w2.heap.size zs j v T hs)) (fun i _=>c.ts.length-(intOf i).toNat)
 case atStart=>exact⟨0,by omega,rfl,_,_,_,N0⟩
 case round=>
  obtain⟨j,hj,rfl,v,T,hs,NR⟩:=hrel;by_cases hlt:j<c.ts.length
  .obtain⟨pV,dH⟩:=HN.out _ _ _ _ _ _ _ _ _ _ _ _ NR.out hlt
   go_wp2_with (first
    | (refine wpList_load_row rfl _ _ rfl w.heap.size rfl 25 #[ai (aj c.gc c.oc) c.cl.length c.cc,U c.cB,ai (aj c.gt c.ot) c.ts.length c.ct,U c.wk,U c.gy,U c.gn] (0,0) _ pV underlying25 rfl pd ?_)
    | (go_at_call 27;(with_reducible refine dH.mono ?_);rintro e w3 ⟨p,rfl,z7,hO,hX⟩;clear pV)
    | (at_builtin;refine wpList_append_lies _ rfl _ _ 79 rfl (w2.heap.size+1) 82 i0 (af none) 1 8 underlying79 uN iX jm nQ rfl (by decide) v j (Io hs) rfl hO.out.1 ⟨w3.heap.size,0,none⟩ 1 1 [af (aj p)] rfl rfl ?c1 ?c2 (by decide) ?c3 ?c4 hO.out.2 _ rfl ?_))
   case c1=>
    intro k u hk
    match k,hk with
    | 0,hk=>
     simp at hk;subst hk;exact(cj.new w3 #[af (aj p)] 82).cell 0
    | k+1,hk=>simp at hk
   case c2=>
    intro u hu;simp at hu;subst hu
    rfl
   case c3=>unfold maxLen;omega
   case c4=>omega
   intro g cap w5 hown hgrow hk _;obtain⟨z8,f8,hN⟩:=hX.out w5 g cap hown hgrow (hk.imp_right (fun e=>e.trans (World.size_alloc _ _).symm));clear hown hgrow hk;go_wp2_with fail
   go_roundw
   case rel=>
    obtain⟨T',Ed,n'⟩:=hN.out;exact⟨j+1,by omega,by go_num,_,T',Ed,bU n'⟩
   case measure=>simp[intOf];omega
  .obtain rfl:j=c.ts.length:=by omega
   have WN:=k2.out _ _ _ _ _ _ _ _ _ _ _ _ NR.out;go_wp2_with fail
   go_ret2
   exact HF.out _ _ _ _ _ _ _ _ _ _ _ _ NR.out rfl
end Fm
end Go.Proofs.YtgblmelijlgimaaGreatDoor
