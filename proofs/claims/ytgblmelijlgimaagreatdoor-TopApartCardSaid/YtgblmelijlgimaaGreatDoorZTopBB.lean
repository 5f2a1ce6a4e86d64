/- Parts of the proof of TopApart. -/
import Derived.Test.YtgblmelijlgimaaGreatDoorZTopAX
import Derived.Test.YtgblmelijlgimaaGreatDoorZTopBA
set_option maxRecDepth 100000
namespace Go.Proofs.YtgblmelijlgimaaGreatDoor
open Go.Proofs.Tryz
namespace Hp
open Go.RowKit Go.bZ Go.Gc Go.Cf Cn Go.Proofs.YtgblmelijlgimaaGreatDoor.Fd Sl Bd Ca Hd Tb Mk Sw Cy
def OY(tn:Nat)(w:Int):Option (Nat×Nat):=if dy w.toNat 0 32≠0/\dy w.toNat 56 8=tn then some (dy w.toNat 32 24,dy w.toNat 0 32) else none
structure Lk(C:cV)(E:Env)(c:cF):Prop where
 e:E.Ok
 k:Go.Cf.Ok c
 gc:c.gc=E.A 28
 gt:c.gt=E.A 29
 tl:E.tn<c.ts.length
 hn:E.hn=c.wk+1
 gn:E.gens=c.gn
 rs:E.rs=ie c E.tn c.cl.length
 n:E.n=cI (gC c E.tn) c.cl.length
 pw:E.pw=c.cB
 cK:C.K=E.K
 cg:C.gens=E.gens
 cq:C.fV=(c.ts.getD E.tn ⟨0,0,0,0⟩).q
 ct:C.ua=((c.ts.getD E.tn ⟨0,0,0,0⟩).tr:Nat)
 cc:C.cl=c.cl
 c1:C.first=cI (gC c E.tn)
 c2:C.many=gC c E.tn
 ch:C.N5=v7 E.tn
 cr:C.rd=OY E.tn
 cw:C.hw=vz
 cf:C.fit=kh c.cl
def Un(E:Env)(c:cF)(z:Int):Array Value:=#[ai (aj c.gc c.oc) c.cl.length c.cc,U c.cB,ai (aj c.gt c.ot) c.ts.length c.ct,U c.wk,U c.gy,U c.gn,U E.tn,af (aj (E.A 25)),af (aj (E.A 27)),U z]
structure OZ(C:cV)(p:PP)(si cy:Int)(ac:Bool):Prop where
 g:p.Good
 tr:p.tr=C.ua
 si:p.si=si
 cy:p.cy=cy
 ac:p.ac=ac
structure nB(w:World)(C:cV)(E:Env)(c:cF)(ws:List Int)(s:St)(N:Int)(si cy:Int)(ac:Bool):Prop where
 cp:gF w E ws s N
 b:∃z:Int,cj w (E.A 26) (Un E c z) 121
 pc:∃p:PP,Pc w (E.A 27) p/\OZ C p si cy ac
 cf:gN w c
def Gn(x:V):Prop:=∀e∈x.v.es,1<=e.gen
def Hv(w:World)(C:cV)(E:Env)(c:cF)(ws:List Int)(N:Int)(x:V):Prop:=∃s G,nB w C E c ws s N x.si x.cy x.v.act/\Rp C s G x/\Gn x
theorem Pc.rJ{S:Nat→Prop}{w w':World}{p:Nat}{c:PP}(h:Pc w p c)(hc:cu S w w')(hs:¬S p):Pc w' p c:=(hc.block p (aD.1 h).1 hs).trans h
theorem nB.cA{w w':World}{C:cV}{E:Env}{c:cF}{ws:List Int}{s:St}{N si cy:Int}{ac:Bool}(L:Lk C E c)(h:nB w C E c ws s N si cy ac)(hb:Below w.heap.size w w'):nB w' C E c ws s N si cy ac:=by
 obtain⟨z,b⟩:=h.b;obtain⟨p,p1,p2⟩:=h.pc;have hc:cu (fun _=>False) w w':=cu.cD hb;exact⟨h.cp.cA hb,⟨z,b.cA hb⟩,⟨p,Pc.rJ p1 hc id,p2⟩,h.cf.cA L.k hb⟩
theorem Hv.cA{w w':World}{C:cV}{E:Env}{c:cF}{ws:List Int}{N:Int}{x:V}(L:Lk C E c)(h:Hv w C E c ws N x)(hb:Below w.heap.size w w'):Hv w' C E c ws N x:=by
 obtain⟨s,G,h1,h2⟩:=h;exact⟨s,G,h1.cA L hb,h2⟩
theorem Ra{E:Env}(hE:E.Ok){l:List Nat}(hl:l.all (fun i=>decide (i<64))=true){j:Nat}(hj:j<64)(h:j∉l):¬Om E l (E.A j):=fun hk=>hk.elim (fun e=>hE.mw j hj e) (fun hk=>Cs hE hl hj h hk)
theorem nB.gY{w w':World}{C:cV}{E:Env}{c:cF}{ws cR:List Int}{s t:St}{N N' si cy:Int}{ac:Bool}(L:Lk C E c)(h:nB w C E c ws s N si cy ac){l:List Nat}(hc:cu (Om E l) w w')(hl:l.all (fun i=>decide (i<26))=true)(ht:gF w' E cR t N'):nB w' C E c cR t N' si cy ac:=by
 rw[bg] at hl;have hl:∀i∈l,i<26:=fun i hi=>of_decide_eq_true (hl i hi)
 have zJ:l.all (fun i=>decide (i<64))=true:=by rw[bg];exact fun i hi=>aw (by have:=hl i hi;omega)
 have no:∀j,26<=j→j<64→¬Om E l (E.A j):=fun j h1 h2=>Ra L.e zJ h2 (fun hj=>by have:=hl j hj;omega)
 obtain⟨z,b⟩:=h.b;obtain⟨p,p1,p2⟩:=h.pc;exact⟨ht,⟨z,b.bY hc (no 26 (by omega) (by omega))⟩,⟨p,Pc.rJ p1 hc (no 27 (by omega) (by omega)),p2⟩,h.cf.bY L.k hc (by rw[L.gc];exact no 28 (by omega) (by omega)) (by rw[L.gt];exact no 29 (by omega) (by omega))⟩
theorem gF.uc{w w':World}{E:Env}(hE:E.Ok){ws:List Int}{s:St}{N:Int}(h:gF w E ws s N){l:List Nat}(hc:cu (Of E.A l) w w')(hl:l.all (fun i=>decide (i<64/\26<=i))=true):gF w' E ws s N:=by
 rw[bg] at hl;have hl:∀i∈l,i<64/\26<=i:=fun i hi=>of_decide_eq_true (hl i hi)
 have zJ:l.all (fun i=>decide (i<64))=true:=by rw[bg];exact fun i hi=>aw (hl i hi).1
 obtain⟨z,b⟩:=h.cy;exact⟨Co.uc hE h.co hc (by rw[bg];exact fun i hi=>aw (by have:=hl i hi;omega)),z,b.bY hc (Cs hE zJ (by omega) (fun hj=>by have:=hl 25 hj;omega))⟩
theorem qJ{E:Env}{w:World}(i:Nat)(v:Value):cu (Of E.A [26]) w (w.setCell (aj (E.A 26) i) v):=(cu.refl _ w).stored (.inl ⟨26,by simp,rfl⟩) i v
theorem nB.work{w:World}{C:cV}{E:Env}{c:cF}{ws:List Int}{s:St}{N si cy:Int}{ac:Bool}(L:Lk C E c)(h:nB w C E c ws s N si cy ac)(y:Int):nB (w.setCell (aj (E.A 26) 9) (U y)) C E c ws s N si cy ac:=by
 obtain⟨z,b⟩:=h.b;obtain⟨p,p1,p2⟩:=h.pc;have hc:=qJ (E:=E) (w:=w) 9 (U y);exact⟨gF.uc L.e h.cp hc (by decide),⟨y,b.set 9 _⟩,⟨p,Pc.rJ p1 hc (L.e.no (by decide)),p2⟩,h.cf.bY L.k hc (by rw[L.gc];exact L.e.no (by decide)) (by rw[L.gt];exact L.e.no (by decide))⟩
theorem wi{E:Env}{w w':World}(h:eQ w w' (E.A 27)):cu (Of E.A [27]) w w':=⟨h.os,h.tape,h.output,h.size,fun k hk hs=>h.block k hk (fun e=>hs ⟨27,by simp,e⟩)⟩
theorem nB.Ko{w w':World}{C:cV}{E:Env}{c:cF}{ws:List Int}{s:St}{N si cy N9 Oa:Int}{ac Oc:Bool}(L:Lk C E c)(h:nB w C E c ws s N si cy ac)(ho:eQ w w' (E.A 27)){p:PP}(hp:Pc w' (E.A 27) p)(hi:OZ C p N9 Oa Oc):nB w' C E c ws s N N9 Oa Oc:=by
 obtain⟨z,b⟩:=h.b;have hc:=wi ho;exact⟨gF.uc L.e h.cp hc (by decide),⟨z,b.bY hc (L.e.no (by decide))⟩,⟨p,hp,hi⟩,h.cf.bY L.k hc (by rw[L.gc];exact L.e.no (by decide)) (by rw[L.gt];exact L.e.no (by decide))⟩
theorem Lk.tO{C:cV}{E:Env}{c:cF}(L:Lk C E c){k:Nat}{r:Rec}(h:E.rs[k]?=some r):k<c.cl.length/\r=recAt c E.tn k:=by
 rw[L.rs] at h;unfold ie at h;rw[aR] at h;rcases Nat.lt_or_ge k c.cl.length with hk|hk
 .rw[List.getElem?_range hk] at h
  injection h with h;exact⟨hk,h.symm⟩
 .rw[List.getElem?_eq_none (by simpa using hk)] at h
  cases h
theorem wj{c:cF}(k:Go.Cf.Ok c){i:Nat}(hi:i<c.cl.length):2<=c.cl.getD i 0/\c.cl.getD i 0<=64:=by
 have hm:c.cl.getD i 0∈c.cl:=by rw[ao,aq hi];exact aF hi
 exact⟨k.lo _ hm,k.hi _ hm⟩
theorem Lk.slot{C:cV}{E:Env}{c:cF}(L:Lk C E c){x k:Nat}{r:Rec}(h:eJ E.pw E.rs E.n E.pg x k r):k<c.cl.length/\r=recAt c E.tn k/\cJ E.rs x=c.cl.getD k 0/\kA E.rs x=k:=by
 obtain⟨h1,h2⟩:=L.tO h.at';refine⟨h1,h2,?_,h.cl⟩;unfold cJ;rw[h.gL,h2]
 rfl
theorem Lk.sz{C:cV}{E:Env}{c:cF}(L:Lk C E c):∀x,x<E.n→cJ E.rs x<=64:=fun x hx=>by
 obtain⟨k,r,sl⟩:=gq L.e.gd hx;obtain⟨h1,_,h2,_⟩:=L.slot sl;rw[h2];exact(wj L.k h1).2
theorem Rp.hd{C:cV}{s:St}{G:Nat→Bool}{x:V}(hK:C.K.Ok)(h:Rp C s G x):ny C.K s G:=fun y hy=>by
 have hT:x.v.T y=true:=by rw[h.T];exact hy.1
 have hG:x.v.G y=false:=by rw[h.G];exact hy.2
 obtain⟨r,u,e⟩:=h.ok.hd y hT hG;rw[h.head hK hy] at e;refine⟨r,u,e,fun j hj=>?_⟩;have hf:=fw e;have hr:j<refs C.K x.v.M y:=by unfold refs;rw[h.head hK hy,e];exact hj
 have:=h.ok.rf y j hT hG hr
 rwa [h.word hy (by omega) (by omega)] at this
end Hp
namespace Hp
open Go.RowKit Go.bZ Go.Gc Go.Cf Cn Go.Proofs.YtgblmelijlgimaaGreatDoor.Fd Sl Bd Ca Hd Tb Mk Sw Cy
theorem nB.cells{w:World}{C:cV}{E:Env}{c:cF}{ws:List Int}{s:St}{N si cy:Int}{ac:Bool}(h:nB w C E c ws s N si cy ac):w.cell? (aj (E.A 26) 6)=some (U E.tn)/\w.cell? (aj (E.A 26) 7)=some (af (aj (E.A 25)))/\w.cell? (aj (E.A 26) 8)=some (af (aj (E.A 27)))/\∃z:Int,w.cell? (aj (E.A 26) 9)=some (U z)/\w.frozen? (aj (E.A 26) 9)=false:=by
 obtain⟨z,b⟩:=h.b;exact⟨b.cell 6,b.cell 7,b.cell 8,z,b.cell 9,b.cE 9⟩
theorem cC{w:World}{C:cV}{E:Env}{c:cF}{ws:List Int}{s:St}{N si cy:Int}{ac:Bool}(h:nB w C E c ws s N si cy ac):ak 73 #[af (aj (E.A 26))] w fun e w'=>e=ae (.bool false)/\w=w':=by
 have c7:=h.cells.2.1;clear h;generalize E.A 26=q at *;go_enter func73,ntmps73;go_wp2_with fail;go_ret;exact⟨rfl,rfl⟩
theorem CW(es:List eG):eR es 0=ek es:=rfl
theorem kE{w:World}{C:cV}{E:Env}{c:cF}{ws:List Int}{s:St}{N si cy:Int}{ac:Bool}(h:nB w C E c ws s N si cy ac):ak 178 #[af (aj (E.A 26))] w fun e w'=>e=ae (.bool (decide (0<ek s.es)))/\w=w':=by
 have c7:=h.cells.2.1;have dT:=mO h.cp;have dF:=Tb.kE h.cp.co.mp.tb;have e1:decide ((0:Int)<(eR s.es 0:Int))=decide (0<ek s.es):=by rw[CW];exact decide_eq_decide.2 (by omega)
 clear h;generalize E.A 26=q at *;go_enter func178,ntmps178;go_wp2_with (first|(go_at_call 145;refine dT.mono ?_;rintro e w' ⟨rfl,rfl⟩)|(go_at_call 228;refine dF.mono ?_;rintro e w' ⟨rfl,rfl⟩))
 go_ret;exact⟨rfl,rfl⟩
def Hl:List Nat:=List.range 28
theorem mx{E:Env}{l:List Nat}(hl:l.all (fun i=>Hl.contains i)=true)(k:Nat)(h:Of E.A l k):Om E Hl k:=Om.of hl k h
structure fF(w w':World)(C:cV)(E:Env)(c:cF)(ws:List Int)(N:Int)(x':V)(n:Int)(cR:List Int):Prop where
 hv:Hv w' C E c cR (N+n) x'
 rg:nc E.bs E.tn ws cR
 ch:cu (Om E Hl) w w'
theorem rK{w:World}{C:cV}{E:Env}{c:cF}{ws:List Int}{N:Int}{x:V}(L:Lk C E c)(h:Hv w C E c ws N x)(ha:x.v.act=false)(hN:N<1000000):ak 227 #[af (aj (E.A 26))] w fun e w'=>e=ae (.tuple #[])/\fF w w' C E c ws N (x.begin C) 1 ws:=by
 obtain⟨s,G,hp,r,gn⟩:=h;have hK:C.K.Ok:=by rw[L.cK];exact L.e.K
 have ph:s.phase=0:=by
  have:=r.act;rw[ha] at this;by_cases c:s.phase=0
  .exact c
  .rw[aw c] at this;cases this
 have hact:s.act=false:=by rw[r.I.ac,ph];rfl
 have c7:=hp.cells.2.1;have dB:=Gj L.e hp.cp ph hact hN;have D1:Hid (∀w1,gF w1 E ws (Go.Gc.begun s) (N+1)→cu (Of E.A [12,13,14,15,16,17,18,19,20,21,25]) w w1→w1.cell? (aj (E.A 26) 8)=some (af (aj (E.A 27)))/\ak 270 #[af (aj (E.A 27))] w1 fun e w2=>∃z:Int,e=ae (U z)/\Hid (fF w w2 C E c ws N (x.begin C) 1 ws)):=bU (fun w1 c1 k1=>by
  have h1:=hp.gY L (k1.up (Om.of (l':=[12,13,14,15,16,17,18,19,20,21,25]) (by decide))) (by decide) c1;obtain⟨p,p1,p2⟩:=h1.pc;refine⟨h1.cells.2.2.1,(ym w1 (E.A 27) p p1 p2.g).mono ?_⟩;rintro e w2 ⟨rfl,q1,q2⟩;have et:Ac p true={p with ac:=true,si:=0,de:=0}:=by
   unfold Ac;rw[if_neg (by rw[p2.ac,ha];simp)]
   rfl
  rw[et] at q1;have g:=p2.g;have h2:=h1.Ko L q2 q1 (C:=C) (N9:=0) (Oa:=x.cy) (Oc:=true) ⟨{g with P3:=Int.le_refl 0,P4:=by have:=g.GD;show(0:Int)<p.tr;omega,de:=⟨Int.le_refl 0,by show(0:Int)<=4611686018427387904;decide⟩},p2.tr,rfl,p2.cy,rfl⟩;exact⟨_,rfl,bU ⟨⟨Go.Gc.begun s,_,h2,r.begin hK ph,gn⟩,nc.refl _ _ _,(k1.up (mx (by decide))).trans ((wi q2).up (mx (by decide)))⟩⟩)
 clear hp r;go_enter func227,ntmps227;go_wp2_with (first
  | (go_at_call 269;(with_reducible refine dB.mono ?_);rintro e w1 ⟨rfl,c1,k1⟩;obtain⟨y8,dP⟩:=D1.out w1 c1 k1;clear c1 k1)
  | (go_at_call 270;(with_reducible refine dP.mono ?_);rintro e w2 ⟨z,rfl,hZ⟩))
 go_end0
 exact⟨rfl,hZ.out⟩
theorem nC(n:Int):fB.clip n=jj n:=by
 unfold fB.clip jj
 rfl
theorem M4{C:cV}{x:V}(h:Gn x):Gn (x.fin C):=fun e he=>by
 have he:e∈x.v.es.map (fo C.gens):=he;obtain⟨f,hf,rfl⟩:=List.mem_map.1 he;have:=h f hf;unfold fo
 split
 .split
  .exact this
  .show 1<=f.gen+1;omega
 .exact this
theorem yn{w:World}{C:cV}{E:Env}{c:cF}{ws:List Int}{N:Int}{x:V}(L:Lk C E c)(h:Hv w C E c ws N x)(ha:x.v.act=true):ak 226 #[af (aj (E.A 26))] w fun e w'=>e=ae (.tuple #[])/\∃cR,fF w w' C E c ws N (x.fin C) 0 cR:=by
 obtain⟨s,G,hp,r,gn⟩:=h;have hK:C.K.Ok:=by rw[L.cK];exact L.e.K
 have ph:s.phase≠0:=by
  have:=r.act;rw[ha] at this;exact of_decide_eq_true this.symm
 have c7:=hp.cells.2.1;have I:=r.I;rw[L.cK] at I;have hd:ny E.K s G:=by rw[←L.cK];exact Rp.hd hK r
 have dF:=CP L.e hp.cp I hd ph;have D1:Hid (∀w1 fS s1,Fin w w1 E ws s N G fS s1→s1.phase=3→∃z:Int,w1.cell? (aj (E.A 26) 9)=some (U z)/\w1.frozen? (aj (E.A 26) 9)=false/\∀y:Int,(w1.setCell (aj (E.A 26) 9) (U y)).cell? (aj (E.A 26) 7)=some (af (aj (E.A 25)))/\ak 267 #[af (aj (E.A 25))] (w1.setCell (aj (E.A 26) 9) (U y)) fun e w2=>∃f r:Int,e=ae (.tuple #[U f,U r,U 0])/\w2.cell? (aj (E.A 26) 8)=some (af (aj (E.A 27)))/\ak 268 #[af (aj (E.A 27))] w2 fun e w3=>∃z:Int,e=ae (U z)/\Hid (∃cR,fF w w3 C E c ws N (x.fin C) 0 cR)):=bU (fun w1 fS s1 hF h3=>by
  have h1:=hp.gY L hF.ch (by decide) hF.cy;obtain⟨-,-,-,z,z1,z2⟩:=h1.cells;refine⟨z,z1,z2,fun y=>?_⟩;have h2:=h1.work L y;have I1:Inv C.K s1 G:=by rw[L.cK];exact hF.inv
  have r1:Rp C s1 G x:=r.same I1 (by rw[L.cK];exact hF.vs);have hu:s1.used=(fE E.K.size s1.T E.K.n:Nat):=by rw[←r1.used,←r1.T,←L.cK];exact r1.ok.us
  refine⟨h2.cells.2.1,(ye L.e h2.cp hF.inv h3 L.sz hu).mono ?_⟩;rintro e w2 ⟨f,g,rfl,c2,k2⟩;have h4:=h2.gY L (k2.up (Om.of (l':=[3,5,6,7,20,22,24,25]) (by decide))) (by decide) c2;obtain⟨p,p1,p2⟩:=h4.pc;refine⟨f,g,rfl,h4.cells.2.2.1,(GK w2 (E.A 27) p p1 p2.g).mono ?_⟩;rintro e w3 ⟨rfl,q1,q2⟩;have et:Ac p false={p with ac:=false,si:=0,de:=0,cy:=fB.clip (p.cy+1)}:=by
   unfold Ac;rw[if_neg (by rw[p2.ac,ha];simp)]
   rfl
  rw[et] at q1;have gd:=p2.g;have h5:=h4.Ko L q2 q1 (C:=C) (N9:=0) (Oa:=jj (x.cy+1)) (Oc:=false) ⟨{gd with P3:=Int.le_refl 0,P4:=by have:=gd.GD;show(0:Int)<p.tr;omega,de:=⟨Int.le_refl 0,by show(0:Int)<=4611686018427387904;decide⟩,cy:=yi.clip _},p2.tr,rfl,by show fB.clip (p.cy+1)=_;rw[nC,p2.cy],rfl⟩;have rf:=r1.fin h3 (u:=(fE C.K.size (fun y=>s1.T y&& !G y) C.K.n:Nat)) rfl;rw[L.cg,L.cK] at rf;refine⟨_,rfl,bU ⟨fS,⟨_,_,by rw[Int.add_zero];exact h5,rf,M4 gn⟩,hF.rg,?_⟩⟩;exact(((hF.ch.up (Om.up (by decide))).trans ((qJ 9 _).up (mx (by decide)))).trans (k2.up (mx (by decide)))).trans ((wi q2).up (mx (by decide))))
 clear hp r hd I;go_enter func226,ntmps226;go_wp2_with (first
  | (go_at_call 266;(with_reducible refine dF.mono ?_);rintro e w1 ⟨n,fS,s1,rfl,hF,h3⟩;obtain⟨z,y9,f9,dY⟩:=D1.out w1 fS s1 hF h3;have DY:=bU dY;have y7:=fun y=>(DY.out y).1;clear hF h3 dY)
  | (go_at_call 267;(with_reducible refine(DY.out _).2.mono ?_);rintro e w2 ⟨f,g,rfl,y8,dE⟩;clear y7)
  | (go_at_call 268;(with_reducible refine dE.mono ?_);rintro e w2 ⟨z,rfl,hZ⟩))
 go_end0
 exact⟨rfl,hZ.out⟩
end Hp
namespace Ca
open Go.RowKit Go.bZ Go.Proofs.YtgblmelijlgimaaGreatDoor.Fd
set_option maxHeartbeats 1000000 in
theorem xN(w:World)(t i g:Nat)(ht:t<256)(hi:i<16777216)(hg:g<4294967296)(O0:1<=g):
  ak 237 #[.agg #[U t,U i,.int .u32 g]] w fun e w'=>e=ae (.tuple #[aa (v7 t i g:Nat),U 0])/\Below w.heap.size w w':=by
 have dj:Below w.heap.size w (w.alloc (.cells #[U t,U i,.int .u32 g] 245)):=(bV _ w).alloc (av _) _;have df:=MW _ (w.heap.size+1) t i _ ht hi (iI w (.cells #[U t,U i,.int .u32 g] 245) #[U t,U 8,U i,U 24] 3);have hz:((g:Int)==0)=false:=by rw[aA];omega
 have HX:Hid (∀W,Below (w.heap.size+1+1) ((w.alloc (.cells #[U t,U i,.int .u32 g] 245)).alloc (.cells #[U t,U 8,U i,U 24] 3)) W→W.cell? (aj w.heap.size)=some (U t)/\W.cell? (aj w.heap.size 1)=some (U i)/\W.cell? (aj w.heap.size 2)=some (.int .u32 g)):=bU (fun W hW=>⟨(hW.cell (p:=⟨w.heap.size,0,none⟩) (by show w.heap.size<w.heap.size+1+1;omega)).trans (fq (eX w _ _ 0) _),(hW.cell (p:=⟨w.heap.size,1,none⟩) (by show w.heap.size<w.heap.size+1+1;omega)).trans (fq (eX w _ _ 1) _),(hW.cell (p:=⟨w.heap.size,2,none⟩) (by show w.heap.size<w.heap.size+1+1;omega)).trans (fq (eX w _ _ 2) _)⟩);have u0:Hid (IntKind.u64.wrap (g:Int)=g):=bU (by rw[IntKind.wrap_u64];omega);have u1:Hid (IntKind.u64.wrap (i:Int)=i):=bU (by rw[IntKind.wrap_u64];omega);have u2:Hid (IntKind.u64.wrap (t:Int)=t):=bU (by rw[IntKind.wrap_u64];omega);have hv:∀j,j<3→[g,i,t].getD j 0<2^([32,24,8].getD j 0):=fun j hj=>by
  match j,hj with
  | 0,_=>exact hg
  | 1,_=>exact hi
  | 2,_=>exact ht
 have D1:Hid (∀W:World,ak 280 #[ai (aj W.heap.size) 3 3,ai (aj (W.heap.size+1)) 3 3] ((W.alloc (.cells #[U 32,U 24,U 8] 3)).alloc (.cells #[aa (IntKind.u64.wrap (g:Int)),aa (IntKind.u64.wrap (i:Int)),aa (IntKind.u64.wrap (t:Int))] 36)).drew fun e w'=>e=ae (.tuple #[aa (v7 t i g:Nat),U 0])/\Below W.heap.size W w'):=bU (fun W=>by
  rw[u0.out,u1.out,u2.out];exact(qV _ W.heap.size 0 3 (W.heap.size+1) 0 3 [32,24,8] [g,i,t] (by decide) (by decide) (by decide) (by decide) rfl hv (fun j hj=>by
   match j,hj with
   | 0,_|1,_|2,_=>exact fq (eX W _ _ _) _) (fun j hj=>by
   match j,hj with
   | 0,_|1,_|2,_=>exact(iI W _ _ _).cell _)).mono (fun e w' h=>⟨h.1,fj ((bV _ W).alloc (av _) _) (fj (((bV _ _).alloc (av _) _).drew) h.2)⟩))
 have D2:Hid (∀W:World,ak 280 #[ai (aj (W.heap.size+1)) 3 3,ai (aj W.heap.size) 3 3] ((W.alloc (.cells #[aa (IntKind.u64.wrap (g:Int)),aa (IntKind.u64.wrap (i:Int)),aa (IntKind.u64.wrap (t:Int))] 36)).alloc (.cells #[U 32,U 24,U 8] 3)).drew fun e w'=>e=ae (.tuple #[aa (v7 t i g:Nat),U 0])/\Below W.heap.size W w'):=bU (fun W=>by
  rw[u0.out,u1.out,u2.out];exact(qV _ (W.heap.size+1) 0 3 W.heap.size 0 3 [32,24,8] [g,i,t] (by decide) (by decide) (by decide) (by decide) rfl hv (fun j hj=>by
   match j,hj with
   | 0,_|1,_|2,_=>exact(iI W _ _ _).cell _) (fun j hj=>by
   match j,hj with
   | 0,_|1,_|2,_=>exact fq (eX W _ _ _) _)).mono (fun e w' h=>⟨h.1,fj ((bV _ W).alloc (av _) _) (fj (((bV _ _).alloc (av _) _).drew) h.2)⟩))
 generalize v7 t i g=r at *;have HB:=bU dj;clear dj hv;go_enter func237,ntmps237;go_wp2_with (go_at_call 279;refine df.mono ?_;rintro e w2 ⟨rfl,cN⟩;obtain⟨y0,y1,y2⟩:=HX.out _ (cN.mono (by simp)))
 have z0:=fun o=>fq y0 o
 have z1:=fun o=>fq y1 o
 have z2:=fun o=>fq y2 o
 have kM:=bU (bT HB.out (fj ((bV _ _).alloc (av _) _) cN) (by simp));have KX:=bU (fun(W:World) (hW:Below w2.heap.size w2 W)=>And.intro ((hW.cell (p:=⟨w.heap.size,0,none⟩) (World.block_lt_of_cell? w2 _ y0)).trans y0) (And.intro ((hW.cell (p:=⟨w.heap.size,1,none⟩) (World.block_lt_of_cell? w2 _ y1)).trans y1) ((hW.cell (p:=⟨w.heap.size,2,none⟩) (World.block_lt_of_cell? w2 _ y2)).trans y2)));clear cN df HX;clear u0 u1 u2;go_region_held3 (fun w'=>w'.cell? (aj w.heap.size)=some (U t)/\w'.cell? (aj w.heap.size 1)=some (U i)/\w'.cell? (aj w.heap.size 2)=some (.int .u32 g)) (first|trivial|go_keep)
  (first|(go_at_call 198;refine(j7 _).mono ?_;rintro e w3 ⟨rfl,rfl⟩)|(go_at_call 280;first|((with_reducible refine(D1.out w2).mono ?_);rintro e w3 ⟨rfl,dJ⟩;obtain⟨q0,q1,q2⟩:=KX.out w3 dJ)|((with_reducible refine(D2.out w2).mono ?_);rintro e w3 ⟨rfl,dJ⟩;obtain⟨q0,q1,q2⟩:=KX.out w3 dJ)))
 all_goals
  go_wp2_with fail
  go_ret2
  exact⟨rfl,fj kM.out dJ⟩
end Ca
namespace Hp
open Go.RowKit Go.bZ Go.Gc Go.Cf Cn Go.Proofs.YtgblmelijlgimaaGreatDoor.Fd Sl Bd Ca Hd Tb Mk Sw Cy
theorem fF.none{w w':World}{C:cV}{E:Env}{c:cF}{ws:List Int}{N:Int}{x:V}(L:Lk C E c)(h:Hv w C E c ws N x)(hb:Below w.heap.size w w'):fF w w' C E c ws N x 0 ws:=⟨by rw[Int.add_zero];exact h.cA L hb,nc.refl _ _ _,cu.cD hb⟩
theorem fF.trans{a b d:World}{C:cV}{E:Env}{c:cF}{ws fS jG:List Int}{N n m:Int}{x1 x2:V}(h:fF a b C E c ws N x1 n fS)(k:fF b d C E c fS (N+n) x2 m jG):fF a d C E c ws N x2 (n+m) jG:=⟨by rw[←Int.add_assoc];exact k.hv,h.rg.trans k.rg,h.ch.trans k.ch⟩
theorem Lk.P7{C:cV}{E:Env}{c:cF}(L:Lk C E c):E.tn<8:=aB L.tl L.k.t8
theorem Rp.uP{C:cV}{E:Env}{c:cF}(L:Lk C E c){s:St}{G:Nat→Bool}{x:V}(r:Rp C s G x):Inv E.K s G:=by have:=r.I;rwa [L.cK] at this
theorem Kp{C:cV}{x:V}(h:Gn x)(y:Nat)(hf:0<ek x.v.es):Gn (ia C x y):=fun e he=>by
 obtain⟨e0,h1,-,-⟩:=kF hf;have he:e∈x.v.es.set (ir x.v.es) ⟨1,y,(x.v.es.getD (ir x.v.es) ⟨0,0,0⟩).gen⟩:=he;rcases aZ he with he|rfl
 .exact h e he
 .rw[ao,h1]
  exact h e0 (aH h1)
theorem Ad{w:World}{C:cV}{E:Env}{c:cF}{ws:List Int}{N:Int}{x:V}(L:Lk C E c)(h:Hv w C E c ws N x){y:Nat}(hT:x.v.T y=true)(hG:x.v.G y=false)(hf:0<ek x.v.es):ak 183 #[af (aj (E.A 26)),U y] w fun e w'=>e=ae (aa (iC C x))/\fF w w' C E c ws N (ia C x y) 0 ws:=by
 obtain⟨s,G,hp,r,gn⟩:=h;have hy:iy s G y:=⟨by rw[←r.T];exact hT,by rw[←r.G];exact hG⟩;have hfs:0<ek s.es:=by rw[←r.es];exact hf
 obtain⟨e0,M5,-,-⟩:=kF hfs;have I:=Rp.uP L r;have hyn:y<E.n:=I.tn y hy.1;have n2:=L.e.n2;have hl:=(au.1 M5).1;have hlE:s.es.length=E.L:=hp.cp.co.mp.el;have L2:=L.e.L2;have hg:=hp.cp.co.mp.tb.gen e0 (aH M5);have P8:1<=e0.gen:=gn e0 (by rw[r.es];exact aH M5);have P7:=L.P7;obtain⟨c6,c7,-⟩:=hp.cells;have dT:=mO hp.cp;have dM:=JQ hp.cp.co.mp.tb hfs y (by omega) M5;have eW:iC C x=(v7 E.tn (ir s.es) e0.gen:Nat):=by
  unfold iC;rw[L.ch,r.es,ao,M5]
  rfl
 have D1:Hid (∀w1,eP w1 (E.A 6) (E.A 7) (s.es.set (ir s.es) ⟨1,y,e0.gen⟩) E.gens→cu (fun k=>k=E.A 6\/k=E.A 7) w w1→w1.cell? (aj (E.A 26) 6)=some (U E.tn)/\ak 237 #[.agg #[U E.tn,U (ir s.es),.int .u32 e0.gen]] w1 fun e w2=>e=ae (.tuple #[aa (v7 E.tn (ir s.es) e0.gen:Nat),U 0])/\Hid (fF w w2 C E c ws N (ia C x y) 0 ws)):=bU (fun w1 t1 k1=>by
  obtain⟨h1,k1⟩:=hp.cp.QU L.e k1 t1 (by rw[aI];exact hlE);have h2:=hp.gY L (k1.up (Om.of (l':=[6,7]) (by decide))) (by decide) h1;refine⟨h2.cells.1,(Ca.xN w1 E.tn (ir s.es) e0.gen (by omega) (by omega) hg.1 P8).mono ?_⟩;rintro e w2 ⟨rfl,hb⟩;refine⟨rfl,bU ⟨?_,nc.refl _ _ _,(k1.up (mx (by decide))).bl hb⟩⟩;rw[Int.add_zero];exact⟨_,G,h2.cA L hb,r.Q6 hy hfs M5,Kp gn y hf⟩)
 rw[eW];clear hp r gn I hf hT hG hy hfs M5 hg L;go_enter func183,ntmps183;go_wp2_with (first
  | (go_at_call 145;(with_reducible refine dT.mono ?_);rintro e w1 ⟨rfl,rfl⟩)
  | (go_at_call 236;(with_reducible refine dM.mono ?_);rintro e w1 ⟨rfl,t1,k1⟩;obtain⟨y6,dP⟩:=D1.out w1 t1 k1;clear t1 k1)
  | (go_at_call 237;(with_reducible refine dP.mono ?_);rintro e w2 ⟨rfl,hZ⟩))
 go_ret;exact⟨rfl,hZ.out⟩
theorem rL(es:List eG)(i g:Nat):nameOf es (i:Int) g=jD es i g:=by
 unfold nameOf jD;rw[if_neg (by omega),aG]
 cases es[i]? <;> rfl
def jl(o:Option (Nat×eG)):Int×Bool:=match o with|some (_,e)=>((e.slot:Int),true)|none=>(0,false)
theorem iK{w:World}{C:cV}{E:Env}{c:cF}{ws:List Int}{s:St}{N si cy:Int}{ac:Bool}(L:Lk C E c)(h:nB w C E c ws s N si cy ac){x:V}(hes:x.v.es=s.es){z:Int}(iX:0<=z)(jm:z<18446744073709551616):ak 108 #[af (aj (E.A 26)),aa z] w fun e w'=>e=ae (.tuple #[U (jl (fP C x z)).1,.bool (jl (fP C x z)).2])/\Below w.heap.size w w':=by
 obtain⟨X,rfl⟩:∃X:Nat,z=X:=⟨z.toNat,by omega⟩;have hx:X<18446744073709551616:=by omega
 have P7:=L.P7;have e2:((dy X 56 8:Nat):Int)=((E.tn:Nat):Int)↔dy X 56 8=E.tn:=by omega
 by_cases h0:dy X 0 32=0
 .have dG:=GC w X hx h0
  have eS:fP C x (X:Int)=none:=by
   unfold fP;rw[L.cr];unfold OY;rw[aG,if_neg (fun h=>h.1 h0)]
  rw[eS];have HB:Hid (∀w1:World,Below w.heap.size w w1→Below w.heap.size w (w1.alloc (.cells #[U 0,U 0,.int .u32 0] 245))):=bU (fun w1 hb=>bA hb (av _) _);clear h hes;go_enter func108,ntmps108;go_wp2_with (go_at_call 144;(with_reducible refine dG.mono ?_);rintro e w1 ⟨rfl,hb⟩;have H1:=bU (HB.out w1 hb);clear hb)
  go_quiet (fail)
  go_wp2_with fail
  go_ret2
  exact⟨rfl,jh H1.out _⟩
 .have dG:=get_some w X hx h0
  obtain⟨t,ht⟩:=al (dy X 56 8);obtain⟨i,hi⟩:=al (dy X 32 24);obtain⟨g,hg⟩:=al (dy X 0 32);have Rc:g<4294967296:=by rw[←hg];unfold dy;exact Nat.mod_lt _ (by decide)
  have eS:fP C x (X:Int)=if t=E.tn then(jD s.es i g).map (fun e=>(i,e)) else none:=by
   unfold fP;rw[L.cr];unfold OY;rw[aG,ht,hi,hg,hes];by_cases c:t=E.tn
   .rw[if_pos c,if_pos ⟨by rw[←hg];exact h0,c⟩]
   .rw[if_neg c,if_neg (fun h=>c h.2)]
  rw[ht,hi,hg] at dG;rw[eS];have HB:Hid (∀w1 W:World,Below w.heap.size w w1→w1.alloc (.cells #[U t,U i,.int .u32 g] 245)=W→(W.cell? (aj w1.heap.size)=some (U t)/\W.cell? (aj w1.heap.size 1)=some (U i)/\W.cell? (aj w1.heap.size 2)=some (.int .u32 g)/\W.cell? (aj (E.A 26) 6)=some (U E.tn)/\W.cell? (aj (E.A 26) 7)=some (af (aj (E.A 25))))/\Hid ((∀n,ak 145 #[af (aj (E.A 25))] (W.drewN n) fun e w'=>e=ae (af (aj (E.A 6)))/\W.drewN n=w')/\(∀n,ak 146 #[af (aj (E.A 6)),U i,.int .u32 g] (W.drewN n) fun e w'=>e=ae (.tuple #[U (jl ((jD s.es i g).map (fun e=>(i,e)))).1,U (if(jD s.es i g).isSome then 0 else 130)])/\W.drewN n=w')/\Below w.heap.size w W)):=bU (fun w1 W hb hW=>by
   subst hW;have hB:=bA hb (av _) (.cells #[U t,U i,.int .u32 g] 245);have h1:=h.cA L hB;have N0:=cj.new w1 #[U t,U i,.int .u32 g] 245;refine⟨⟨N0.cell 0,N0.cell 1,N0.cell 2,h1.cells.1,h1.cells.2.1⟩,bU ⟨fun n=>mO (h1.cA L (jh (bV _ _) n)).cp,fun n=>?_,hB⟩⟩;have tb:=(h1.cA L (jh (bV _ _) n)).cp.co.mp.tb
   cases hn:jD s.es i g with
   | some e=>exact vE tb i g e (by rw[rL];exact hn)
   | none=>exact JE tb i g Rc (by rw[rL];exact hn))
  clear h hes eS ht hi hg e2;by_cases ct:t=E.tn
  .have e1:((t:Int) != (E.tn:Int))=false:=by rw[ct];simp
   rw[if_pos ct];have HF:Hid (((((if(jD s.es i g).isSome then(0:Int) else 130))==0))=(jl ((jD s.es i g).map (fun e=>(i,e)))).2):=bU (by cases jD s.es i g <;> rfl);clear ct L;generalize (jl ((jD s.es i g).map (fun e=>(i,e)))).1=sv at *;generalize (jl ((jD s.es i g).map (fun e=>(i,e)))).2=sb at *;generalize (if(jD s.es i g).isSome then(0:Int) else 130)=er at *;go_enter func108,ntmps108;go_wp2_with (go_at_call 144;(with_reducible refine dG.mono ?_);rintro e w1 ⟨rfl,hb⟩;obtain⟨W,hW⟩:=al (w1.alloc (.cells #[U t,U i,.int .u32 g] 245));obtain⟨⟨b0,b1,b2,b6,b7⟩,hZ⟩:=HB.out w1 W hb hW;clear hb)
   clear hW dG
   go_quiet (fail)
   go_wp2_with fail
   go_quiet ((first|(go_at_call 145;exact iE (hZ.out.1 _))|(go_at_call 146;exact iE (hZ.out.2.1 _))))
   go_wp2_with fail
   go_ret2
   exact⟨by rw[←HF.out];rfl,jh hZ.out.2.2 _⟩
  .have e1:((t:Int) != (E.tn:Int))=true:=by rw[bne_iff_ne];omega
   rw[if_neg ct];clear ct L;go_enter func108,ntmps108;go_wp2_with (go_at_call 144;(with_reducible refine dG.mono ?_);rintro e w1 ⟨rfl,hb⟩;obtain⟨W,hW⟩:=al (w1.alloc (.cells #[U t,U i,.int .u32 g] 245));obtain⟨⟨b0,b1,b2,b6,b7⟩,hZ⟩:=HB.out w1 W hb hW;clear hb)
   clear hW dG
   go_quiet (fail)
   go_wp2_with fail
   go_ret2
   exact⟨rfl,jh hZ.out.2.2 _⟩
end Hp
end Go.Proofs.YtgblmelijlgimaaGreatDoor
