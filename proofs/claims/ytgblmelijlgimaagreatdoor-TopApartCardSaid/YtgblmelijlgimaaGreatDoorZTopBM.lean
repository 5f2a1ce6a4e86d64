/- Parts of the proof of TopApart. -/
import Derived.Test.YtgblmelijlgimaaGreatDoorZTopBL
set_option maxRecDepth 100000
namespace Go.Proofs.YtgblmelijlgimaaGreatDoor
open Go.Proofs.Tryz
namespace Hp
open Go.RowKit Go.bZ Go.Gc Go.Cf Cn Go.Proofs.YtgblmelijlgimaaGreatDoor.Fd Sl Bd Ca Hd Tb Mm Mk Sw Cy
theorem Hs{bs:List Nat}(h:∀i,i+1<bs.length→bs.getD i 0<bs.getD (i+1) 0):∀d i,i+d<bs.length→bs.getD i 0<=bs.getD (i+d) 0
 | 0,i,_=>av _
 | d+1,i,hd=>by
   have h1:=Hs h d i (by omega);have h2:=h (i+d) (by omega);rw[show i+(d+1)=i+d+1 by omega];omega
theorem Dh{bs:List Nat}{t t2:Nat}{ws cR:List Int}(h:∀i,i+1<bs.length→bs.getD i 0<bs.getD (i+1) 0)(ht:t+1<bs.length)(SK:t2+1<bs.length)(hne:t≠t2)(r:nc bs t2 ws cR){a:Nat}(ha:bs.getD t 0+a<bs.getD (t+1) 0):at' bs t cR a=at' bs t ws a:=by
 have e:cR[bs.getD t 0+a]?=ws[bs.getD t 0+a]?:=r.2 _ (by
  rcases Nat.lt_trichotomy t t2 with k|k|k
  .left
   have:=Hs h (t2-(t+1)) (t+1) (by omega);rw[show t+1+(t2-(t+1))=t2 by omega] at this;omega
  .exact absurd k hne
  .right
   have:=Hs h (t-(t2+1)) (t2+1) (by omega);rw[show t2+1+(t-(t2+1))=t by omega] at this;omega)
 show cR.getD (bs.getD t 0+a) 0=ws.getD (bs.getD t 0+a) 0;generalize bs.getD t 0+a=j at e ⊢;rw[ao,ao,e]
structure Ht(E E2:Env):Prop where
 ne:∀i j,i<30→j<28→E.A i≠E2.A j
 mem:E2.mp=E.mp/\E2.mw=E.mw/\E2.mb=E.mb/\E2.cO=E.cO/\E2.bs=E.bs
 tn:E.tn≠E2.tn
theorem Hv.other{w w':World}{C C2:cV}{E E2:Env}{c c2:cF}{ws cR:List Int}{N N2 n:Int}{x x2:V}(L:Lk C E c)(L2:Lk C2 E2 c2)(h:Hv w C E c ws N x)(a:fF w w' C2 E2 c2 ws N2 x2 n cR)(ap:Ht E E2):Hv w' C E c cR N x:=by
 obtain⟨s,G,hp,r,gn⟩:=h;obtain⟨m1,m2,m3,m4,m5⟩:=ap.mem;have no:∀i,i<30→¬Om E2 Hl (E.A i):=fun i hi hk=>by
  rcases hk with hk|⟨j,hj,e⟩
  .rw[m2] at hk
   exact L.e.mw i (by omega) hk
  .exact ap.ne i j hi (List.mem_range.1 hj) e
 have nA:∀k,k≠E2.mw→(∀j,j<64→E2.A j≠k)→¬Om E2 Hl k:=fun k h1 h2 hk=>by
  rcases hk with hk|⟨j,hj,e⟩
  .exact h1 hk
  .exact h2 j (by have:=List.mem_range.1 hj;omega) e.symm
 have f1:¬Om E2 Hl E.mp:=nA _ (by rw[m2];exact Ne.symm L.e.w1) (fun j hj=>by rw[←m1];exact L2.e.mp j hj);have f3:¬Om E2 Hl E.mb:=nA _ (by rw[m2];exact Ne.symm L.e.w2) (fun j hj=>by rw[←m3];exact L2.e.mb j hj);have f4:¬Om E2 Hl 0:=nA _ (by rw[m2];exact Ne.symm L.e.w3) (fun j hj=>L2.e.o0 j hj);have f5:¬Om E2 Hl 2:=nA _ (by rw[m2];exact Ne.symm L.e.w4) (fun j hj=>L2.e.o2 j hj);have hc:=a.ch;obtain⟨s2,G2,po,-,-⟩:=a.hv;have mm:fI w' E.mp E.mw E.mb E.cO E.bs cR:=by
  have:=po.cp.co.mp.cx.mm;have this:fI w' E2.mp E2.mw E2.mb E2.cO E2.bs cR:=this
  rwa [m1,m2,m3,m4,m5] at this
 have SK:E2.tn+1<E.bs.length:=by rw[←m5];exact po.cp.co.mp.cx.ht
 have g:=hp.cp.co;have q:=g.mp;have x0:=q.cx;have cx:Cx w' E.c cR:=⟨cj.bY x0.bd hc (no 0 (by omega)),x0.pl.bY hc (no 1 (by omega)) (no 2 (by omega)),mm,x0.gw.bY hc f4,x0.ok,x0.ht,x0.hr,x0.n1,x0.n2⟩;have rg:nc E.bs E2.tn ws cR:=by rw[←m5];exact a.rg
 have hm:∀b,b<E.pg*E.pw→s.M b=at' E.bs E.tn cR b:=fun b hb=>by
  have hr:E.bs.getD (E.tn+1) 0=E.bs.getD E.tn 0+E.pg*E.pw:=x0.hr;have:=Dh (t:=E.tn) mm.up x0.ht SK ap.tn rg (a:=b) (by omega);rw[this];exact q.mem b hb
 obtain⟨z0,b0⟩:=q.b0;have mk:cY w' E cR s N:=⟨cx,hm,q.tb.bY hc (no 6 (by omega)) (no 7 (by omega)),q.el,q.pn.bY hc (no 8 (by omega)) (no 9 (by omega)) (no 10 (by omega)) (no 11 (by omega)),q.cl,ib q.tn hc (no 12 (by omega)) (no 13 (by omega)),q.gy.bY hc (fun k hk=>by rcases hk with rfl|rfl|rfl|rfl|rfl|rfl <;> exact no _ (by omega)),⟨z0,b0.bY hc (no 20 (by omega))⟩,q.b1.bY hc (no 21 (by omega)),q.hl,iQ q.de q.d2 hc f5,aB q.d2 hc.size⟩;obtain⟨z,b⟩:=hp.b;obtain⟨z2,b2⟩:=hp.cp.cy;obtain⟨p,p1,p2⟩:=hp.pc;exact⟨s,G,⟨⟨⟨mk,g.ar.bY hc (no 3 (by omega)) (no 4 (by omega)) (no 5 (by omega)),g.sb.bY hc (no 22 (by omega)),g.rw.bY hc (no 23 (by omega)) (no 24 (by omega))⟩,z2,b2.bY hc (no 25 (by omega))⟩,⟨z,b.bY hc (no 26 (by omega))⟩,⟨p,Pc.rJ p1 hc (no 27 (by omega)),p2⟩,hp.cf.bY L.k hc (by rw[L.gc];exact no 28 (by omega)) (by rw[L.gt];exact no 29 (by omega))⟩,r,gn⟩
end Hp
namespace Fm
open Go.RowKit Go.bZ Go.Gc Go.Cf Cn Hp
structure Am(w:World)(f gh cap:Nat)(c:cF)(mp:Nat)(hs:List Nat):Prop where
 b:cj w f #[ai (aj c.gc c.oc) c.cl.length c.cc,U c.cB,ai (aj c.gt c.ot) c.ts.length c.ct,U c.wk,U c.gy,U c.gn,af (aj mp),ai (aj gh) hs.length cap] 81
 hp:∀i,i<hs.length→w.cell? (aj gh i)=some (af (aj (hs.getD i 0)))
 gl:gh<w.heap.size
theorem Am.bY{S:Nat→Prop}{w w':World}{f gh cap:Nat}{c:cF}{mp:Nat}{hs:List Nat}(h:Am w f gh cap c mp hs)(hc:cu S w w')(h1:¬S f)(h2:¬S gh):Am w' f gh cap c mp hs:=⟨h.b.bY hc h1,fun i hi=>(World.cell?_of_block (w:=w) (hc.block _ h.gl h2)).trans (h.hp i hi),aB h.gl hc.size⟩
theorem Am.cA{w w':World}{f gh cap:Nat}{c:cF}{mp:Nat}{hs:List Nat}(h:Am w f gh cap c mp hs)(hb:Below w.heap.size w w'):Am w' f gh cap c mp hs:=h.bY (cu.cD hb) (S:=fun _=>False) id id
theorem cC{w:World}{f gh cap:Nat}{c:cF}{mp:Nat}{hs:List Nat}(h:Am w f gh cap c mp hs):ak 51 #[af (aj f)] w fun e w'=>e=ae (.bool false)/\w=w':=by
 have c6:w.cell? (aj f 6)=some (af (aj mp)):=h.b.cell 6;clear h;go_enter func51,ntmps51;go_wp2_with fail;go_ret;exact⟨rfl,rfl⟩
def gH(hs:List Nat)(i:Int):Value:=if 0<=i/\i<(hs.length:Int) then af (aj (hs.getD i.toNat 0)) else af none
theorem Nv{w:World}{f gh cap:Nat}{c:cF}{mp:Nat}{hs:List Nat}(h:Am w f gh cap c mp hs)(i:Int):ak 72 #[ai (aj gh) hs.length cap,U i] w fun e w'=>e=ae (gH hs i)/\w=w':=by
 by_cases h0:0<=i
 .by_cases h1:i<(hs.length:Int)
  .obtain⟨n,rfl⟩:∃n:Nat,i=n:=⟨i.toNat,by omega⟩
   have cn:=h.hp n (by omega);have e:gH hs n=af (aj (hs.getD n 0)):=by unfold gH;rw[if_pos ⟨h0,h1⟩,aG]
   rw[e];generalize hs.getD n 0=p at *;have e0:decide ((0:Int)<=(n:Int))=true:=aw h0;have e1:decide ((n:Int)<(hs.length:Int))=true:=aw h1;clear h e;go_enter func72,ntmps72;go_wp2_with fail;go_ret;exact⟨rfl,rfl⟩
  .have e:gH hs i=af none:=by unfold gH;rw[if_neg (by omega)]
   rw[e];have e0:decide ((0:Int)<=i)=true:=aw h0;have e1:decide (i<(hs.length:Int))=false:=az h1;clear h e;go_enter func72,ntmps72;go_wp2_with fail;go_ret;exact⟨rfl,rfl⟩
 .have e:gH hs i=af none:=by unfold gH;rw[if_neg (by omega)]
  rw[e];have e0:decide ((0:Int)<=i)=false:=az h0;clear h e;go_enter func72,ntmps72;go_wp2_with fail;go_ret;exact⟨rfl,rfl⟩
theorem oD{w:World}{f gh cap:Nat}{c:cF}{mp:Nat}{hs:List Nat}(h:Am w f gh cap c mp hs)(i:Int):ak 49 #[af (aj f),U i] w fun e w'=>e=ae (gH hs i)/\w=w':=by
 have dN:=cC h;have dA:=Nv h i;have c7:w.cell? (aj f 7)=some (ai (aj gh) hs.length cap):=h.b.cell 7;clear h;generalize gH hs i=v at *;go_enter func49,ntmps49;go_wp2_with (first
  | (go_at_call 51;(with_reducible refine dN.mono ?_);rintro e w1 ⟨rfl,rfl⟩)
  | (go_at_call 72;(with_reducible refine dA.mono ?_);rintro e w1 ⟨rfl,rfl⟩))
 go_ret;exact⟨rfl,rfl⟩
theorem Hu(w:World)(i z:Int):ak 50 #[af none,U i,ab z] w fun e w'=>e=ae (.bool false)/\w=w':=by
 have dN:ak 73 #[af none] w fun e w'=>e=ae (.bool true)/\w=w':=by
  go_enter func73,ntmps73;go_wp2_with fail;go_ret;exact⟨rfl,rfl⟩
 go_enter func50,ntmps50;go_wp2_with (go_at_call 73;(with_reducible refine dN.mono ?_);rintro e w1 ⟨rfl,rfl⟩)
 go_ret;exact⟨rfl,rfl⟩
end Fm
end Go.Proofs.YtgblmelijlgimaaGreatDoor
namespace Go
theorem eZ{P:Program}{fn:Func}{p u:Tmp}{ty:TypeId}(h:fn.results=#[.cell p ty,.tmp u])(tmps:Array Value)(w:World)(g:Nat)(t:TypeId)(cs:Array Value)(fr:Nat×Nat)(d:TypeDesc)(v:Value)
 (hp:tmps.getD p undef=af (aj g))(hv:tmps.getD u undef=v)(hg:w.heap[g]?=some (.cells cs t fr))
 (hu:P.underlying ty=some d)(hd:(match d with| .struct _| .array _ _=>true|_=>false)=true)(hi:(P.info? ty).map (·.size)=some cs.size):
  (results fn tmps).run P w=.ok (.tuple #[.agg cs,v]) w:=by
 have LP:tmps[p]?.getD undef=af (aj g):=by simpa using hp
 have UL:tmps[u]?.getD undef=v:=by simpa using hv
 simp[results,h,LP,UL,asAddr,run_loadVar_row w g t ty cs fr d hg hu hd hi]
end Go
namespace Go.Proofs.YtgblmelijlgimaaGreatDoor
open Go.Proofs.Tryz
namespace Fm
open Go.RowKit Go.bZ Go.Gc Go.Cf Cn Hp Mk Sw Cy
theorem Nw{w:World}{f gh cap:Nat}{cc:cF}{mp:Nat}{hs:List Nat}(hF:Am w f gh cap cc mp hs){C:cV}{E:Env}{c:cF}{ws:List Int}{N:Int}{x:V}(L:Lk C E c)(hS:C.sum=sE)(h:Hv w C E c ws N x)(q:iJ)(hq:iJ.In q)(hN:N<999990){i:Int}(hi:gH hs i=af (aj (E.A 26))):ak 33 #[af (aj f),U i,.agg #[ab q.code,aa q.h,U q.a,U q.b,aa q.x]] w fun e w'=>e=ae (.tuple #[.agg (cX (jk C x q).2),U 0])/\∃cR,fF w w' C E c ws N (jk C x q).1 2 cR:=by
 obtain⟨W,hW⟩:=al ((w.alloc (.cells #[ab q.code,aa q.h,U q.a,U q.b,aa q.x] 54)).alloc (.cells #[U 0,aa 0,aa 0,U 0,U 0,U 0,U 0,.bool false] 38));obtain⟨hB,bO,bS⟩:=(gG w q).out W hW;have hFW:=hF.cA hB;have dN:=cC hFW;have dH:=oD hFW i;rw[hi] at dH;have hvW:=h.cA L hB;have dD:ak 52 #[af (aj (E.A 26)),.agg #[ab q.code,aa q.h,U q.a,U q.b,aa q.x]] W fun e w2=>e=ae (.agg (cX (jk C x q).2))/\cj w2 (w.heap.size+1) eY 38/\Hid (∀s,cj (w2.setRow (w.heap.size+1) (cX s)) (w.heap.size+1) (cX s) 38/\∃cR,fF w (w2.setRow (w.heap.size+1) (cX s)) C E c ws N (jk C x q).1 2 cR):=by
  refine(Ak L hS hvW q hq hN).mono ?_;rintro e w2 ⟨rfl,jG,a⟩;have a2:fF w w2 C E c ws N (jk C x q).1 2 jG:=⟨a.hv,a.rg,(cu.cD hB).trans a.ch⟩;obtain⟨t1,t2⟩:=a2.told L h (by omega) (bS.bY a.ch (iF L h (by omega))) (bV _ _);exact⟨rfl,t1,t2⟩
 generalize (jk C x q).2=s at *;generalize (jk C x q).1=x1 at *;clear h L hS hF hFW hvW bS hB hq hN hi;go_enter func33,ntmps33;go_wp2_with (first
  | (go_at_call 51;(with_reducible refine dN.mono ?_);rintro e w1 ⟨rfl,rfl⟩)
  | (go_at_call 49;(with_reducible refine dH.mono ?_);rintro e w1 ⟨rfl,rfl⟩)
  | (refine wpList_load_row rfl _ _ rfl w.heap.size rfl 54 #[ab q.code,aa q.h,U q.a,U q.b,aa q.x] (0,0) _ bO underlying54 rfl (by kernel_rfl) ?_)
  | (go_at_call 52;(with_reducible refine dD.mono ?_);rintro e w2 ⟨rfl,bz,hZ⟩)
  | (refine wpList_store_row rfl _ _ _ rfl (w.heap.size+1) (cX s) rfl rfl 38 eY bz cG rfl (eE _) ?_))
 refine bodyPost_ret (eZ rfl _ _ (w.heap.size+1) 38 (cX s) (0,0) _ _ rfl rfl (hZ.out _).1 underlying38 rfl cG) rfl ?_;exact⟨rfl,(hZ.out _).2⟩
theorem Hw{w:World}{f gh cap:Nat}{cc:cF}{mp:Nat}{hs:List Nat}(hF:Am w f gh cap cc mp hs){C:cV}{E:Env}{c:cF}{ws:List Int}{N:Int}{x:V}(L:Lk C E c)(h:Hv w C E c ws N x)(k i:Int){z:Int}(iX:0<=z)(jm:z<256)(hi:gH hs i=af (aj (E.A 26))):ak 32 #[af (aj f),.agg #[U k,U i,ab z]] w fun e w'=>∃b,e=ae (.bool b)/\∃cR,fF w w' C E c ws N x 0 cR:=by
 obtain⟨W,hW⟩:=al (w.alloc (.cells #[U k,U i,ab z] 96));have hB:Below w.heap.size w W:=by rw[←hW];exact bA (bV _ _) (av _) _
 have b3:cj W w.heap.size #[U k,U i,ab z] 96:=by rw[←hW];exact cj.new _ _ _
 have c0:W.cell? (aj w.heap.size)=some (U k):=b3.cell 0;have c1:W.cell? (aj w.heap.size 1)=some (U i):=b3.cell 1;have c2:W.cell? (aj w.heap.size 2)=some (ab z):=b3.cell 2;have dH:=oD (hF.cA (hB.trans (bd (bV _ W) |>.mono hB.size))) i;rw[hi] at dH;have dS:ak 50 #[af (aj (E.A 26)),U k,ab z] W.drew fun e w2=>∃b,e=ae (.bool b)/\(w2.cell? (aj w.heap.size)=some (U k)/\w2.cell? (aj w.heap.size 1)=some (U i)/\w2.cell? (aj w.heap.size 2)=some (ab z))/\Hid (∃cR,fF w w2 C E c ws N x 0 cR):=by
  have uJ:Below w.heap.size w W.drew:=bd hB;refine(Hr L (h.cA L uJ) k iX jm).mono ?_;rintro e w2 ⟨b,rfl,jG,a⟩;have b4:cj w2 w.heap.size #[U k,U i,ab z] 96:=(b3.cA (bd (bV _ _))).bY a.ch (iF L h (av _));exact⟨b,rfl,⟨b4.cell 0,b4.cell 1,b4.cell 2⟩,bU ⟨jG,a.hv,a.rg,(cu.cD uJ).trans a.ch⟩⟩
 clear h L hF hB iX jm hi b3;go_enter func32,ntmps32;go_wp2_with fail;go_region_held3 (fun w'=>w'.cell? (aj w.heap.size)=some (U k)/\w'.cell? (aj w.heap.size 1)=some (U i)/\w'.cell? (aj w.heap.size 2)=some (ab z)) (first|(with_reducible exact⟨c0,c1,c2⟩)|(with_reducible exact x3)|go_keep)
  ((first
   | (go_at_call 49;refine dH.mono ?_;rintro e w6 ⟨rfl,rfl⟩)
   | (go_at_call 50;refine dS.mono ?_;rintro e w6 ⟨b,rfl,x3,hZ⟩)))
 all_goals
  go_wp2_with fail;go_ret;exact⟨_,rfl,hZ.out⟩
end Fm
namespace Mc
open Go.RowKit Go.bZ Go.Gc Hp
def eB(t:Int)(s:Sn):Array Value:=#[U t,U s.e,aa s.h,aa s.w,U s.addr,U s.used,U s.since,U s.gY,.bool s.ac]
theorem gx:(prog.info? 40).map (·.size)=some 9:=by kernel_rfl
theorem tG(w:World)(z:Int):ak 15 #[U z] w fun e w'=>e=ae (.agg (eB (-1) (Sn.told z)))/\Below w.heap.size w w':=by
 go_enter func15,ntmps15;go_wp2_with fail;refine bodyPost_ret (results_cell_row rfl _ _ w.heap.size 40 (eB (-1) (Sn.told z)) (0,0) _ rfl (cj.new w (eB (-1) (Sn.told z)) 40) underlying40 rfl gx) rfl ?_;exact⟨rfl,bA (bV _ _) (av _) _⟩
theorem cC{w:World}{m f:Nat}(h:w.cell? (aj m)=some (af (aj f))):ak 14 #[af (aj m)] w fun e w'=>e=ae (.bool false)/\w=w':=by
 go_enter func14,ntmps14;go_wp2_with fail;go_ret;exact⟨rfl,rfl⟩
end Mc
namespace Fm
open Go.RowKit Go.bZ Go.Gc Go.Cf Cn Hp Mk Sw Cy
theorem uA(hs:List Nat)(i:Int):gH hs i=af none\/∃t:Nat,t<hs.length/\i=t/\gH hs i=af (aj (hs.getD t 0)):=by
 by_cases h:0<=i/\i<(hs.length:Int)
 .exact .inr ⟨i.toNat,by omega,by omega,by unfold gH;rw[if_pos h]⟩
 .exact .inl (by unfold gH;rw[if_neg h])
theorem yI{w:World}{f gh cap:Nat}{cc:cF}{mp:Nat}{hs:List Nat}(hF:Am w f gh cap cc mp hs)(k i:Int){z:Int}(hi:gH hs i=af none):ak 32 #[af (aj f),.agg #[U k,U i,ab z]] w fun e w'=>e=ae (.bool false)/\Below w.heap.size w w':=by
 obtain⟨W,hW⟩:=al (w.alloc (.cells #[U k,U i,ab z] 96));have hB:Below w.heap.size w W:=by rw[←hW];exact bA (bV _ _) (av _) _
 have b3:cj W w.heap.size #[U k,U i,ab z] 96:=by rw[←hW];exact cj.new _ _ _
 have c0:W.cell? (aj w.heap.size)=some (U k):=b3.cell 0;have c1:W.cell? (aj w.heap.size 1)=some (U i):=b3.cell 1;have c2:W.cell? (aj w.heap.size 2)=some (ab z):=b3.cell 2;have dH:=oD (hF.cA (hB.trans (bd (bV _ W) |>.mono hB.size))) i;rw[hi] at dH;have dS:=Hu W.drew k z;have HB:=bU (bd hB);clear hF hB hi b3;go_enter func32,ntmps32;go_wp2_with fail;go_region_held3 (fun w'=>w'.cell? (aj w.heap.size)=some (U k)/\w'.cell? (aj w.heap.size 1)=some (U i)/\w'.cell? (aj w.heap.size 2)=some (ab z)) (first|(with_reducible exact⟨c0,c1,c2⟩)|go_keep)
  ((first
   | (go_at_call 49;refine dH.mono ?_;rintro e w6 ⟨rfl,rfl⟩)
   | (go_at_call 50;refine dS.mono ?_;rintro e w6 ⟨rfl,rfl⟩)))
 all_goals
  go_wp2_with fail;go_ret;exact⟨rfl,HB.out⟩
theorem Hx{w:World}{f gh cap:Nat}{cc:cF}{mp:Nat}{hs:List Nat}(hF:Am w f gh cap cc mp hs)(q:iJ){i:Int}(hi:gH hs i=af none):ak 33 #[af (aj f),U i,.agg #[ab q.code,aa q.h,U q.a,U q.b,aa q.x]] w fun e w'=>e=ae (.tuple #[.agg (cX (Sn.told 0)),U 2])/\Below w.heap.size w w':=by
 obtain⟨W,hW⟩:=al ((w.alloc (.cells #[ab q.code,aa q.h,U q.a,U q.b,aa q.x] 54)).alloc (.cells #[U 0,aa 0,aa 0,U 0,U 0,U 0,U 0,.bool false] 38));obtain⟨hB,bO,bS⟩:=(gG w q).out W hW;have hFW:=hF.cA hB;have dN:=cC hFW;have dH:=oD hFW i;rw[hi] at dH;have HZ:Hid (cj (W.setRow (w.heap.size+1) (cX (Sn.told 0))) (w.heap.size+1) (cX (Sn.told 0)) 38/\Below w.heap.size w (W.setRow (w.heap.size+1) (cX (Sn.told 0)))):=bU ⟨bS.setRow _,hB.trans (((cu.refl (fun k=>k=w.heap.size+1) W).row (p:=w.heap.size+1) (.inl rfl) _).below hB.size (fun k hk=>by have hk:k=w.heap.size+1:=hk;omega))⟩;clear hF hFW hB hi bO;go_enter func33,ntmps33;go_wp2_with (first
  | (go_at_call 51;(with_reducible refine dN.mono ?_);rintro e w1 ⟨rfl,rfl⟩)
  | (go_at_call 49;(with_reducible refine dH.mono ?_);rintro e w1 ⟨rfl,rfl⟩)
  | (refine wpList_store_row rfl _ _ _ rfl (w.heap.size+1) (cX (Sn.told 0)) rfl rfl 38 eY bS cG rfl (eE _) ?_))
 refine bodyPost_ret (eZ rfl _ _ (w.heap.size+1) 38 (cX (Sn.told 0)) (0,0) _ _ rfl rfl HZ.out.1 underlying38 rfl cG) rfl ?_;exact⟨rfl,HZ.out.2⟩
end Fm
namespace Tr
open Go.RowKit Go.bZ Go.Gc Hp Mc
set_option maxHeartbeats 1000000 in
theorem ur{w:World}{q:Nat}{T:Int}(hq:w.cell? (aj q)=some (U T))(ql:q<w.heap.size)(t:Int)(s:Sn):ak 37 #[.agg #[U t,U s.e,aa s.h,aa s.w,U s.addr,U s.used,U s.since,U s.gY,.bool s.ac],af (aj q)] w fun e w'=>e=ae (.tuple #[.agg #[U s.e,aa s.h,aa s.w,U s.addr,U s.used,U s.since,U s.gY,.bool s.ac],.bool (t==T)])/\Below w.heap.size w w':=by
 obtain⟨W,hW⟩:=al ((w.alloc (.cells #[U t,U s.e,aa s.h,aa s.w,U s.addr,U s.used,U s.since,U s.gY,.bool s.ac] 40)).alloc (.cells #[U 0,aa 0,aa 0,U 0,U 0,U 0,U 0,.bool false] 38));have hB:Below w.heap.size w W:=by rw[←hW];exact bA (bA (bV _ _) (av _) _) (av _) _
 have b2:cj W w.heap.size (eB t s) 40:=by rw[←hW];exact cj.gR w _ _ _ _
 have b3:cj W (w.heap.size+1) eY 38:=by rw[←hW];exact cj.jf w _ _ _ _
 have cq:W.cell? (aj q)=some (U T):=(hB.cell ql).trans hq;have d0:W.cell? (aj w.heap.size)=some (U t):=b2.cell 0;have d1:W.cell? (aj w.heap.size 1)=some (U s.e):=b2.cell 1;have d2:W.cell? (aj w.heap.size 2)=some (aa s.h):=b2.cell 2;have d3:W.cell? (aj w.heap.size 3)=some (aa s.w):=b2.cell 3;have d4:W.cell? (aj w.heap.size 4)=some (U s.addr):=b2.cell 4;have d5:W.cell? (aj w.heap.size 5)=some (U s.used):=b2.cell 5;have d6:W.cell? (aj w.heap.size 6)=some (U s.since):=b2.cell 6;have d7:W.cell? (aj w.heap.size 7)=some (U s.gY):=b2.cell 7;have d8:W.cell? (aj w.heap.size 8)=some (.bool s.ac):=b2.cell 8;have n1:q≠w.heap.size+1:=by omega
 have n2:w.heap.size+1≠q:=by omega
 have n3:w.heap.size≠w.heap.size+1:=by omega
 have n4:w.heap.size+1≠w.heap.size:=by omega
 obtain⟨⟨z0,z1,z2,z3,z4,z5,z6,z7⟩,f0,f1,f2,f3,f4,f5,f6,f7⟩:=gQ b3;have HZ:Hid (cj (((((((((W.setCell (aj (w.heap.size+1)) (U s.e)).setCell (aj (w.heap.size+1) 1) (aa s.h)).setCell (aj (w.heap.size+1) 2) (aa s.w)).setCell (aj (w.heap.size+1) 3) (U s.addr)).setCell (aj (w.heap.size+1) 4) (U s.used)).setCell (aj (w.heap.size+1) 5) (U s.since)).setCell (aj (w.heap.size+1) 6) (U s.gY)).setCell (aj (w.heap.size+1) 7) (.bool s.ac)).drew) (w.heap.size+1) (cX s) 38/\Below w.heap.size w (((((((((W.setCell (aj (w.heap.size+1)) (U s.e)).setCell (aj (w.heap.size+1) 1) (aa s.h)).setCell (aj (w.heap.size+1) 2) (aa s.w)).setCell (aj (w.heap.size+1) 3) (U s.addr)).setCell (aj (w.heap.size+1) 4) (U s.used)).setCell (aj (w.heap.size+1) 5) (U s.since)).setCell (aj (w.heap.size+1) 6) (U s.gY)).setCell (aj (w.heap.size+1) 7) (.bool s.ac)).drew)):=bU (by
  have b:=(((((((b3.set 0 (U s.e)).set 1 (aa s.h)).set 2 (aa s.w)).set 3 (U s.addr)).set 4 (U s.used)).set 5 (U s.since)).set 6 (U s.gY)).set 7 (.bool s.ac);simp only[eY,List.setIfInBounds_toArray,List.set_cons_zero,List.set_cons_succ] at b;have hc:=((((((((cu.refl (fun k=>k=w.heap.size+1) W).stored (.inl rfl) 0 (U s.e)).stored (.inl rfl) 1 (aa s.h)).stored (.inl rfl) 2 (aa s.w)).stored (.inl rfl) 3 (U s.addr)).stored (.inl rfl) 4 (U s.used)).stored (.inl rfl) 5 (U s.since)).stored (.inl rfl) 6 (U s.gY)).stored (.inl rfl) 7 (.bool s.ac);exact⟨cj.cA b (bd (bV _ _)),bd (hB.trans (hc.below hB.size (fun k hk=>by have hk:k=w.heap.size+1:=hk;omega)))⟩)
 clear hB b2 b3 hq ql;go_enter func37,ntmps37;go_wp2_with fail;go_region_held3 (fun w'=>w'.cell? (aj q)=some (U T)/\w'.cell? (aj w.heap.size)=some (U t)/\w'.cell? (aj w.heap.size 1)=some (U s.e)/\w'.cell? (aj w.heap.size 2)=some (aa s.h)/\w'.cell? (aj w.heap.size 3)=some (aa s.w)/\w'.cell? (aj w.heap.size 4)=some (U s.addr)/\w'.cell? (aj w.heap.size 5)=some (U s.used)/\w'.cell? (aj w.heap.size 6)=some (U s.since)/\w'.cell? (aj w.heap.size 7)=some (U s.gY)/\w'.cell? (aj w.heap.size 8)=some (.bool s.ac)) (first|(with_reducible exact⟨cq,d0,d1,d2,d3,d4,d5,d6,d7,d8⟩)|go_keep) ((fail))
 all_goals
  go_wp2_with fail;refine bodyPost_ret (eZ rfl _ _ (w.heap.size+1) 38 (cX s) (0,0) _ _ rfl rfl HZ.out.1 underlying38 rfl cG) rfl ?_;exact⟨rfl,HZ.out.2⟩
end Tr
namespace Tr
open Go.RowKit Go.bZ Go.Gc Bd Hp Mc Go.Proofs.YtgblmelijlgimaaGreatDoor.Fd
theorem uB{w w':World}{B n:Nat}{e:TypeId}{v:Value}{xs:List Value}(h:w.ownsRow B e 8 v n xs)(hb:Below w.heap.size w w'):w'.ownsRow B e 8 v n xs:=by
 obtain⟨hl,h|⟨g,cap,cur,h1,h2,h3,h4⟩⟩:=h
 .exact⟨hl,.inl h⟩
 .refine⟨hl,.inr ⟨g,cap,cur,h1,h2,(hb.block g ?_).trans h3,h4⟩⟩
  rcases Nat.lt_or_ge g w.heap.size with k|k
  .exact k
  .rw[Array.getElem?_eq_none k] at h3;cases h3
theorem Nx{w wx w1:World}{B n:Nat}{e:TypeId}{v:Value}{xs:List Value}(hb:Below B w wx)(ho:wx.ownsRow B e 8 v n xs)(hg:wx.grownBy w1 v.ownBlock)(hB:B<=w.heap.size):Below B w w1:=
 hb.trans ⟨hg.os,hg.tape,hg.output,hg.size,fun k hk=>hg.block k (by have:=hb.size;omega) (fun e=>by have:=(ho.lt k e.symm).1;omega)⟩
theorem KQ:(prog.info? 38).map (fun i=>(i.zero,i.size,i.bytes))=some (some (.agg eY),8,64):=by kernel_rfl
def jF(T:Int)(ft:Nat→Int)(fs:Nat→Sn)(j:Nat):List Sn:=((List.range j).filter fun k=>ft k==T).map fs
theorem rR(T:Int)(ft:Nat→Int)(fs:Nat→Sn)(j:Nat):jF T ft fs (j+1)=jF T ft fs j++(if ft j==T then[fs j] else[]):=by
 unfold jF;rw[List.range_succ,List.filter_append,List.map_append]
 congr 1
 cases h:ft j==T <;> simp[h]
theorem Di(T:Int)(ft:Nat→Int)(fs:Nat→Sn)(j:Nat):(jF T ft fs j).length<=j:=by
 unfold jF;rw[List.length_map];exact aE (List.length_filter_le _ _) (by rw[List.length_range];exact av _)
def lr(l:List Sn):List Value:=l.flatMap fun s=>(cX s).toList
set_option maxHeartbeats 1000000 in
theorem yJ{w:World}{q:Nat}{T:Int}(hq:w.cell? (aj q)=some (U T))(ql:q<w.heap.size){gi off n cap:Nat}{ft:Nat→Int}{fs:Nat→Sn}(gl:gi<w.heap.size)(hn:n<=100000)(hin:∀k,k<n→∀j u,(eB (ft k) (fs k))[j]?=some u→w.cell? (aj gi (off+k*9+j))=some u):ak 36 #[ai (aj gi off) n cap,.func (.func 37) #[] #[af (aj q)]] w fun e w'=>∃v,e=ae v/\w'.ownsRow w.heap.size 38 8 v (jF T ft fs n).length (lr (jF T ft fs n))/\Below w.heap.size w w':=by
 obtain⟨i0,uN,iX,jm,nQ⟩:=info_parts KQ;have HC:Hid (∀wr k,Below w.heap.size w wr→k<n→wr.cell? (aj gi (off+k*9))=some (U (ft k))/\wr.cell? (aj gi (off+k*9+1))=some (U (fs k).e)/\wr.cell? (aj gi (off+k*9+2))=some (aa (fs k).h)/\wr.cell? (aj gi (off+k*9+3))=some (aa (fs k).w)/\wr.cell? (aj gi (off+k*9+4))=some (U (fs k).addr)/\wr.cell? (aj gi (off+k*9+5))=some (U (fs k).used)/\wr.cell? (aj gi (off+k*9+6))=some (U (fs k).since)/\wr.cell? (aj gi (off+k*9+7))=some (U (fs k).gY)/\wr.cell? (aj gi (off+k*9+8))=some (.bool (fs k).ac)):=bU (fun wr k hb hk=>by
  have e:∀j,wr.cell? (aj gi j)=w.cell? (aj gi j):=fun j=>hb.cell gl
  simp only[e];exact⟨hin k hk 0 _ rfl,hin k hk 1 _ rfl,hin k hk 2 _ rfl,hin k hk 3 _ rfl,hin k hk 4 _ rfl,hin k hk 5 _ rfl,hin k hk 6 _ rfl,hin k hk 7 _ rfl,hin k hk 8 _ rfl⟩)
 have HF:Hid (∀W t s,Below w.heap.size w W→_):=bU (fun W t s hb=>ur (w:=W) (q:=q) (T:=T) ((hb.cell ql).trans hq) (aB ql hb.size) t s);have HS:=bU (rR T ft fs);have HLn:=bU (Di T ft fs);have HZ:Hid (jF T ft fs 0=[]):=bU rfl;generalize jF T ft fs=pk at *;clear hin hq ql gl;go_enter func36,ntmps36;go_wp2_with fail
 go_loopw [5,12] (fun out i wr=>∃j:Nat,j<=n/\i=U j/\Hid (wr.ownsRow w.heap.size 38 8 out (pk j).length (lr (pk j)))/\Hid (Below w.heap.size w wr)) (fun _ i _=>n-(intOf i).toNat)
 case atStart=>exact⟨0,by omega,rfl,by rw[HZ.out];exact bU ⟨rfl,.inl ⟨rfl,rfl⟩⟩,bU (bV _ _)⟩
 case round=>
  obtain⟨j,hj,rfl,hO,hB⟩:=hrel;by_cases hlt:j<n
  .obtain⟨c0,c1,c2,c3,c4,c5,c6,c7,c8⟩:=HC.out wr j hB.out hlt
   have hs:=bU (HS.out j);generalize fs j=s at *;generalize ft j=t at *;have HW:Hid (Below w.heap.size w (wr.alloc (.cells #[U t,U s.e,aa s.h,aa s.w,U s.addr,U s.used,U s.since,U s.gY,.bool s.ac] 40))):=bU (bA hB.out (av _) _);have hWr:Below wr.heap.size wr (wr.alloc (.cells #[U t,U s.e,aa s.h,aa s.w,U s.addr,U s.used,U s.since,U s.gY,.bool s.ac] 40)):=bA (bV _ _) (av _) _;have SL:Hid ((wr.alloc (.cells #[U t,U s.e,aa s.h,aa s.w,U s.addr,U s.used,U s.since,U s.gY,.bool s.ac] 40)).ownsRow w.heap.size 38 8 u5 (pk j).length (lr (pk j))):=bU (uB hO.out hWr);have dF:=HF.out _ t s HW.out;have PO:=HLn.out j;have SM:=bU PO;clear hWr PO
   cases hb:(t==T)
   .rw[hb] at dF
    have pK:pk (j+1)=pk j:=by have:=hs.out;rw[hb] at this;simpa using this
    have Ro:=bU pK;clear hs pK hb;go_wp2_with (go_at_call 37;(with_reducible refine dF.mono ?_);rintro e w3 ⟨rfl,dJ⟩;have H3:=bU (bA (bT HW.out dJ HW.out.size) (av _) (.cells #[U s.e,aa s.h,aa s.w,U s.addr,U s.used,U s.since,U s.gY,.bool s.ac] 38));have ow:=bU ((uB SL.out dJ).alloc (.cells #[U s.e,aa s.h,aa s.w,U s.addr,U s.used,U s.since,U s.gY,.bool s.ac] 38));clear dJ)
    go_roundw
    case rel=>exact⟨j+1,by omega,by go_num,by rw[Ro.out];exact ow,H3⟩
    case measure=>simp[intOf];omega
   .rw[hb] at dF
    have pK:pk (j+1)=pk j++[s]:=by have:=hs.out;rw[hb] at this;simpa using this
    have Ro:=bU pK;clear hs pK hb;go_wp2_with (first
     | (go_at_call 37;(with_reducible refine dF.mono ?_);rintro e w3 ⟨rfl,dJ⟩;have H3:=bU (bA (bA (bT HW.out dJ HW.out.size) (av _) (.cells #[U s.e,aa s.h,aa s.w,U s.addr,U s.used,U s.since,U s.gY,.bool s.ac] 38)) (av _) (.cells #[U s.e,aa s.h,aa s.w,U s.addr,U s.used,U s.since,U s.gY,.bool s.ac] 38));have ow:=bU (((uB SL.out dJ).alloc (.cells #[U s.e,aa s.h,aa s.w,U s.addr,U s.used,U s.since,U s.gY,.bool s.ac] 38)).alloc (.cells #[U s.e,aa s.h,aa s.w,U s.addr,U s.used,U s.since,U s.gY,.bool s.ac] 38));have MT:w.heap.size<=w3.heap.size:=aE HW.out.size dJ.size;clear dJ)
     | (at_builtin;refine wpList_append_own _ rfl _ _ 44 rfl w.heap.size 38 i0 (.agg eY) 8 64 underlying44 uN iX jm nQ rfl (by decide) u5 _ _ rfl ow.out ⟨w3.heap.size+1,0,none⟩ 1 1 (cX s).toList rfl rfl ?c1 ?c2 ?c3 ?c4 ?c5 ?_))
    case c1=>
     intro k u hk;have b:cj _ (w3.heap.size+1) (cX s) 38:=cj.jf w3 (cX s) (cX s) 38 38;simp only[Addr.add,bM];have e:(cX s)[k]?=some u:=by rw[←bJ];exact hk
     have e2:(if k=0 then(⟨w3.heap.size+1,0,none⟩:Addr) else⟨w3.heap.size+1,k,none⟩)=⟨w3.heap.size+1,k,none⟩:=by
      split
      .rename_i h0;rw[h0]
      .rfl
     rw[e2];exact(b.cell k).trans e
    case c2=>
     intro u hu;simp[cX] at hu;rcases hu with rfl|rfl|rfl|rfl|rfl|rfl|rfl|rfl <;> rfl
    case c3=>have:=SM.out;unfold maxLen;omega
    case c4=>have:=SM.out;omega
    case c5=>simp;omega
    intro v' w1 fN hgrow _;have kM:=bU (Nx H3.out ow.out hgrow (av _));have O6:Hid (w1.ownsRow w.heap.size 38 8 v' (pk (j+1)).length (lr (pk (j+1)))):=bU (by
     rw[Ro.out,aJ];unfold lr at fN ⊢;rw[List.flatMap_append];simpa using fN)
    clear fN hgrow;go_wp2_with fail
    go_roundw
    case rel=>exact⟨j+1,by omega,by go_num,O6,kM⟩
    case measure=>simp[intOf];omega
  .obtain rfl:j=n:=by omega
   go_wp2_with fail;go_ret;exact⟨_,rfl,hO.out,hB.out⟩
end Tr
namespace Tr
open Go.RowKit Go.bZ Go.Gc Bd Hp Mc Go.Proofs.YtgblmelijlgimaaGreatDoor.Fd
def Oj(w:World)(v:Value)(n:Nat)(ft:Nat→Int)(fs:Nat→Sn):Prop:=n<=100000/\((v=ai none 0 0/\n=0)\/∃gi off cap,v=ai (aj gi off) n cap/\gi<w.heap.size/\∀k,k<n→∀j u,(eB (ft k) (fs k))[j]?=some u→w.cell? (aj gi (off+k*9+j))=some u)
theorem Oj.cA{w w':World}{v:Value}{n:Nat}{ft:Nat→Int}{fs:Nat→Sn}(h:Oj w v n ft fs)(hb:Below w.heap.size w w'):Oj w' v n ft fs:=by
 obtain⟨h1,h2|⟨gi,off,cap,h2,h3,h4⟩⟩:=h
 .exact⟨h1,.inl h2⟩
 .exact⟨h1,.inr ⟨gi,off,cap,h2,aB h3 hb.size,fun k hk j u hu=>(hb.cell h3).trans (h4 k hk j u hu)⟩⟩
theorem yK(w:World)(q:Nat):ak 36 #[ai none 0 0,.func (.func 37) #[] #[af (aj q)]] w fun e w'=>e=ae (ai none 0 0)/\w=w':=by
 go_enter func36,ntmps36;go_wp2_with fail
 go_loopw [5,12] (fun out i wr=>out=ai none 0 0/\i=U 0/\wr=w) (fun _ _ _=>1)
 case atStart=>exact⟨rfl,rfl,rfl⟩
 case round=>
  obtain⟨rfl,rfl,rfl⟩:=hrel;go_wp2_with fail;go_ret;exact⟨rfl,rfl⟩
theorem Ny{w:World}{v:Value}{n:Nat}{ft:Nat→Int}{fs:Nat→Sn}(h:Oj w v n ft fs)(T:Int):ak 19 #[v,U T] w fun e w'=>∃v',e=ae v'/\w'.ownsRow w.heap.size 38 8 v' (jF T ft fs n).length (lr (jF T ft fs n))/\Below w.heap.size w w':=by
 obtain⟨W,hW⟩:=al (w.alloc (.cells #[U T] 3));have hB:Below w.heap.size w W:=by rw[←hW];exact bA (bV _ _) (av _) _
 have b3:cj W w.heap.size #[U T] 3:=by rw[←hW];exact cj.new _ _ _
 have dP:ak 36 #[v,.func (.func 37) #[] #[af (aj w.heap.size)]] W fun e w'=>∃v',e=ae v'/\Hid (w'.ownsRow w.heap.size 38 8 v' (jF T ft fs n).length (lr (jF T ft fs n))/\Below w.heap.size w w'):=by
  obtain⟨hn,⟨rfl,rfl⟩|⟨gi,off,cap,rfl,hg,hc⟩⟩:=h.cA hB
  .refine(yK W w.heap.size).mono ?_
   rintro e w' ⟨rfl,rfl⟩;exact⟨_,rfl,bU ⟨⟨rfl,.inl ⟨rfl,rfl⟩⟩,hB⟩⟩
  .refine(yJ (b3.cell 0) b3.lt hg hn hc).mono ?_
   rintro e w' ⟨v',rfl,ho,hb⟩;refine⟨_,rfl,bU ⟨?_,hB.trans (hb.mono hB.size)⟩⟩;obtain⟨hl,k|⟨g,c,cur,h1,h2,h3⟩⟩:=ho
   .exact⟨hl,.inl k⟩
   .exact⟨hl,.inr ⟨g,c,cur,h1,aE hB.size h2,h3⟩⟩
 clear h hB b3;go_enter func19,ntmps19;go_wp2_with (go_at_call 36;(with_reducible refine dP.mono ?_);rintro e w1 ⟨v',rfl,hZ⟩)
 go_ret;exact⟨_,rfl,hZ.out.1,hZ.out.2⟩
theorem Dj{w:World}{m f:Nat}{v:Value}{n:Nat}{ft:Nat→Int}{fs:Nat→Sn}(h0:w.cell? (aj m)=some (af (aj f)))(h1:w.cell? (aj m 1)=some v)(h:Oj w v n ft fs)(T:Int):ak 9 #[af (aj m),U T] w fun e w'=>∃v',e=ae v'/\w'.ownsRow w.heap.size 38 8 v' (jF T ft fs n).length (lr (jF T ft fs n))/\Below w.heap.size w w':=by
 have dN:=Mc.cC h0;have dO:=Ny h T;clear h;go_enter func9,ntmps9;go_wp2_with (first
  | (go_at_call 14;(with_reducible refine dN.mono ?_);rintro e w1 ⟨rfl,rfl⟩)
  | (go_at_call 19;(with_reducible refine dO.mono ?_);rintro e w1 ⟨v',rfl,ho,hb⟩;have HO:=bU ho;have HB:=bU hb;clear ho hb))
 go_ret;exact⟨_,rfl,HO.out,HB.out⟩
end Tr
namespace Mc
open Go.RowKit Go.bZ Go.Gc Hp Fm
theorem nE(z:Int)(s:Sn):(eB z s).all (·.oneCell')=true:=by
 unfold eB;simp;exact⟨rfl,rfl,rfl,rfl,rfl,rfl,rfl,rfl,rfl⟩
set_option maxHeartbeats 400000 in
theorem Dk{S:Nat→Prop}{R:World→Prop}{w:World}{m f:Nat}(h0:w.cell? (aj m)=some (af (aj f)))(ml:m<w.heap.size)(nm:¬S m)(hi:∀k,w.heap.size<=k→¬S k)(t qc qh qa qb qx ln:Int)(wh:Nat)(hwh:wh<256)(hS:∀W,Below w.heap.size w W→ak 32 #[af (aj f),.agg #[U ln,U (wh/8:Nat),ab (wh%8:Nat)]] W fun e w'=>∃b,e=ae (.bool b)/\cu S W w'/\R w')(SN:∀a x,R a→R (a.setRow (w.heap.size+1) x)):ak 17 #[af (aj m),.agg #[ab 2,U t,ab qc,aa qh,U qa,U qb,aa qx,U ln,ab wh]] w fun e w'=>e=ae (.tuple #[.agg (eB 0 (Sn.told 0)),.bool false])/\R w':=by
 obtain⟨W,hW⟩:=al ((w.alloc (.cells #[ab 2,U t,ab qc,aa qh,U qa,U qb,aa qx,U ln,ab wh] 56)).alloc (.cells #[U 0,U 0,aa 0,aa 0,U 0,U 0,U 0,U 0,.bool false] 40));have hB:Below w.heap.size w W:=by rw[←hW];exact bA (bA (bV _ _) (av _) _) (av _) _
 have b3:cj W w.heap.size #[ab 2,U t,ab qc,aa qh,U qa,U qb,aa qx,U ln,ab wh] 56:=by rw[←hW];exact cj.gR w _ _ _ _
 have b4:cj W (w.heap.size+1) (eB 0 (Sn.told 0)) 40:=by rw[←hW];exact cj.jf w _ _ _ _
 have c0:W.cell? (aj w.heap.size)=some (ab 2):=b3.cell 0;have c7:W.cell? (aj w.heap.size 7)=some (U ln):=b3.cell 7;have c8:W.cell? (aj w.heap.size 8)=some (ab wh):=b3.cell 8;have cm:W.cell? (aj m)=some (af (aj f)):=(hB.cell ml).trans h0;have q1:IntKind.i64.wrap (wh:Int)=(wh:Int):=Go.IntWalk.i64_in _ (by omega);have q2:(wh:Int).tdiv 8=((wh/8:Nat):Int):=by rw[Int.tdiv_eq_ediv_of_nonneg (by omega)];omega
 have q3:IntKind.i64.wrap ((wh/8:Nat):Int)=((wh/8:Nat):Int):=Go.IntWalk.i64_in _ (by omega);have q4:(wh:Int).tmod 8=((wh%8:Nat):Int):=by rw[Int.tmod_eq_emod_of_nonneg (by omega)];omega
 have w0:(0:Int)<=(wh:Int):=by omega
 have w1:(wh:Int)<256:=by omega
 have dS:ak 32 #[af (aj f),.agg #[U ln,U (wh/8:Nat),ab (wh%8:Nat)]] W.drew fun e w'=>∃b,e=ae (.bool b)/\(w'.cell? (aj m)=some (af (aj f))/\w'.cell? (aj w.heap.size 7)=some (U ln)/\w'.cell? (aj w.heap.size 8)=some (ab wh))/\Hid (cj w' (w.heap.size+1) (eB 0 (Sn.told 0)) 40/\cj (w'.setRow (w.heap.size+1) (eB 0 (Sn.told 0))) (w.heap.size+1) (eB 0 (Sn.told 0)) 40/\R (w'.setRow (w.heap.size+1) (eB 0 (Sn.told 0)))):=by
  refine(hS W.drew (bd hB)).mono ?_;rintro e w' ⟨b,rfl,hc,hr⟩;have IW:=(b3.cA (bd (bV _ _))).bY hc (hi _ (av _));have Qe:=(b4.cA (bd (bV _ _))).bY hc (hi _ (by omega));have hm:w'.cell? (aj m)=some (af (aj f)):=(World.cell?_of_block (w:=W.drew) (hc.block m (aB ml hB.size) nm)).trans cm;exact⟨b,rfl,⟨hm,IW.cell 7,IW.cell 8⟩,bU ⟨Qe,Qe.setRow _,SN _ _ hr⟩⟩
 clear h0 ml nm hi hS SN hB b3 b4 hwh;generalize ((wh/8:Nat):Int)=a8 at *;generalize ((wh%8:Nat):Int)=r8 at *;go_enter func17,ntmps17;go_wp2_with fail;go_region_held3 (fun w'=>w'.cell? (aj m)=some (af (aj f))/\w'.cell? (aj w.heap.size 7)=some (U ln)/\w'.cell? (aj w.heap.size 8)=some (ab wh)) (first|(with_reducible exact⟨cm,c7,c8⟩)|(with_reducible exact x3)|go_keep)
  ((first
   | (go_at_call 32;(with_reducible refine dS.mono ?_);rintro e w6 ⟨b,rfl,x3,hZ⟩)))
 all_goals
  have bz:=hZ.out.1;go_wp2_with (refine wpList_store_row rfl _ _ _ rfl (w.heap.size+1) (eB 0 (Sn.told 0)) rfl rfl 40 (eB 0 (Sn.told 0)) bz gx rfl (nE _ _) ?_)
  refine bodyPost_ret (eZ rfl _ _ (w.heap.size+1) 40 (eB 0 (Sn.told 0)) (0,0) _ _ rfl rfl hZ.out.2.1 underlying40 rfl gx) rfl ?_;exact⟨rfl,hZ.out.2.2⟩
end Mc
end Go.Proofs.YtgblmelijlgimaaGreatDoor
