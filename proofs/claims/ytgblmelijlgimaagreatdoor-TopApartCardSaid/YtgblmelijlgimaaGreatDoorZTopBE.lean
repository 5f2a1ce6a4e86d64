/- Parts of the proof of TopApart. -/
import Derived.Test.YtgblmelijlgimaaGreatDoorZTopBD
set_option maxRecDepth 100000
namespace Go.Proofs.YtgblmelijlgimaaGreatDoor
open Go.Proofs.Tryz
namespace Hp
open Go.RowKit Go.bZ Go.Gc Go.Cf Cn Go.Proofs.YtgblmelijlgimaaGreatDoor.Fd Sl Bd Ca Hd Tb Mk Sw Cy
theorem GR{w:World}{C:cV}{E:Env}{c:cF}{ws:List Int}{N:Int}{x:V}(L:Lk C E c)(h:Hv w C E c ws N x)(q:iJ){y r u:Nat}(hy:ja x y)(hh:cU C.K x.v.M y=some (r,u)){i:Nat}(hi:q.a=i)(h1:i<r)(hz:dx C x y i=0):ak 138 #[af (aj (E.A 26)),.agg #[ab q.code,aa q.h,U q.a,U q.b,aa q.x],U y] w (j9 C E c ws N (x,Sn.told 0) 0 w):=by
 obtain⟨W,hW⟩:=al ((w.alloc (.cells #[ab q.code,aa q.h,U q.a,U q.b,aa q.x] 54)).alloc (.cells #[U 0,aa 0,aa 0,U 0,U 0,U 0,U 0,.bool false] 38));obtain⟨hB,bO,bS⟩:=(gG w q).out W hW;obtain⟨s,G,hp,rp,gn⟩:=h.cA L hB;have c2:W.cell? (aj w.heap.size 2)=some (U q.a):=bO.cell 2;have dF:=jb L hp rp hy hh q.a;have eF:fU r u q.a=(true,0):=by unfold fU;rw[if_neg (by omega),aw (by omega)]
 rw[eF] at dF;have hK:C.K.Ok:=by rw[L.cK];exact L.e.K
 have hv:=Rp.Eg rp hy;have I:=Rp.uP L rp;have hs:cU E.K s.M y=some (r,u):=by rw[←L.cK,←rp.head hK hv];exact hh
 obtain⟨k,rr,X,ob⟩:=me L.e hp.cp.co.mp (I.tn y hv.1) hs;have hzr:=rp.ok.rf y i hy.1 hy.2 (by rw[jO hh];exact h1);have hzr:0<=dx C x y i/\dx C x y i<=C.K.n:=hzr;have hKn:C.K.n=E.n:=by rw[L.cK];rfl
 have ew:at' E.bs E.tn ws (addrOf E.pw E.rs y+1+i)=dx C x y i:=by
  have hin:=ob.IP hp.cp.co.mp.cx;have hft:=ob.fit;have C1:=fw hh;have ha:C.K.addr y=addrOf E.pw E.rs y:=by rw[L.cK];rfl
  have hin:addrOf E.pw E.rs y+rr.size<=E.pg*E.pw:=hin;rw[←hp.cp.co.mp.mem _ (by omega),←ha];exact(rp.word hv (by omega) (by omega)).symm
 have DW:Hid (∀w1,Below W.heap.size W w1→(w1.cell? (aj (E.A 26) 7)=some (af (aj (E.A 25)))/\w1.cell? (aj w.heap.size 2)=some (U i))/\(ak 180 #[af (aj (E.A 25))] w1.drew fun e w'=>e=ae (af (aj (E.A 0)))/\w1.drew=w')/\ak 187 #[af (aj (E.A 0)),U y,U i] w1.drew fun e w2=>e=ae (.tuple #[U (-1),U 0])/\(w2.cell? (aj (E.A 26) 7)=some (af (aj (E.A 25)))/\w2.cell? (aj w.heap.size 2)=some (U i))/\cj w2 (w.heap.size+1) eY 38/\Hid (Below W.heap.size W w2)):=bU (fun w1 hb=>by
  have p1:=hp.cA L hb;have p2:=hp.cA L (bd hb);have o1:(w1.cell? (aj w.heap.size 2))=some (U i):=by rw[←hi];exact(bO.cA hb).cell 2
  refine⟨⟨p1.cells.2.1,o1⟩,ic p2.cp,?_⟩;have dw:=qX (c:=E.c) p2.cp.co.mp.cx ob h1 (by rw[show at' E.c.bs E.c.tn ws (addrOf E.c.pw E.c.rs y+1+i)=dx C x y i from ew];show _<=(E.n:Int);omega);rw[show at' E.c.bs E.c.tn ws (addrOf E.c.pw E.c.rs y+1+i)=dx C x y i from ew,hz] at dw;refine dw.mono ?_;rintro e w2 ⟨rfl,cN⟩;have dJ:=fj (bd hb) cN;have p3:=hp.cA L dJ;exact⟨rfl,⟨p3.cells.2.1,by rw[←hi];exact(bO.cA dJ).cell 2⟩,bS.cA dJ,bU dJ⟩)
 have HM:Hid (∀w2,Below W.heap.size W w2→Hid (∀s,cj (w2.setRow (w.heap.size+1) (cX s)) (w.heap.size+1) (cX s) 38/\∃cR,fF w (w2.setRow (w.heap.size+1) (cX s)) C E c ws N x 0 cR)):=bU (fun w2 h1=>((h.frame L hB bS).told L h h1).2);rw[hi] at c2 dF;clear h L bO bS hB hp rp gn hy hh eF hK hv I hs ob ew h1 hi hzr hKn hz;go_enter func138,ntmps138;go_wp2_with (go_at_call 185;(with_reducible refine dF.mono ?_);rintro e w1 ⟨rfl,hb⟩;obtain⟨⟨y7,y2⟩,dB,dW⟩:=DW.out w1 hb;clear hb)
 clear hW c2 dF DW;go_region_held3 (fun V=>V.cell? (aj (E.A 26) 7)=some (af (aj (E.A 25)))/\V.cell? (aj w.heap.size 2)=some (U i)) (first|exact hc|go_keep)
  (first
   | (go_at_call 180;(with_reducible refine dB.mono ?_);rintro e w3 ⟨rfl,rfl⟩)
   | (go_at_call 187;(with_reducible refine dW.mono ?_);rintro e w4 ⟨rfl,hc,bz,hY⟩))
 all_goals
  have hZ:=HM.out w4 hY.out;go_wp2_with (refine wpList_store_row rfl _ _ _ rfl (w.heap.size+1) (cX (Sn.told 0)) rfl rfl 38 eY bz cG rfl (eE _) ?_)
  refine bodyPost_ret (results_cell_row rfl _ _ (w.heap.size+1) 38 (cX (Sn.told 0)) (0,0) _ rfl (hZ.out _).1 underlying38 rfl cG) rfl ?_;exact⟨rfl,(hZ.out _).2⟩
set_option maxHeartbeats 1000000 in
theorem GU{w:World}{C:cV}{E:Env}{c:cF}{ws:List Int}{N:Int}{x:V}(L:Lk C E c)(h:Hv w C E c ws N x)(q:iJ){y r u:Nat}(hy:ja x y)(hh:cU C.K x.v.M y=some (r,u))(hr:Go.Gc.Reach C.K x.v.es x.v.cs x.v.M y){i to_:Nat}(hi:q.a=i)(h1:i<r)(hz:dx C x y i=(to_:Int)+1)(hN:N<1000000):ak 138 #[af (aj (E.A 26)),.agg #[ab q.code,aa q.h,U q.a,U q.b,aa q.x],U y] w (j9 C E c ws N (if 0<ek (room C (fun z=>decide (0<ek z.v.es)) x).v.es then(ia C (room C (fun z=>decide (0<ek z.v.es)) x) to_,{Sn.told 0 with h:=iC C (room C (fun z=>decide (0<ek z.v.es)) x)}) else(room C (fun z=>decide (0<ek z.v.es)) x,Sn.told 131)) 1 w):=by
 obtain⟨W,hW⟩:=al ((w.alloc (.cells #[ab q.code,aa q.h,U q.a,U q.b,aa q.x] 54)).alloc (.cells #[U 0,aa 0,aa 0,U 0,U 0,U 0,U 0,.bool false] 38));obtain⟨hB,bO,bS⟩:=(gG w q).out W hW;obtain⟨s,G,hp,rp,gn⟩:=h.cA L hB;have c2:W.cell? (aj w.heap.size 2)=some (U q.a):=bO.cell 2;have dF:=jb L hp rp hy hh q.a;have eF:fU r u q.a=(true,0):=by unfold fU;rw[if_neg (by omega),aw (by omega)]
 rw[eF] at dF;have hK:C.K.Ok:=by rw[L.cK];exact L.e.K
 have hv:=Rp.Eg rp hy;have I:=Rp.uP L rp;have hs:cU E.K s.M y=some (r,u):=by rw[←L.cK,←rp.head hK hv];exact hh
 obtain⟨k,rr,X,ob⟩:=me L.e hp.cp.co.mp (I.tn y hv.1) hs;have hzr:=rp.ok.rf y i hy.1 hy.2 (by rw[jO hh];exact h1);have hzr:0<=dx C x y i/\dx C x y i<=C.K.n:=hzr;have hKn:C.K.n=E.n:=by rw[L.cK];rfl
 have ew:at' E.bs E.tn ws (addrOf E.pw E.rs y+1+i)=dx C x y i:=by
  have hin:=ob.IP hp.cp.co.mp.cx;have hft:=ob.fit;have C1:=fw hh;have ha:C.K.addr y=addrOf E.pw E.rs y:=by rw[L.cK];rfl
  have hin:addrOf E.pw E.rs y+rr.size<=E.pg*E.pw:=hin;rw[←hp.cp.co.mp.mem _ (by omega),←ha];exact(rp.word hv (by omega) (by omega)).symm
 have DW:Hid (∀w1,Below W.heap.size W w1→(w1.cell? (aj (E.A 26) 7)=some (af (aj (E.A 25)))/\w1.cell? (aj w.heap.size 2)=some (U i))/\(ak 180 #[af (aj (E.A 25))] w1.drew fun e w'=>e=ae (af (aj (E.A 0)))/\w1.drew=w')/\ak 187 #[af (aj (E.A 0)),U y,U i] w1.drew fun e w2=>e=ae (.tuple #[U to_,U 0])/\(w2.cell? (aj (E.A 26) 7)=some (af (aj (E.A 25)))/\w2.cell? (aj w.heap.size 2)=some (U i))/\cj w2 (w.heap.size+1) eY 38/\Hid (Below W.heap.size W w2)):=bU (fun w1 hb=>by
  have p1:=hp.cA L hb;have p2:=hp.cA L (bd hb);have o1:(w1.cell? (aj w.heap.size 2))=some (U i):=by rw[←hi];exact(bO.cA hb).cell 2
  refine⟨⟨p1.cells.2.1,o1⟩,ic p2.cp,?_⟩;have dw:=qX (c:=E.c) p2.cp.co.mp.cx ob h1 (by rw[show at' E.c.bs E.c.tn ws (addrOf E.c.pw E.c.rs y+1+i)=dx C x y i from ew];show _<=(E.n:Int);omega);rw[show at' E.c.bs E.c.tn ws (addrOf E.c.pw E.c.rs y+1+i)=dx C x y i from ew,show dx C x y i-1=(to_:Int) by omega] at dw;refine dw.mono ?_;rintro e w2 ⟨rfl,cN⟩;have dJ:=fj (bd hb) cN;have p3:=hp.cA L dJ;exact⟨rfl,⟨p3.cells.2.1,by rw[←hi];exact(bO.cA dJ).cell 2⟩,bS.cA dJ,bU dJ⟩)
 have hf:iW C.K x.v.M y i=some to_:=by
  have nQ:x.v.M (C.K.addr y+1+i)=(to_:Int)+1:=hz;unfold iW;rw[jO hh,nQ,if_pos ⟨h1,by omega,by omega⟩]
  congr 1
  omega
 have hto:ja x to_:=by
  have hsm:iW C.K s.M y i=some to_:=by rw[←hf,rp.M,lQ (hK.sz y (rp.I.tn y hv.1)) (oT hv)]
  have:=rp.I.jo y i to_ hv hsm;exact⟨by rw[rp.T];exact this.1,by rw[rp.G];exact this.2⟩
 have Kv:ja (room C (fun z=>decide (0<ek z.v.es)) x) to_:=hto.room (.iY y i to_ hr hf);have DR:Hid (∀w2,Below W.heap.size W w2→ak 176 #[af (aj (E.A 26)),.func (.func 178) #[af (aj (E.A 26))] #[]] w2 fun e w3=>e=ae (.tuple #[])/\w3.cell? (aj (E.A 26) 7)=some (af (aj (E.A 25)))/\(ak 178 #[af (aj (E.A 26))] w3 fun e w'=>e=ae (.bool (decide (0<ek (room C (fun z=>decide (0<ek z.v.es)) x).v.es)))/\w3=w')/\Hid ((∀w4,Below w3.heap.size w3 w4→cj w4 (w.heap.size+1) eY 38/\Hid (∀s,cj (w4.setRow (w.heap.size+1) (cX s)) (w.heap.size+1) (cX s) 38/\∃cR,fF w (w4.setRow (w.heap.size+1) (cX s)) C E c ws N (room C (fun z=>decide (0<ek z.v.es)) x) 1 cR))/\(0<ek (room C (fun z=>decide (0<ek z.v.es)) x).v.es→ak 188 #[af (aj (E.A 25)),U to_] w3 fun e w4=>e=ae (U 0)/\ak 183 #[af (aj (E.A 26)),U to_] w4 fun e w5=>e=ae (aa (iC C (room C (fun z=>decide (0<ek z.v.es)) x)))/\cj w5 (w.heap.size+1) eY 38/\Hid (∀s,cj (w5.setRow (w.heap.size+1) (cX s)) (w.heap.size+1) (cX s) 38/\∃cR,fF w (w5.setRow (w.heap.size+1) (cX s)) C E c ws N (ia C (room C (fun z=>decide (0<ek z.v.es)) x) to_) 1 cR)))):=bU (fun w2 hb=>by
  have cN:=fj hB hb;refine(oV L (h.cA L cN) hN Ku).mono ?_;rintro e w3 ⟨rfl,Ae,a3⟩;obtain⟨s3,G3,p3,r3,Ri⟩:=a3.hv;have dfr:=kE p3;rw[←r3.es] at dfr;have Sp:=bS.cA hb;refine⟨rfl,p3.cells.2.1,dfr,bU ⟨fun w4 ni=>(rN.jP L h cN Sp a3).told L h ni,fun hfr=>?_⟩⟩;refine(p3.fO L r3 (Rp.Eg r3 Kv)).mono ?_;rintro e w4 ⟨rfl,p4,r4,k4⟩;refine⟨rfl,(Ad L ⟨_,G3,p4,r4,Ri⟩ Kv.1 Kv.2 hfr).mono ?_⟩;rintro e w5 ⟨rfl,a5⟩;have Sq:=a5.hv;rw[Int.add_zero] at Sq;obtain⟨m1,m2⟩:=(rN.jP L h cN Sp ⟨Sq,a3.rg.trans a5.rg,(a3.ch.trans k4).trans a5.ch⟩).told L h (bV _ _);exact⟨rfl,m1,m2⟩)
 have HT:=bU (fun w1 z=>fD w1 z);rw[hi] at c2 dF;have e0:decide ((to_:Int)<0)=false:=az (by omega);clear h L bO bS hB hp rp gn hy hh eF hK hv I hs ob ew h1 hi hzr hKn hz hf hto Kv hr;generalize room C (fun z=>decide (0<ek z.v.es)) x=x1 at *;by_cases hfr:0<ek x1.v.es
 .rw[if_pos hfr]
  rw[aw hfr] at DR;have J7:=bU (fun w2 hb=>DR.out w2 hb);have HFR:=bU hfr;clear hfr DR;generalize iC C x1=mw at *;generalize ia C x1 to_=x2 at *;go_enter func138,ntmps138;go_wp2_with (go_at_call 185;(with_reducible refine dF.mono ?_);rintro e w1 ⟨rfl,hb⟩;obtain⟨⟨y7,y2⟩,dB,dW⟩:=DW.out w1 hb;clear hb)
  clear hW c2 dF DW;go_region_held3 (fun V=>V.cell? (aj (E.A 26) 7)=some (af (aj (E.A 25)))/\V.cell? (aj w.heap.size 2)=some (U i)) (first|exact hc|go_keep)
   (first
    | (go_at_call 180;(with_reducible refine dB.mono ?_);rintro e w3 ⟨rfl,rfl⟩)
    | (go_at_call 187;(with_reducible refine dW.mono ?_);rintro e w4 ⟨rfl,hc,-,hY⟩))
  all_goals
   have dR:=J7.out w4 hY.out;clear J7 dW dB hc y7 y2;go_wp2_with (first
    | (go_at_call 176;(with_reducible refine dR.mono ?_);rintro e w5 ⟨rfl,y7,dFr,hX⟩;have dS:=hX.out.2 HFR.out)
    | (go_at_call 178;(with_reducible refine dFr.mono ?_);rintro e w6 ⟨rfl,rfl⟩)
    | (go_at_call 188;(with_reducible refine dS.mono ?_);rintro e w6 ⟨rfl,dM⟩)
    | (go_at_call 183;(with_reducible refine dM.mono ?_);rintro e w7 ⟨rfl,bz,hZ⟩)
    | (refine wpList_store_row rfl _ _ _ rfl (w.heap.size+1) (cX {Sn.told 0 with h:=mw}) rfl rfl 38 eY bz cG rfl (eE _) ?_))
   refine bodyPost_ret (results_cell_row rfl _ _ (w.heap.size+1) 38 (cX {Sn.told 0 with h:=mw}) (0,0) _ rfl (hZ.out _).1 underlying38 rfl cG) rfl ?_;exact⟨rfl,(hZ.out _).2⟩
 .rw[if_neg hfr]
  rw[az hfr] at DR;have J7:=bU (fun w2 hb=>DR.out w2 hb);clear hfr DR;go_enter func138,ntmps138;go_wp2_with (go_at_call 185;(with_reducible refine dF.mono ?_);rintro e w1 ⟨rfl,hb⟩;obtain⟨⟨y7,y2⟩,dB,dW⟩:=DW.out w1 hb;clear hb)
  clear hW c2 dF DW;go_region_held3 (fun V=>V.cell? (aj (E.A 26) 7)=some (af (aj (E.A 25)))/\V.cell? (aj w.heap.size 2)=some (U i)) (first|exact hc|go_keep)
   (first
    | (go_at_call 180;(with_reducible refine dB.mono ?_);rintro e w3 ⟨rfl,rfl⟩)
    | (go_at_call 187;(with_reducible refine dW.mono ?_);rintro e w4 ⟨rfl,hc,-,hY⟩))
  all_goals
   have dR:=J7.out w4 hY.out;clear J7 dW dB hc y7 y2;go_wp2_with (first
    | (go_at_call 176;(with_reducible refine dR.mono ?_);rintro e w5 ⟨rfl,y7,dFr,hX⟩)
    | (go_at_call 178;(with_reducible refine dFr.mono ?_);rintro e w6 ⟨rfl,rfl⟩)
    | (go_at_call 75;(with_reducible refine(HT.out _ _).mono ?_);rintro e w6 ⟨rfl,hb⟩;obtain⟨bz,hZ⟩:=hX.out.1 w6 hb;clear hb)
    | (refine wpList_store_row rfl _ _ _ rfl (w.heap.size+1) (cX (Sn.told 131)) rfl rfl 38 eY bz cG rfl (eE _) ?_))
   refine bodyPost_ret (results_cell_row rfl _ _ (w.heap.size+1) 38 (cX (Sn.told 131)) (0,0) _ rfl (hZ.out _).1 underlying38 rfl cG) rfl ?_;exact⟨rfl,(hZ.out _).2⟩
end Hp
namespace Hp
open Go.RowKit Go.bZ Go.Gc Go.Cf Cn Go.Proofs.YtgblmelijlgimaaGreatDoor.Fd Sl Bd Ca Hd Tb Mk Sw Cy
theorem nB.set{w w':World}{C:cV}{E:Env}{c:cF}{ws:List Int}{s:St}{G:Nat→Bool}{N:Int}{x:V}(L:Lk C E c)(hp:nB w C E c ws s N x.si x.cy x.v.act)(rp:Rp C s G x){y r u:Nat}(hv:iy s G y)(hs:cU E.K s.M y=some (r,u)){i:Nat}(hi:i<r+u){z:Int}(hx:Cx w' E.c (ws.set (E.bs.getD E.tn 0+(addrOf E.pw E.rs y+1+i)) z))(hc:cu (· =E.mw) w w')
 (hz:i<r→0<=z/\z<=C.K.n/\(0<z→iy s G (z-1).toNat))(ho:s.phase=1→∀y',iW C.K s.M y i=some y'→s.col y'≠0)(gn:Gn x):fF w w' C E c ws N (gu C x y i z) 0 (ws.set (E.bs.getD E.tn 0+(addrOf E.pw E.rs y+1+i)) z):=by
 have hK:C.K.Ok:=by rw[L.cK];exact L.e.K
 have I:=Rp.uP L rp;have hft:=fw hs;have hin:=jM L.e.gd (I.tn y hv.1);obtain⟨l1,l2⟩:=MK hp.cp.co.mp.cx;have hsz:E.K.size y=cJ E.rs y:=rfl;have jT:=hp.cp.mem L.e hx hc (M:=cP s.M (addrOf E.pw E.rs y+1+i) z) (fun a ha=>by
  rw[F6 (by omega)];unfold cP
  split
  .rfl
  .exact hp.cp.co.mp.mem a ha)
 have h2:=hp.gY L (l:=[]) (hc.up (fun k hk=>.inl hk)) (by decide) jT;have ha:C.K.addr y=addrOf E.pw E.rs y:=by rw[L.cK];rfl
 have r2:=rp.store hK hv (i:=i) (by rw[L.cK];omega) z (fun xP=>hz (by have:=jO hs;rw[L.cK,this] at xP;exact xP)) ho;rw[ha] at r2;exact⟨by rw[Int.add_zero];exact⟨_,G,h2,r2,gn⟩,zN (by omega) z,hc.up (fun k hk=>.inl hk)⟩
theorem C3{w:World}{C:cV}{E:Env}{c:cF}{ws:List Int}{N:Int}{x:V}(L:Lk C E c)(h:Hv w C E c ws N x)(q:iJ){y r u:Nat}(hy:ja x y)(hh:cU C.K x.v.M y=some (r,u))(hq:q.a<0\/(r+u:Nat)<=q.a):ak 139 #[af (aj (E.A 26)),.agg #[ab q.code,aa q.h,U q.a,U q.b,aa q.x],U y] w (j9 C E c ws N (x,Sn.told 110) 0 w):=by
 obtain⟨W,hW⟩:=al ((w.alloc (.cells #[ab q.code,aa q.h,U q.a,U q.b,aa q.x] 54)).alloc (.cells #[U 0,aa 0,aa 0,U 0,U 0,U 0,U 0,.bool false] 38));obtain⟨hB,bO,bS⟩:=(gG w q).out W hW;obtain⟨s,G,hp,rp,gn⟩:=h.cA L hB;have c2:W.cell? (aj w.heap.size 2)=some (U q.a):=bO.cell 2;have dF:=jb L hp rp hy hh q.a;have eF:fU r u q.a=(false,110):=by unfold fU;rw[if_pos hq]
 rw[eF] at dF;have HT:=bU (fun w1 z=>fD w1 z);have HM:Hid (∀w1 w2,Below W.heap.size W w1→Below w1.heap.size w1 w2→cj w2 (w.heap.size+1) eY 38/\Hid (∀s,cj (w2.setRow (w.heap.size+1) (cX s)) (w.heap.size+1) (cX s) 38/\∃cR,fF w (w2.setRow (w.heap.size+1) (cX s)) C E c ws N x 0 cR)):=bU (fun w1 w2 h1 h2=>(h.frame L hB bS).told L h (fj h1 h2));clear h L bO bS hB hp rp gn hy hh hq eF;go_enter func139,ntmps139;go_wp2_with (first
  | (go_at_call 185;(with_reducible refine dF.mono ?_);rintro e w1 ⟨rfl,hb⟩;have H1:=bU hb;clear hb)
  | (go_at_call 75;(with_reducible refine(HT.out _ _).mono ?_);rintro e w2 ⟨rfl,hb⟩;obtain⟨bz,hZ⟩:=HM.out w1 w2 H1.out hb;clear hb)
  | (refine wpList_store_row rfl _ _ _ rfl (w.heap.size+1) (cX (Sn.told 110)) rfl rfl 38 eY bz cG rfl (eE _) ?_))
 refine bodyPost_ret (results_cell_row rfl _ _ (w.heap.size+1) 38 (cX (Sn.told 110)) (0,0) _ rfl (hZ.out _).1 underlying38 rfl cG) rfl ?_;exact⟨rfl,(hZ.out _).2⟩
attribute [local irreducible] wpStill in
theorem yx{w:World}{C:cV}{E:Env}{c:cF}{ws:List Int}{N:Int}{x:V}(L:Lk C E c)(h:Hv w C E c ws N x)(q:iJ){y r u:Nat}(hy:ja x y)(hh:cU C.K x.v.M y=some (r,u)){i:Nat}(hi:q.a=i)(h1:r<=i)(h2:i<r+u)(uI:0<=q.x)(p7:q.x<18446744073709551616):ak 139 #[af (aj (E.A 26)),.agg #[ab q.code,aa q.h,U q.a,U q.b,aa q.x],U y] w (j9 C E c ws N (gu C x y i q.x,Sn.told 0) 0 w):=by
 obtain⟨W,hW⟩:=al ((w.alloc (.cells #[ab q.code,aa q.h,U q.a,U q.b,aa q.x] 54)).alloc (.cells #[U 0,aa 0,aa 0,U 0,U 0,U 0,U 0,.bool false] 38));obtain⟨hB,bO,bS⟩:=(gG w q).out W hW;obtain⟨s,G,hp,rp,gn⟩:=h.cA L hB;have c2:W.cell? (aj w.heap.size 2)=some (U q.a):=bO.cell 2;have dF:=jb L hp rp hy hh q.a;have eF:fU r u q.a=(false,0):=by unfold fU;rw[if_neg (by omega),az (by omega)]
 rw[eF] at dF;have hK:C.K.Ok:=by rw[L.cK];exact L.e.K
 have hv:=Rp.Eg rp hy;have I:=Rp.uP L rp;have hs:cU E.K s.M y=some (r,u):=by rw[←L.cK,←rp.head hK hv];exact hh
 obtain⟨k,rr,X,ob⟩:=me L.e hp.cp.co.mp (I.tn y hv.1) hs;have DW:Hid (∀w1,Below W.heap.size W w1→(w1.cell? (aj (E.A 26) 7)=some (af (aj (E.A 25)))/\w1.cell? (aj w.heap.size 2)=some (U i)/\w1.cell? (aj w.heap.size 4)=some (aa q.x))/\(ak 180 #[af (aj (E.A 25))] w1.drew fun e w'=>e=ae (af (aj (E.A 0)))/\w'=w1.drew)/\ak 189 #[af (aj (E.A 0)),U y,U i,aa q.x] w1.drew fun e w2=>e=ae (U 0)/\Hid (rN w w2 C E c ws N (gu C x y i q.x) 0)):=bU (fun w1 hb=>by
  have p1:=hp.cA L hb;have p2:=hp.cA L (bd hb);have o1:(w1.cell? (aj w.heap.size 2))=some (U i):=by rw[←hi];exact(bO.cA hb).cell 2
  refine⟨⟨p1.cells.2.1,o1,(bO.cA hb).cell 4⟩,(ic p2.cp).mono (fun e w' ⟨a,b⟩=>⟨a,b.symm⟩),?_⟩;refine(xQ (c:=E.c) p2.cp.co.mp.cx (F7 L.e) ob h1 h2 uI p7).mono ?_;rintro e w2 ⟨rfl,x2,k2⟩;have a2:=p2.set L rp hv hs h2 x2 k2 (fun h=>by omega) (fun _ y' hf=>by have:=qG hf;rw[L.cK,jO hs] at this;omega) gn;exact⟨rfl,bU (rN.jP L h (fj hB (bd hb)) (bS.cA (bd hb)) a2)⟩)
 have HT:=bU (fun w1 z=>fD w1 z);have HM:=bU (fun w1 w2 (a:rN w w1 C E c ws N (gu C x y i q.x) 0) hb=>a.told L h (w2:=w2) hb);rw[hi] at c2 dF;clear h L bO bS hB hp rp gn hy hh eF hK hv I hs ob h1 h2 hi uI p7;generalize gu C x y i q.x=xs at *;go_enter func139,ntmps139;go_wp2_with (go_at_call 185;(with_reducible refine dF.mono ?_);rintro e w1 ⟨rfl,hb⟩;obtain⟨⟨y7,y2,y4⟩,dB,dW⟩:=DW.out w1 hb;clear hb)
 clear hW c2 dF DW;refine wp_region_still_tail 10 (by kernel_rfl) (by kernel_rfl) ?_;simp only[List.take_succ_cons,List.take_zero,List.drop_succ_cons,List.drop_zero]
 repeat (first|still_step|still_call dB)
 refine wpStill_nil ?_
 change wpList _ _ _ _ _ w1.drew
 clear y7 y2 y4 dB;go_wp2_with (first
  | (go_at_call 189;(with_reducible refine dW.mono ?_);rintro e w3 ⟨rfl,hM⟩)
  | (go_at_call 75;(with_reducible refine(HT.out _ _).mono ?_);rintro e w4 ⟨rfl,hb⟩;obtain⟨bz,hZ⟩:=HM.out w3 w4 hM.out hb;clear hb)
  | (refine wpList_store_row rfl _ _ _ rfl (w.heap.size+1) (cX (Sn.told 0)) rfl rfl 38 eY bz cG rfl (eE _) ?_))
 refine bodyPost_ret (results_cell_row rfl _ _ (w.heap.size+1) 38 (cX (Sn.told 0)) (0,0) _ rfl (hZ.out _).1 underlying38 rfl cG) rfl ?_;exact⟨rfl,(hZ.out _).2⟩
end Hp
end Go.Proofs.YtgblmelijlgimaaGreatDoor
