/- Parts of the proof of TopApart. -/
import Derived.Test.YtgblmelijlgimaaGreatDoorZTopBE
set_option maxRecDepth 100000
namespace Go.Proofs.YtgblmelijlgimaaGreatDoor
open Go.Proofs.Tryz
namespace Hp
open Go.RowKit Go.bZ Go.Gc Go.Cf Cn Go.Proofs.YtgblmelijlgimaaGreatDoor.Fd Sl Bd Ca Hd Tb Mk Sw Cy
theorem Ss(a b:Int)(W:World):(Instr.index 285 (.agg #[U a,U b]) (U 0)).run prog W=.ok (U a) W:=by kernel_rfl
theorem Su(a b:Int)(W:World):(Instr.index 285 (.agg #[U a,U b]) (U 1)).run prog W=.ok (U b) W:=by kernel_rfl
def Sh(W0 wr:World)(C:cV)(E:Env)(c:cF)(ws:List Int)(N:Int)(x:V)(s:St)(G:Nat→Bool)(y i k:Nat):Prop:=∃s',nB wr C E c ws s' N x.si x.cy x.v.act/\Rp C s' G x/\s'.M=s.M/\(1<=k→s'.phase=1→∀y',iW C.K s.M y i=some y'→s'.col y'≠0)/\cu (Om E Hl) W0 wr
theorem C8{w:World}{C:cV}{E:Env}{c:cF}{ws:List Int}{N:Int}{x:V}(L:Lk C E c)(h:Hv w C E c ws N x)(q:iJ){y r u:Nat}(hy:ja x y)(hh:cU C.K x.v.M y=some (r,u)){i:Nat}(hi:q.a=i)(h1:i<r)(uI:0<q.x)(p7:q.x<18446744073709551616)(JZ:fP C x q.x=none):ak 139 #[af (aj (E.A 26)),.agg #[ab q.code,aa q.h,U q.a,U q.b,aa q.x],U y] w (j9 C E c ws N (x,Sn.told 130) 0 w):=by
 obtain⟨W,hW⟩:=al ((w.alloc (.cells #[ab q.code,aa q.h,U q.a,U q.b,aa q.x] 54)).alloc (.cells #[U 0,aa 0,aa 0,U 0,U 0,U 0,U 0,.bool false] 38));obtain⟨hB,bO,bS⟩:=(gG w q).out W hW;obtain⟨s,G,hp,rp,gn⟩:=h.cA L hB;have c2:W.cell? (aj w.heap.size 2)=some (U q.a):=bO.cell 2;have dF:=jb L hp rp hy hh q.a;have eF:fU r u q.a=(true,0):=by unfold fU;rw[if_neg (by omega),aw (by omega)]
 rw[eF] at dF;have HT:=bU (fun w1 z=>fD w1 z);have e1:(q.x==0)=false:=by rw[aA];omega
 have DS:Hid (∀w1,Below W.heap.size W w1→w1.cell? (aj w.heap.size 4)=some (aa q.x)/\ak 108 #[af (aj (E.A 26)),aa q.x] w1 fun e w2=>e=ae (.tuple #[U 0,.bool false])/\w2.cell? (aj w.heap.size 4)=some (aa q.x)/\Hid (∀w3,Below w2.heap.size w2 w3→cj w3 (w.heap.size+1) eY 38/\Hid (∀s,cj (w3.setRow (w.heap.size+1) (cX s)) (w.heap.size+1) (cX s) 38/\∃cR,fF w (w3.setRow (w.heap.size+1) (cX s)) C E c ws N x 0 cR))):=bU (fun w1 hb=>by
  have ds:=iK L (hp.cA L hb) rp.es (z:=q.x) (by omega) p7;rw[JZ] at ds;refine⟨(bO.cA hb).cell 4,ds.mono ?_⟩;rintro e w2 ⟨rfl,cN⟩;exact⟨rfl,(bO.cA (fj hb cN)).cell 4,bU (fun w3 dJ=>(h.frame L hB bS).told L h (fj (fj hb cN) dJ))⟩)
 rw[hi] at c2 dF;clear h L bO bS hB hp rp gn hy hh eF h1 hi JZ;go_enter func139,ntmps139;go_wp2_with (first
  | (go_at_call 185;(with_reducible refine dF.mono ?_);rintro e w1 ⟨rfl,hb⟩;obtain⟨y4,dS⟩:=DS.out w1 hb;clear hb)
  | (go_at_call 108;(with_reducible refine dS.mono ?_);rintro e w2 ⟨rfl,z4,hX⟩)
  | (go_at_call 75;(with_reducible refine(HT.out _ _).mono ?_);rintro e w3 ⟨rfl,hb⟩;obtain⟨bz,hZ⟩:=hX.out w3 hb;clear hb)
  | (refine wpList_store_row rfl _ _ _ rfl (w.heap.size+1) (cX (Sn.told 130)) rfl rfl 38 eY bz cG rfl (eE _) ?_))
 refine bodyPost_ret (results_cell_row rfl _ _ (w.heap.size+1) 38 (cX (Sn.told 130)) (0,0) _ rfl (hZ.out _).1 underlying38 rfl cG) rfl ?_;exact⟨rfl,(hZ.out _).2⟩
attribute [local irreducible] wpStill in
set_option maxHeartbeats 1000000 in
theorem yy{w:World}{C:cV}{E:Env}{c:cF}{ws:List Int}{N:Int}{x:V}(L:Lk C E c)(h:Hv w C E c ws N x)(q:iJ){y r u:Nat}(hy:ja x y)(hh:cU C.K x.v.M y=some (r,u)){i:Nat}(hi:q.a=i)(h1:i<r)(hqx:q.x=0):ak 139 #[af (aj (E.A 26)),.agg #[ab q.code,aa q.h,U q.a,U q.b,aa q.x],U y] w (j9 C E c ws N (Go.Gc.gu C x y i (-1+1),Sn.told 0) 0 w):=by
 obtain⟨W,hW⟩:=al ((w.alloc (.cells #[ab q.code,aa q.h,U q.a,U q.b,aa q.x] 54)).alloc (.cells #[U 0,aa 0,aa 0,U 0,U 0,U 0,U 0,.bool false] 38));obtain⟨hB,bO,bS⟩:=(gG w q).out W hW;obtain⟨s,G,hp,rp,gn⟩:=h.cA L hB;have c2:W.cell? (aj w.heap.size 2)=some (U q.a):=bO.cell 2;have dF:=jb L hp rp hy hh q.a;have eF:fU r u q.a=(true,0):=by unfold fU;rw[if_neg (by omega),aw (by omega)]
 rw[eF] at dF;obtain⟨tv,hte⟩:∃tv:Int,tv= -1:=⟨_,rfl⟩;have hsl:fP C x q.x=none:=by
  unfold fP;rw[L.cr,hqx]
  rfl
 have htv:0<=tv→ja x tv.toNat:=fun h=>by omega
 have GV: -1<=tv:=by omega
 have GW:tv<(E.n:Int):=by omega
 rw[←hte];have hK:C.K.Ok:=by rw[L.cK];exact L.e.K
 have hv:=Rp.Eg rp hy;have I:=Rp.uP L rp;have hs:cU E.K s.M y=some (r,u):=by rw[←L.cK,←rp.head hK hv];exact hh
 obtain⟨k,rr,X,ob⟩:=me L.e hp.cp.co.mp (I.tn y hv.1) hs;have hzr:=rp.ok.rf y i hy.1 hy.2 (by rw[jO hh];exact h1);have hzr:0<=dx C x y i/\dx C x y i<=C.K.n:=hzr;have hKn:C.K.n=E.n:=by rw[L.cK];rfl
 have ew:at' E.bs E.tn ws (addrOf E.pw E.rs y+1+i)=dx C x y i:=by
  have hin:=ob.IP hp.cp.co.mp.cx;have hft:=ob.fit;have C1:=fw hh;have ha:C.K.addr y=addrOf E.pw E.rs y:=by rw[L.cK];rfl
  have hin:addrOf E.pw E.rs y+rr.size<=E.pg*E.pw:=hin;rw[←hp.cp.co.mp.mem _ (by omega),←ha];exact(rp.word hv (by omega) (by omega)).symm
 have DW:Hid (∀w1,Below W.heap.size W w1→(w1.cell? (aj (E.A 26) 7)=some (af (aj (E.A 25)))/\w1.cell? (aj w.heap.size 2)=some (U i))/\(ak 180 #[af (aj (E.A 25))] w1.drew fun e w'=>e=ae (af (aj (E.A 0)))/\w1.drew=w')/\ak 187 #[af (aj (E.A 0)),U y,U i] w1.drew fun e w2=>e=ae (.tuple #[U (dx C x y i-1),U 0])/\(w2.cell? (aj (E.A 26) 7)=some (af (aj (E.A 25)))/\w2.cell? (aj w.heap.size 2)=some (U i))/\cj w2 (w.heap.size+1) eY 38/\Hid (Below W.heap.size W w2)):=bU (fun w1 hb=>by
  have p1:=hp.cA L hb;have p2:=hp.cA L (bd hb);have o1:(w1.cell? (aj w.heap.size 2))=some (U i):=by rw[←hi];exact(bO.cA hb).cell 2
  refine⟨⟨p1.cells.2.1,o1⟩,ic p2.cp,?_⟩;have dw:=qX (c:=E.c) p2.cp.co.mp.cx ob h1 (by rw[show at' E.c.bs E.c.tn ws (addrOf E.c.pw E.c.rs y+1+i)=dx C x y i from ew];show _<=(E.n:Int);omega);rw[show at' E.c.bs E.c.tn ws (addrOf E.c.pw E.c.rs y+1+i)=dx C x y i from ew] at dw;refine dw.mono ?_;rintro e w2 ⟨rfl,cN⟩;have dJ:=fj (bd hb) cN;have p3:=hp.cA L dJ;exact⟨rfl,⟨p3.cells.2.1,by rw[←hi];exact(bO.cA dJ).cell 2⟩,bS.cA dJ,bU dJ⟩)
 have hsm:s.M (C.K.addr y+1+i)=dx C x y i:=(rp.word hv (by omega) (by have:=fw hh;omega)).symm;have hfl:iW C.K s.M y i=if 0<dx C x y i then some (dx C x y i-1).toNat else none:=by
  have hrf:refs C.K s.M y=r:=by unfold refs;rw[←rp.head hK hv,hh]
  unfold iW;rw[hrf,hsm];by_cases c1:0<dx C x y i
  .rw[if_pos c1,if_pos ⟨h1,c1,hzr.2⟩]
  .rw[if_neg c1,if_neg (fun c=>c1 c.2.1)]
 have hvt:0<=tv→iy s G tv.toNat:=fun ht=>Rp.Eg rp (htv ht)
 have hvo:0<=dx C x y i-1→iy s G (dx C x y i-1).toNat:=fun ho=>rp.I.jo y i _ hv (by rw[hfl,if_pos (by omega)])
 have DS:Hid (∀w1,Below W.heap.size W w1→w1.cell? (aj w.heap.size 4)=some (aa 0)/\ak 108 #[af (aj (E.A 26)),aa 0] w1 fun e w2=>e=ae (.tuple #[U 0,.bool false])/\w2.cell? (aj w.heap.size 4)=some (aa 0)/\Hid (Below W.heap.size W w2)):=bU (fun w1 hb=>by
  have ds:=iK L (hp.cA L hb) rp.es (z:=q.x) (by omega) (by omega);have h0:(Value.int .u64 q.x)=aa 0:=by rw[hqx]
  rw[hsl,h0] at ds;refine⟨((bO.cA hb).cell 4).trans (congrArg some h0),ds.mono ?_⟩;rintro e w2 ⟨rfl,cN⟩;exact⟨rfl,((bO.cA (fj hb cN)).cell 4).trans (congrArg some h0),bU (fj hb cN)⟩)
 have H0:Hid (∀W0,Below W.heap.size W W0→Sh W0 W0 C E c ws N x s G y i 0):=bU (fun W0 hb=>⟨s,hp.cA L hb,rp,rfl,fun h=>by omega,cu.refl _ _⟩);have HS:Hid (∀W0 wr k (o:Int),(0<=o→iy s G o.toNat)→(k=0→o=dx C x y i-1)→Below W.heap.size W W0→Sh W0 wr C E c ws N x s G y i k→wr.cell? (aj (E.A 26) 7)=some (af (aj (E.A 25)))/\(0<=o→ak 188 #[af (aj (E.A 25)),U o] wr fun e w'=>e=ae (U 0)/\Hid (Sh W0 w' C E c ws N x s G y i (k+1)))/\(o<0→Sh W0 wr C E c ws N x s G y i (k+1))):=bU (fun W0 wr k o GX ho hb ⟨s1,p1,r1,m1,c1,k1⟩=>by
  refine⟨p1.cells.2.1,fun h0=>?_,fun h0=>⟨s1,p1,r1,m1,fun hk hph y' hf=>?_,k1⟩⟩
  .have GY:iy s1 G o.toNat:=⟨by rw[←r1.T,rp.T];exact(GX h0).1,(GX h0).2⟩
   have hsh:=p1.fO L r1 GY;rw[show((o.toNat:Nat):Int)=o by omega] at hsh;refine hsh.mono ?_;rintro e w' ⟨rfl,p2,r2,k2⟩;refine⟨rfl,bU ⟨_,p2,r2,(hU E.K s1 o.toNat).M.trans m1,fun hk hph y' hf=>?_,k1.trans k2⟩⟩;by_cases Na:k=0
   .have:y'=o.toNat:=by
     rw[hfl] at hf
     split at hf
     .injection hf with hf;rw[←hf,ho Na]
     .cases hf
    rw[this];exact kU hph
   .exact pC (fun h1p=>c1 (by omega) h1p y' hf) hph
  .by_cases Na:k=0
   .have:=ho Na
    rw[hfl,if_neg (by omega)] at hf
    cases hf
   .exact c1 (by omega) hph y' hf)
 have DR:Hid (∀W0 wr,Below W.heap.size W W0→Sh W0 wr C E c ws N x s G y i 2→(wr.cell? (aj (E.A 26) 7)=some (af (aj (E.A 25)))/\wr.cell? (aj w.heap.size 2)=some (U i))/\(ak 180 #[af (aj (E.A 25))] wr.drew fun e w'=>e=ae (af (aj (E.A 0)))/\w'=wr.drew)/\ak 190 #[af (aj (E.A 0)),U y,U i,U tv] wr.drew fun e w2=>e=ae (U 0)/\Hid (rN w w2 C E c ws N (Go.Gc.gu C x y i (tv+1)) 0)):=bU (fun W0 wr hb ⟨s1,p1,r1,m1,c1,k1⟩=>by
  have cN:=fj hB hb;have p2:=p1.cA L (bd (bV _ _));have o2:cj wr w.heap.size (sB q) 54:=(bO.cA hb).bY k1 (iF L h (av _));have s2:=(bS.cA hb).bY k1 (iF L h (by omega));have o3:wr.cell? (aj w.heap.size 2)=some (U i):=by rw[←hi];exact o2.cell 2
  have Oe:iy s1 G y:=⟨by rw[←r1.T,rp.T];exact hv.1,hv.2⟩;have Fe:cU E.K s1.M y=some (r,u):=by rw[m1];exact hs
  obtain⟨k',Up,X',Rj⟩:=me L.e p2.cp.co.mp (I.tn y hv.1) Fe;refine⟨⟨p1.cells.2.1,o3⟩,(ic p2.cp).mono (fun e w' ⟨a,b⟩=>⟨a,b.symm⟩),?_⟩;refine(sS (c:=E.c) p2.cp.co.mp.cx (F7 L.e) Rj h1 GV (by show tv<(E.n:Int);exact GW)).mono ?_;rintro e w2 ⟨rfl,x2,k2⟩;have a2:=p2.set L r1 Oe Fe (i:=i) (by omega) x2 k2 (fun _=>⟨by omega,by rw[hKn];omega,fun h0=>by
   have:=hvt (by omega);rw[show tv+1-1=tv by omega];exact⟨by rw[←r1.T,rp.T];exact this.1,this.2⟩⟩) (fun hph y' hf=>c1 (by omega) hph y' (by rw[m1] at hf;exact hf)) gn
  exact⟨rfl,bU ⟨_,⟨a2.hv,a2.rg,((cu.cD cN).trans k1).trans ((cu.refl _ wr).drew.trans a2.ch)⟩,(s2.cA (bd (bV _ _))).bY a2.ch (iF L h (by omega))⟩⟩)
 have HT:=bU (fun w1 z=>fD w1 z);have HM:=bU (fun w1 w2 (a:rN w w1 C E c ws N (Go.Gc.gu C x y i (tv+1)) 0) hb=>a.told L h (w2:=w2) hb);have HVO:=bU hvo;have HVT:=bU hvt;have X0:=Ss (dx C x y i-1) tv;have X1:=Su (dx C x y i-1) tv;rw[hi] at c2 dF;subst hte;clear h L bO bS hB hy hh eF hK I ob ew h1 hi hzr hKn hsm hfl hvt hvo hs hv hp htv GV GW hsl hqx rp gn;generalize Go.Gc.gu C x y i ((-1)+1)=xs at *;generalize dx C x y i-1=ov at *;go_enter func139,ntmps139;go_wp2_with (first
  | (go_at_call 185;(with_reducible refine dF.mono ?_);rintro e w1 ⟨rfl,hb⟩;obtain⟨y4,dS⟩:=DS.out w1 hb;clear hb)
  | (go_at_call 108;(with_reducible refine dS.mono ?_);rintro e w2 ⟨rfl,z4,hX⟩;obtain⟨⟨y7,y2⟩,dB,dW⟩:=DW.out w2 hX.out))
 clear hW c2 dF dS y4 z4;go_region_held3 (fun V=>V.cell? (aj (E.A 26) 7)=some (af (aj (E.A 25)))/\V.cell? (aj w.heap.size 2)=some (U i)) (first|exact hc|go_keep)
  (first
   | (go_at_call 180;(with_reducible refine dB.mono ?_);rintro e w3 ⟨rfl,rfl⟩)
   | (go_at_call 187;(with_reducible refine dW.mono ?_);rintro e w4 ⟨rfl,hc,-,hY⟩))
 all_goals
  clear dW dB hc y7 y2;go_wp2_with fail
  go_loopw [73] (fun v wr=>∃k:Nat,k<=2/\v=U k/\Hid (Sh w4 wr C E c ws N x s G y i k)) (fun v _=>2-(intOf v).toNat)
  case atStart=>exact⟨0,by omega,rfl,bU (H0.out w4 hY.out)⟩
  case round=>
   obtain⟨k,hk,rfl,hS⟩:=hrel;have Md:k=0\/k=1\/k=2:=by omega
   rcases Md with rfl|rfl|rfl
   .obtain⟨y7,hA,hN⟩:=HS.out w4 wr 0 ov HVO.out (fun _=>rfl) hY.out hS.out
    have DRh:=DR;clear X1 hS DR HS;by_cases h0:0<=ov
    .have dA:=hA h0
     have e3:decide (0<=ov)=true:=aw h0;clear hA hN;go_wp2_with (go_at_call 188;(with_reducible refine dA.mono ?_);rintro e w5 ⟨rfl,hQ⟩)
     exact⟨⟨1,by omega,rfl,hQ⟩,by decide⟩
    .have e3:decide (0<=ov)=false:=az h0
     have hQ:=bU (hN (by omega));clear hA hN;go_wp2_with fail;exact⟨⟨1,by omega,rfl,hQ⟩,by decide⟩
   .obtain⟨y7,hA,hN⟩:=HS.out w4 wr 1 (-1) HVT.out (fun h=>by omega) hY.out hS.out
    clear X0 hS DR HS;by_cases h0:0<=(-1)
    .exact absurd h0 (by decide)
    .have e3:decide (0<=(-1))=false:=az h0
     have hQ:=bU (hN (by omega));clear hA hN;go_wp2_with fail;exact⟨⟨2,by omega,rfl,hQ⟩,by decide⟩
   .obtain⟨⟨y7,y2⟩,dB,dR⟩:=DR.out w4 wr hY.out hS.out
    clear X0 X1 hS DR HS;go_wp2_with fail;refine wp_region_still_tail 9 (by kernel_rfl) (by kernel_rfl) ?_;simp only[List.take_succ_cons,List.take_zero,List.drop_succ_cons,List.drop_zero]
    repeat (first|still_step|still_call dB)
    refine wpStill_nil ?_
    change wpList _ _ _ _ _ wr.drew
    clear y7 y2 dB;go_wp2_with (first
     | (go_at_call 190;(with_reducible refine dR.mono ?_);rintro e w5 ⟨rfl,hM⟩)
     | (go_at_call 75;(with_reducible refine(HT.out _ _).mono ?_);rintro e w6 ⟨rfl,hb⟩;obtain⟨bz,hZ⟩:=HM.out w5 w6 hM.out hb;clear hb)
     | (refine wpList_store_row rfl _ _ _ rfl (w.heap.size+1) (cX (Sn.told 0)) rfl rfl 38 eY bz cG rfl (eE _) ?_))
    refine bodyPost_ret (results_cell_row rfl _ _ (w.heap.size+1) 38 (cX (Sn.told 0)) (0,0) _ rfl (hZ.out _).1 underlying38 rfl cG) rfl ?_;exact⟨rfl,(hZ.out _).2⟩
attribute [local irreducible] wpStill in
set_option maxHeartbeats 1000000 in
theorem C9{w:World}{C:cV}{E:Env}{c:cF}{ws:List Int}{N:Int}{x:V}(L:Lk C E c)(h:Hv w C E c ws N x)(q:iJ){y r u:Nat}(hy:ja x y)(hh:cU C.K x.v.M y=some (r,u)){i:Nat}(hi:q.a=i)(h1:i<r){j:Nat}{en:eG}(hsl:fP C x q.x=some (j,en))(uI:0<q.x)(p7:q.x<18446744073709551616):ak 139 #[af (aj (E.A 26)),.agg #[ab q.code,aa q.h,U q.a,U q.b,aa q.x],U y] w (j9 C E c ws N (Go.Gc.gu C x y i ((en.slot:Int)+1),Sn.told 0) 0 w):=by
 obtain⟨W,hW⟩:=al ((w.alloc (.cells #[ab q.code,aa q.h,U q.a,U q.b,aa q.x] 54)).alloc (.cells #[U 0,aa 0,aa 0,U 0,U 0,U 0,U 0,.bool false] 38));obtain⟨hB,bO,bS⟩:=(gG w q).out W hW;obtain⟨s,G,hp,rp,gn⟩:=h.cA L hB;have c2:W.cell? (aj w.heap.size 2)=some (U q.a):=bO.cell 2;have dF:=jb L hp rp hy hh q.a;have eF:fU r u q.a=(true,0):=by unfold fU;rw[if_neg (by omega),aw (by omega)]
 rw[eF] at dF;obtain⟨tv,hte⟩:∃tv:Int,tv=(en.slot:Int):=⟨_,rfl⟩;have hqx:q.x=q.x:=rfl;have hvs:=wm L rp hsl;have htv:0<=tv→ja x tv.toNat:=fun _=>by rw[hte,aG];exact hvs
 have GV: -1<=tv:=by omega
 have GW:tv<(E.n:Int):=by have:=(Rp.uP L rp).tn en.slot (Rp.Eg rp hvs).1;have:en.slot<E.n:=this;omega
 rw[←hte];have hK:C.K.Ok:=by rw[L.cK];exact L.e.K
 have hv:=Rp.Eg rp hy;have I:=Rp.uP L rp;have hs:cU E.K s.M y=some (r,u):=by rw[←L.cK,←rp.head hK hv];exact hh
 obtain⟨k,rr,X,ob⟩:=me L.e hp.cp.co.mp (I.tn y hv.1) hs;have hzr:=rp.ok.rf y i hy.1 hy.2 (by rw[jO hh];exact h1);have hzr:0<=dx C x y i/\dx C x y i<=C.K.n:=hzr;have hKn:C.K.n=E.n:=by rw[L.cK];rfl
 have ew:at' E.bs E.tn ws (addrOf E.pw E.rs y+1+i)=dx C x y i:=by
  have hin:=ob.IP hp.cp.co.mp.cx;have hft:=ob.fit;have C1:=fw hh;have ha:C.K.addr y=addrOf E.pw E.rs y:=by rw[L.cK];rfl
  have hin:addrOf E.pw E.rs y+rr.size<=E.pg*E.pw:=hin;rw[←hp.cp.co.mp.mem _ (by omega),←ha];exact(rp.word hv (by omega) (by omega)).symm
 have DW:Hid (∀w1,Below W.heap.size W w1→(w1.cell? (aj (E.A 26) 7)=some (af (aj (E.A 25)))/\w1.cell? (aj w.heap.size 2)=some (U i))/\(ak 180 #[af (aj (E.A 25))] w1.drew fun e w'=>e=ae (af (aj (E.A 0)))/\w1.drew=w')/\ak 187 #[af (aj (E.A 0)),U y,U i] w1.drew fun e w2=>e=ae (.tuple #[U (dx C x y i-1),U 0])/\(w2.cell? (aj (E.A 26) 7)=some (af (aj (E.A 25)))/\w2.cell? (aj w.heap.size 2)=some (U i))/\cj w2 (w.heap.size+1) eY 38/\Hid (Below W.heap.size W w2)):=bU (fun w1 hb=>by
  have p1:=hp.cA L hb;have p2:=hp.cA L (bd hb);have o1:(w1.cell? (aj w.heap.size 2))=some (U i):=by rw[←hi];exact(bO.cA hb).cell 2
  refine⟨⟨p1.cells.2.1,o1⟩,ic p2.cp,?_⟩;have dw:=qX (c:=E.c) p2.cp.co.mp.cx ob h1 (by rw[show at' E.c.bs E.c.tn ws (addrOf E.c.pw E.c.rs y+1+i)=dx C x y i from ew];show _<=(E.n:Int);omega);rw[show at' E.c.bs E.c.tn ws (addrOf E.c.pw E.c.rs y+1+i)=dx C x y i from ew] at dw;refine dw.mono ?_;rintro e w2 ⟨rfl,cN⟩;have dJ:=fj (bd hb) cN;have p3:=hp.cA L dJ;exact⟨rfl,⟨p3.cells.2.1,by rw[←hi];exact(bO.cA dJ).cell 2⟩,bS.cA dJ,bU dJ⟩)
 have hsm:s.M (C.K.addr y+1+i)=dx C x y i:=(rp.word hv (by omega) (by have:=fw hh;omega)).symm;have hfl:iW C.K s.M y i=if 0<dx C x y i then some (dx C x y i-1).toNat else none:=by
  have hrf:refs C.K s.M y=r:=by unfold refs;rw[←rp.head hK hv,hh]
  unfold iW;rw[hrf,hsm];by_cases c1:0<dx C x y i
  .rw[if_pos c1,if_pos ⟨h1,c1,hzr.2⟩]
  .rw[if_neg c1,if_neg (fun c=>c1 c.2.1)]
 have hvt:0<=tv→iy s G tv.toNat:=fun ht=>Rp.Eg rp (htv ht)
 have hvo:0<=dx C x y i-1→iy s G (dx C x y i-1).toNat:=fun ho=>rp.I.jo y i _ hv (by rw[hfl,if_pos (by omega)])
 have DS:Hid (∀w1,Below W.heap.size W w1→w1.cell? (aj w.heap.size 4)=some (aa q.x)/\ak 108 #[af (aj (E.A 26)),aa q.x] w1 fun e w2=>e=ae (.tuple #[U en.slot,.bool true])/\w2.cell? (aj w.heap.size 4)=some (aa q.x)/\Hid (Below W.heap.size W w2)):=bU (fun w1 hb=>by
  have ds:=iK L (hp.cA L hb) rp.es (z:=q.x) (by omega) (by omega);have hq.x:(Value.int .u64 q.x)=aa q.x:=by rw[hqx]
  rw[hsl,hq.x] at ds;refine⟨((bO.cA hb).cell 4).trans (congrArg some hq.x),ds.mono ?_⟩;rintro e w2 ⟨rfl,cN⟩;exact⟨rfl,((bO.cA (fj hb cN)).cell 4).trans (congrArg some hq.x),bU (fj hb cN)⟩)
 have H0:Hid (∀W0,Below W.heap.size W W0→Sh W0 W0 C E c ws N x s G y i 0):=bU (fun W0 hb=>⟨s,hp.cA L hb,rp,rfl,fun h=>by omega,cu.refl _ _⟩);have HS:Hid (∀W0 wr k (o:Int),(0<=o→iy s G o.toNat)→(k=0→o=dx C x y i-1)→Below W.heap.size W W0→Sh W0 wr C E c ws N x s G y i k→wr.cell? (aj (E.A 26) 7)=some (af (aj (E.A 25)))/\(0<=o→ak 188 #[af (aj (E.A 25)),U o] wr fun e w'=>e=ae (U 0)/\Hid (Sh W0 w' C E c ws N x s G y i (k+1)))/\(o<0→Sh W0 wr C E c ws N x s G y i (k+1))):=bU (fun W0 wr k o GX ho hb ⟨s1,p1,r1,m1,c1,k1⟩=>by
  refine⟨p1.cells.2.1,fun h0=>?_,fun h0=>⟨s1,p1,r1,m1,fun hk hph y' hf=>?_,k1⟩⟩
  .have GY:iy s1 G o.toNat:=⟨by rw[←r1.T,rp.T];exact(GX h0).1,(GX h0).2⟩
   have hsh:=p1.fO L r1 GY;rw[show((o.toNat:Nat):Int)=o by omega] at hsh;refine hsh.mono ?_;rintro e w' ⟨rfl,p2,r2,k2⟩;refine⟨rfl,bU ⟨_,p2,r2,(hU E.K s1 o.toNat).M.trans m1,fun hk hph y' hf=>?_,k1.trans k2⟩⟩;by_cases Na:k=0
   .have:y'=o.toNat:=by
     rw[hfl] at hf
     split at hf
     .injection hf with hf;rw[←hf,ho Na]
     .cases hf
    rw[this];exact kU hph
   .exact pC (fun h1p=>c1 (by omega) h1p y' hf) hph
  .by_cases Na:k=0
   .have:=ho Na
    rw[hfl,if_neg (by omega)] at hf
    cases hf
   .exact c1 (by omega) hph y' hf)
 have DR:Hid (∀W0 wr,Below W.heap.size W W0→Sh W0 wr C E c ws N x s G y i 2→(wr.cell? (aj (E.A 26) 7)=some (af (aj (E.A 25)))/\wr.cell? (aj w.heap.size 2)=some (U i))/\(ak 180 #[af (aj (E.A 25))] wr.drew fun e w'=>e=ae (af (aj (E.A 0)))/\w'=wr.drew)/\ak 190 #[af (aj (E.A 0)),U y,U i,U tv] wr.drew fun e w2=>e=ae (U 0)/\Hid (rN w w2 C E c ws N (Go.Gc.gu C x y i (tv+1)) 0)):=bU (fun W0 wr hb ⟨s1,p1,r1,m1,c1,k1⟩=>by
  have cN:=fj hB hb;have p2:=p1.cA L (bd (bV _ _));have o2:cj wr w.heap.size (sB q) 54:=(bO.cA hb).bY k1 (iF L h (av _));have s2:=(bS.cA hb).bY k1 (iF L h (by omega));have o3:wr.cell? (aj w.heap.size 2)=some (U i):=by rw[←hi];exact o2.cell 2
  have Oe:iy s1 G y:=⟨by rw[←r1.T,rp.T];exact hv.1,hv.2⟩;have Fe:cU E.K s1.M y=some (r,u):=by rw[m1];exact hs
  obtain⟨k',Up,X',Rj⟩:=me L.e p2.cp.co.mp (I.tn y hv.1) Fe;refine⟨⟨p1.cells.2.1,o3⟩,(ic p2.cp).mono (fun e w' ⟨a,b⟩=>⟨a,b.symm⟩),?_⟩;refine(sS (c:=E.c) p2.cp.co.mp.cx (F7 L.e) Rj h1 GV (by show tv<(E.n:Int);exact GW)).mono ?_;rintro e w2 ⟨rfl,x2,k2⟩;have a2:=p2.set L r1 Oe Fe (i:=i) (by omega) x2 k2 (fun _=>⟨by omega,by rw[hKn];omega,fun h0=>by
   have:=hvt (by omega);rw[show tv+1-1=tv by omega];exact⟨by rw[←r1.T,rp.T];exact this.1,this.2⟩⟩) (fun hph y' hf=>c1 (by omega) hph y' (by rw[m1] at hf;exact hf)) gn
  exact⟨rfl,bU ⟨_,⟨a2.hv,a2.rg,((cu.cD cN).trans k1).trans ((cu.refl _ wr).drew.trans a2.ch)⟩,(s2.cA (bd (bV _ _))).bY a2.ch (iF L h (by omega))⟩⟩)
 have HT:=bU (fun w1 z=>fD w1 z);have HM:=bU (fun w1 w2 (a:rN w w1 C E c ws N (Go.Gc.gu C x y i (tv+1)) 0) hb=>a.told L h (w2:=w2) hb);have HVO:=bU hvo;have HVT:=bU hvt;have X0:=Ss (dx C x y i-1) tv;have X1:=Su (dx C x y i-1) tv;rw[hi] at c2 dF;have e1:(q.x==0)=false:=by rw[aA];omega
 rw[←hte] at DS;clear hvs hte;clear h L bO bS hB hy hh eF hK I ob ew h1 hi hzr hKn hsm hfl hvt hvo hs hv hp htv GV GW hsl hqx rp gn;generalize Go.Gc.gu C x y i (tv+1)=xs at *;generalize dx C x y i-1=ov at *;go_enter func139,ntmps139;go_wp2_with (first
  | (go_at_call 185;(with_reducible refine dF.mono ?_);rintro e w1 ⟨rfl,hb⟩;obtain⟨y4,dS⟩:=DS.out w1 hb;clear hb)
  | (go_at_call 108;(with_reducible refine dS.mono ?_);rintro e w2 ⟨rfl,z4,hX⟩;obtain⟨⟨y7,y2⟩,dB,dW⟩:=DW.out w2 hX.out))
 clear hW c2 dF dS y4 z4;go_region_held3 (fun V=>V.cell? (aj (E.A 26) 7)=some (af (aj (E.A 25)))/\V.cell? (aj w.heap.size 2)=some (U i)) (first|exact hc|go_keep)
  (first
   | (go_at_call 180;(with_reducible refine dB.mono ?_);rintro e w3 ⟨rfl,rfl⟩)
   | (go_at_call 187;(with_reducible refine dW.mono ?_);rintro e w4 ⟨rfl,hc,-,hY⟩))
 all_goals
  clear dW dB hc y7 y2;go_wp2_with fail
  go_loopw [73] (fun v wr=>∃k:Nat,k<=2/\v=U k/\Hid (Sh w4 wr C E c ws N x s G y i k)) (fun v _=>2-(intOf v).toNat)
  case atStart=>exact⟨0,by omega,rfl,bU (H0.out w4 hY.out)⟩
  case round=>
   obtain⟨k,hk,rfl,hS⟩:=hrel;have Md:k=0\/k=1\/k=2:=by omega
   rcases Md with rfl|rfl|rfl
   .obtain⟨y7,hA,hN⟩:=HS.out w4 wr 0 ov HVO.out (fun _=>rfl) hY.out hS.out
    have DRh:=DR;clear X1 hS DR HS;by_cases h0:0<=ov
    .have dA:=hA h0
     have e3:decide (0<=ov)=true:=aw h0;clear hA hN;go_wp2_with (go_at_call 188;(with_reducible refine dA.mono ?_);rintro e w5 ⟨rfl,hQ⟩)
     exact⟨⟨1,by omega,rfl,hQ⟩,by decide⟩
    .have e3:decide (0<=ov)=false:=az h0
     have hQ:=bU (hN (by omega));clear hA hN;go_wp2_with fail;exact⟨⟨1,by omega,rfl,hQ⟩,by decide⟩
   .obtain⟨y7,hA,hN⟩:=HS.out w4 wr 1 tv HVT.out (fun h=>by omega) hY.out hS.out
    clear X0 hS DR HS;by_cases h0:0<=tv
    .have dA:=hA h0
     have e3:decide (0<=tv)=true:=aw h0;clear hA hN;go_wp2_with (go_at_call 188;(with_reducible refine dA.mono ?_);rintro e w5 ⟨rfl,hQ⟩)
     exact⟨⟨2,by omega,rfl,hQ⟩,by decide⟩
    .have e3:decide (0<=tv)=false:=az h0
     have hQ:=bU (hN (by omega));clear hA hN;go_wp2_with fail;exact⟨⟨2,by omega,rfl,hQ⟩,by decide⟩
   .obtain⟨⟨y7,y2⟩,dB,dR⟩:=DR.out w4 wr hY.out hS.out
    clear X0 X1 hS DR HS;go_wp2_with fail;refine wp_region_still_tail 9 (by kernel_rfl) (by kernel_rfl) ?_;simp only[List.take_succ_cons,List.take_zero,List.drop_succ_cons,List.drop_zero]
    repeat (first|still_step|still_call dB)
    refine wpStill_nil ?_
    change wpList _ _ _ _ _ wr.drew
    clear y7 y2 dB;go_wp2_with (first
     | (go_at_call 190;(with_reducible refine dR.mono ?_);rintro e w5 ⟨rfl,hM⟩)
     | (go_at_call 75;(with_reducible refine(HT.out _ _).mono ?_);rintro e w6 ⟨rfl,hb⟩;obtain⟨bz,hZ⟩:=HM.out w5 w6 hM.out hb;clear hb)
     | (refine wpList_store_row rfl _ _ _ rfl (w.heap.size+1) (cX (Sn.told 0)) rfl rfl 38 eY bz cG rfl (eE _) ?_))
    refine bodyPost_ret (results_cell_row rfl _ _ (w.heap.size+1) 38 (cX (Sn.told 0)) (0,0) _ rfl (hZ.out _).1 underlying38 rfl cG) rfl ?_;exact⟨rfl,(hZ.out _).2⟩
end Hp
namespace Hp
open Go.RowKit Go.bZ Go.Gc Go.Cf Cn Go.Proofs.YtgblmelijlgimaaGreatDoor.Fd Sl Bd Ca Hd Tb Mk Sw Cy
structure Fb(w:World)(E:Env)(q3 ky kX sz:Nat):Prop where
 b3:cj w q3 #[af (aj (E.A 26))] 82
 Ly:cj w ky #[U sz] 3
 Jc:cj w kX #[.func (.func 175) #[] #[af (aj q3),af (aj ky)]] 31
theorem Fb.bY{S:Nat→Prop}{w w':World}{E:Env}{q3 ky kX sz:Nat}(h:Fb w E q3 ky kX sz)(hc:cu S w w')(h1:¬S q3)(h2:¬S ky)(h3:¬S kX):Fb w' E q3 ky kX sz:=⟨h.b3.bY hc h1,h.Ly.bY hc h2,h.Jc.bY hc h3⟩
theorem Kw{C:cV}{E:Env}{c:cF}(L:Lk C E c)(T:Nat→Bool):fE C.K.size T C.K.n<=64*E.n:=by
 rw[L.cK];exact Ar.nx _ T E.n L.sz
theorem Af{C:cV}{E:Env}{c:cF}(L:Lk C E c){s:St}{G:Nat→Bool}{x:V}(r:Rp C s G x):0<=x.v.used/\x.v.used<=4194304:=by
 have h:=r.ok.us;have h2:=Kw L x.v.T;have h3:=L.e.n2;omega
theorem wu{w:World}{C:cV}{E:Env}{c:cF}{ws:List Int}{N:Int}{x:V}(L:Lk C E c)(h:Hv w C E c ws N x){q3 ky kX sz:Nat}(hs:sz<=64)(fb:Fb w E q3 ky kX sz):ak 175 #[af (aj q3),af (aj ky)] w fun e w'=>e=ae (.bool (decide (x.v.used+(sz:Int)<=(C.fV:Int))))/\∃m,w'=w.drewN m:=by
 obtain⟨s,G,hp,r,gn⟩:=h;have DA:=bU (fun n=>oZ (hp.cA L (jh (bV _ _) n)).cp);have DU:=bU (fun n=>Ar.zE (hp.cA L (jh (bV _ _) n)).cp.co.ar);have eu:=r.used;rw[←eu] at DU;obtain⟨u0,u1⟩:=Af L r;have c3:w.cell? (aj q3)=some (af (aj (E.A 26))):=fb.b3.cell 0;have Wr:w.cell? (aj ky)=some (U sz):=fb.Ly.cell 0;have c6:=hp.cells.1;have c7:=hp.cells.2.1;obtain⟨z,b⟩:=hp.b;have ct:w.cell? (aj (E.A 26) 2)=some (ai (aj c.gt c.ot) c.ts.length c.ct):=b.cell 2;have htl:=L.tl;have cq:=(hp.cf.LD E.tn htl).1;have eq:C.fV=c.ts[E.tn].q:=by rw[L.cq,ao,aq htl];rfl
 rw[←eq] at cq;have hx:0<=(E.tn:Int)/\(E.tn:Int)<(c.ts.length:Int):=by omega
 obtain⟨uI,p7⟩:=hx;have JZ:(sz:Int)<=64:=by omega
 have Fe:(0:Int)<=(sz:Int):=by omega
 clear hp r gn b L eu fb htl eq;generalize x.v.used=u at *;generalize C.fV=qt at *;generalize (sz:Int)=si at *;go_enter func175,ntmps175;go_wp2_with fail
 go_quiet ((first|(go_at_call 77;exact Calls.quiet_of_same ((DA.out _).mono (fun e w' h=>⟨h.1,h.2.symm⟩)))|(go_at_call 78;exact Calls.quiet_of_same ((DU.out _).mono (fun e w' h=>⟨h.1,h.2.symm⟩)))))
 go_wp2_with fail;go_ret;exact⟨rfl,_,rfl⟩
def GZ(C:cV)(sz:Nat)(z:V):Bool:=decide (z.v.used+(sz:Int)<=(C.fV:Int))&&decide (0<ek z.v.es)
theorem G9{w:World}{C:cV}{E:Env}{c:cF}{ws:List Int}{N:Int}{x:V}(L:Lk C E c)(h:Hv w C E c ws N x){q3 ky kX sz:Nat}(hs:sz<=64)(fb:Fb w E q3 ky kX sz):ak 177 #[af (aj kX),af (aj q3)] w fun e w'=>e=ae (.bool (GZ C sz x))/\Below w.heap.size w w':=by
 have d1:=wu L h hs fb;have c3:w.cell? (aj q3)=some (af (aj (E.A 26))):=fb.b3.cell 0;have Ws:w.cell? (aj kX)=some (.func (.func 175) #[] #[af (aj q3),af (aj ky)]):=fb.Jc.cell 0;have DF:Hid (∀m,ak 178 #[af (aj (E.A 26))] (w.drewN m) fun e w'=>e=ae (.bool (decide (0<ek x.v.es)))/\w.drewN m=w'):=bU (fun m=>by
  obtain⟨s,G,hp,r,gn⟩:=h.cA L (jh (bV _ _) m);have:=kE hp
  rwa [←r.es] at this)
 clear h fb L;unfold GZ
 cases ha:decide (x.v.used+(sz:Int)<=(C.fV:Int))
 .rw[ha] at d1
  go_enter func177,ntmps177;go_wp2_with (go_at_call 175;(with_reducible refine d1.mono ?_);rintro e w1 ⟨rfl,m,rfl⟩)
  go_ret;exact⟨rfl,jh (bV _ _) m⟩
 .rw[ha] at d1
  rw[Bool.true_and];go_enter func177,ntmps177;go_wp2_with (first
   | (go_at_call 175;(with_reducible refine d1.mono ?_);rintro e w1 ⟨rfl,m,rfl⟩)
   | (go_at_call 178;(with_reducible refine(DF.out m).mono ?_);rintro e w2 ⟨rfl,rfl⟩))
  go_ret;exact⟨rfl,jh (bV _ _) m⟩
theorem Nb{w0 w:World}{C:cV}{E:Env}{c:cF}{ws:List Int}{N:Int}{x:V}(L:Lk C E c)(h:Hv w C E c ws N x){q3 ky kX sz:Nat}(hs:sz<=64)(fb:Fb w0 E q3 ky kX sz)(h3:w.heap.size<=q3)(Sv:w.heap.size<=ky)(Sy:w.heap.size<=kX):P9 w0 C E c 177 #[af (aj kX),af (aj q3)] (GZ C sz):=fun _ _ _ _ hc hv=>
 G9 L hv hs (fb.bY hc (iF L h h3) (iF L h Sv) (iF L h Sy))
end Hp
namespace Hd
open Go.Proofs.YtgblmelijlgimaaGreatDoor.Fd
theorem my{w a n v:Nat}(hw:w<2^a)(hv:v<2^n)(h:a+n<=64)(hm:iU n=2^n-1):gu w a n v=w+v*2^a:=by
 have h1:1<=2^n:=Nat.one_le_two_pow;have h2:2^(n+a)<=2^64:=Nat.pow_le_pow_right (by omega) (by omega);have h3:(2^n-1)*2^a<18446744073709551616:=by
  have:(2^n-1)*2^a<2^n*2^a:=Nat.mul_lt_mul_of_pos_right (by omega) (Nat.two_pow_pos a);rw[←Nat.pow_add] at this;exact aB this h2
 have h4:v*2^a<18446744073709551616:=by
  have:v*2^a<2^n*2^a:=Nat.mul_lt_mul_of_pos_right hv (Nat.two_pow_pos a);rw[←Nat.pow_add] at this;exact aB this h2
 unfold gu;rw[hm,bf h3,bf h4];have e1:w &&& (18446744073709551615-(2^n-1)*2^a)=w:=by
  apply Nat.eq_of_testBit_eq;intro i;rw[Nat.testBit_and];by_cases hi:i<a
  .have:(18446744073709551615-(2^n-1)*2^a).testBit i=true:=by
    rw[show 18446744073709551615-(2^n-1)*2^a=2^64-((2^n-1)*2^a+1) by omega,Nat.testBit_two_pow_sub_succ h3];rw[←Nat.shiftLeft_eq,Nat.testBit_shiftLeft];have:decide (i>=a)=false:=az (by omega);rw[this];simp;omega
   rw[this,Bool.and_true]
  .have:w.testBit i=false:=Nat.testBit_lt_two_pow (aB hw (Nat.pow_le_pow_right (by omega) (by omega)))
   rw[this,Bool.false_and]
 rw[e1,Nat.or_comm,←Nat.shiftLeft_eq,←Nat.shiftLeft_add_eq_or_of_lt hw,Nat.add_comm]
theorem Kx(k r u:Nat)(hk:k<8)(h:r+u<=63):zt (vz k r u)=some (k,r,u):=by
 have e:vz k r u=u*65536+r*4294967296+k*281474976710656+199*72057594037927936:=by
  unfold vz;have a0:gu 0 0 16 0=0:=by rw[my (by omega) (by omega) (by omega) rfl]
  have a1:gu 0 16 16 u=u*65536:=by rw[my (by omega) (by omega) (by omega) rfl];omega
  have a2:gu (u*65536) 32 16 r=u*65536+r*4294967296:=by rw[my (by omega) (by omega) (by omega) rfl]
  have a3:gu (u*65536+r*4294967296) 48 8 k=u*65536+r*4294967296+k*281474976710656:=by rw[my (by omega) (by omega) (by omega) rfl]
  have a4:gu (u*65536+r*4294967296+k*281474976710656) 56 8 199=u*65536+r*4294967296+k*281474976710656+199*72057594037927936:=by rw[my (by omega) (by omega) (by omega) rfl]
  show gu (gu (gu (gu (gu 0 0 16 0) 16 16 u) 32 16 r) 48 8 k) 56 8 199=_;rw[a0,a1,a2,a3,a4]
 rw[e];unfold zt dy;rw[if_pos (by omega)]
 congr 2
 .omega
 .congr 1 <;> omega
end Hd
end Go.Proofs.YtgblmelijlgimaaGreatDoor
