/- Parts of the proof of TopApart. -/
import Derived.Test.YtgblmelijlgimaaGreatDoorZTopBC
set_option maxRecDepth 100000
namespace Go.Proofs.YtgblmelijlgimaaGreatDoor
open Go.Proofs.Tryz
namespace Hp
open Go.RowKit Go.bZ Go.Gc Go.Cf Cn Go.Proofs.YtgblmelijlgimaaGreatDoor.Fd Sl Bd Ca Hd Tb Mk Sw Cy
def rN(w w1:World)(C:cV)(E:Env)(c:cF)(ws:List Int)(N:Int)(x':V)(n:Int):Prop:=∃cR,fF w w1 C E c ws N x' n cR/\cj w1 (w.heap.size+1) eY 38
def j9(C:cV)(E:Env)(c:cF)(ws:List Int)(N:Int)(p:V×Sn)(n:Int)(w:World)(e:Ending)(w':World):Prop:=e=ae (.agg (cX p.2))/\∃cR,fF w w' C E c ws N p.1 n cR
theorem rN.told{w w1 w2:World}{C:cV}{E:Env}{c:cF}{ws uO:List Int}{N N0 n:Int}{x' x0:V}(L:Lk C E c)(h0:Hv w C E c uO N0 x0)(h:rN w w1 C E c ws N x' n)(hb:Below w1.heap.size w1 w2):cj w2 (w.heap.size+1) eY 38/\Hid (∀s,cj (w2.setRow (w.heap.size+1) (cX s)) (w.heap.size+1) (cX s) 38/\∃cR,fF w (w2.setRow (w.heap.size+1) (cX s)) C E c ws N x' n cR):=by
 obtain⟨cR,a,b⟩:=h;have b2:=b.cA hb;refine⟨b2,bU (fun s=>⟨b2.setRow _,cR,?_⟩)⟩;have a2:=a.bl L hb;have hk:Below w.heap.size w2 (w2.setRow (w.heap.size+1) (cX s)):=((cu.refl (fun k=>k=w.heap.size+1) w2).row (p:=w.heap.size+1) (.inl rfl) _).below (by have:=b2.lt;omega) (fun k hk=>by have hk:k=w.heap.size+1:=hk;omega);exact a2.iv L h0 hk
theorem Hv.frame{w W:World}{C:cV}{E:Env}{c:cF}{ws:List Int}{N:Int}{x:V}(L:Lk C E c)(h:Hv w C E c ws N x)(hB:Below w.heap.size w W)(b:cj W (w.heap.size+1) eY 38):rN w W C E c ws N x 0:=⟨ws,fF.none L h hB,b⟩
theorem rN.jP{w W w1:World}{C:cV}{E:Env}{c:cF}{ws fS:List Int}{N n:Int}{x x':V}(L:Lk C E c)(h0:Hv w C E c ws N x)(hB:Below w.heap.size w W)(b:cj W (w.heap.size+1) eY 38)(a:fF W w1 C E c ws N x' n fS):rN w w1 C E c ws N x' n:=
 ⟨fS,⟨a.hv,a.rg,(cu.cD hB).trans a.ch⟩,b.bY a.ch (iF L h0 (by omega))⟩
theorem Ks{w:World}{C:cV}{E:Env}{c:cF}{ws:List Int}{N:Int}{x:V}(L:Lk C E c)(h:Hv w C E c ws N x)(q:iJ){y:Nat}(hT:x.v.T y=true)(hG:x.v.G y=false):ak 140 #[af (aj (E.A 26)),.agg (sB q),U y] w (j9 C E c ws N (jJ x y) 0 w):=by
 obtain⟨W,hW⟩:=al ((w.alloc (.cells (sB q) 54)).alloc (.cells #[U 0,aa 0,aa 0,U 0,U 0,U 0,U 0,.bool false] 38));obtain⟨hB,bO,bS⟩:=(gG w q).out W hW;obtain⟨s,G,hp,r,gn⟩:=h.cA L hB;have hy:iy s G y:=⟨by rw[←r.T];exact hT,by rw[←r.G];exact hG⟩;have I:=Rp.uP L r;have hyn:y<s.cs.length:=by rw[hp.cp.co.mp.cl];exact I.tn y hy.1
 have c7:=hp.cells.2.1;have dN:=rA hp.cp;have eg:s.cs.getD y 0=s.cs[y]:=by rw[ao,aq hyn];rfl
 have dP:ak 192 #[af (aj (E.A 8)),U y] W fun e w1=>e=ae (U (jJ x y).2.e)/\Hid (rN w w1 C E c ws N (jJ x y).1 0):=by
  by_cases hv:s.cs[y]<255
  .have er:jJ x y=(q9 x y (x.v.cs.getD y 0+1),Sn.told 0):=by unfold jJ;rw[if_pos (by rw[r.cs,eg];exact hv)]
   rw[er];refine(Pn.Mg hp.cp.co.mp.pn y hyn hv).mono ?_;rintro e w1 ⟨rfl,p1,k1⟩;obtain⟨c1,k1⟩:=hp.cp.AY L.e k1 p1 (by rw[aI];exact hp.cp.co.mp.cl);have h1:=hp.gY L (k1.up (Om.of (l':=[9,11]) (by decide))) (by decide) c1;have r1:=r.AY hy (by rw[eg];exact hv);rw[eg] at r1;exact⟨rfl,bU (rN.jP L h hB bS ⟨by rw[Int.add_zero];exact⟨_,G,h1,r1,gn⟩,nc.refl _ _ _,k1.up (mx (by decide))⟩)⟩
  .have er:jJ x y=(x,Sn.told 140):=by unfold jJ;rw[if_neg (by rw[r.cs,eg];exact hv)]
   rw[er];refine(Pn.I9 hp.cp.co.mp.pn y hyn hv).mono ?_;rintro e w1 ⟨rfl,rfl⟩;exact⟨rfl,bU (h.frame L hB bS)⟩
 have e2:(jJ x y).2=Sn.told (jJ x y).2.e:=by unfold jJ;split <;> rfl
 have HM:=bU (fun w1 w2 (a:rN w w1 C E c ws N (jJ x y).1 0) hb=>a.told L h (w2:=w2) hb);unfold j9;rw[e2];have HT:=bU (fun w1=>fD w1 (jJ x y).2.e);clear h hp r gn I hy hT hG eg L bO bS hB e2;generalize (jJ x y).2.e=er at *;generalize (jJ x y).1=xr at *;go_enter func140,ntmps140;go_wp2_with (first
  | (go_at_call 191;(with_reducible refine dN.mono ?_);rintro e w1 ⟨rfl,rfl⟩)
  | (go_at_call 192;(with_reducible refine dP.mono ?_);rintro e w1 ⟨rfl,hM⟩)
  | (go_at_call 75;(with_reducible refine(HT.out _).mono ?_);rintro e w2 ⟨rfl,hb⟩;obtain⟨bz,hZ⟩:=HM.out w1 w2 hM.out hb;clear hb)
  | (refine wpList_store_row rfl _ _ _ rfl (w.heap.size+1) (cX (Sn.told er)) rfl rfl 38 eY bz cG rfl (eE _) ?_))
 refine bodyPost_ret (results_cell_row rfl _ _ (w.heap.size+1) 38 (cX (Sn.told er)) (0,0) _ rfl (hZ.out _).1 underlying38 rfl cG) rfl ?_;exact⟨rfl,(hZ.out _).2⟩
end Hp
namespace Hp
open Go.RowKit Go.bZ Go.Gc Go.Cf Cn Go.Proofs.YtgblmelijlgimaaGreatDoor.Fd Sl Bd Ca Hd Tb Mk Sw Cy
theorem nB.fO{w:World}{C:cV}{E:Env}{c:cF}{ws:List Int}{s:St}{G:Nat→Bool}{N:Int}{x:V}(L:Lk C E c)(hp:nB w C E c ws s N x.si x.cy x.v.act)(r:Rp C s G x){y:Nat}(hy:iy s G y):ak 188 #[af (aj (E.A 25)),U y] w fun e w'=>e=ae (U 0)/\nB w' C E c ws (fW E.K s y) N x.si x.cy x.v.act/\Rp C (fW E.K s y) G x/\cu (Om E Hl) w w':=by
 have I:=Rp.uP L r;refine(Gk L.e hp.cp (fun h1=>by rw[I.ac,h1];rfl) (I.tn y hy.1) I.ql).mono ?_;rintro e w' ⟨rfl,c1,k1⟩;have r1:=r.fO hy;rw[L.cK] at r1;exact⟨rfl,hp.gY L (k1.up (Om.of (l':=[12,13,14,15,16,17,18,19]) (by decide))) (by decide) c1,r1,k1.up (mx (by decide))⟩
theorem CY{w:World}{C:cV}{E:Env}{c:cF}{ws:List Int}{N:Int}{x:V}(L:Lk C E c)(h:Hv w C E c ws N x)(q:iJ){y:Nat}(hT:x.v.T y=true)(hG:x.v.G y=false):ak 141 #[af (aj (E.A 26)),.agg (sB q),U y] w (j9 C E c ws N (kV x y) 0 w):=by
 obtain⟨W,hW⟩:=al ((w.alloc (.cells (sB q) 54)).alloc (.cells #[U 0,aa 0,aa 0,U 0,U 0,U 0,U 0,.bool false] 38));obtain⟨hB,bO,bS⟩:=(gG w q).out W hW;obtain⟨s,G,hp,r,gn⟩:=h.cA L hB;have hy:iy s G y:=⟨by rw[←r.T];exact hT,by rw[←r.G];exact hG⟩;have I:=Rp.uP L r;have hyn:y<s.cs.length:=by rw[hp.cp.co.mp.cl];exact I.tn y hy.1
 have c7:=hp.cells.2.1;have dN:=rA hp.cp;have eg:s.cs.getD y 0=s.cs[y]:=by rw[ao,aq hyn];rfl
 have hcs:0<=s.cs[y]:=by have:=r.ok.cs s.cs[y] (by rw[r.cs];exact aF _);exact this.1
 have dC:=Pn.uZ hp.cp.co.mp.pn y hyn;have HT:=bU (fun w1 z=>fD w1 z);by_cases h0:s.cs[y]=0
 .have er:kV x y=(x,Sn.told 140):=by unfold kV;rw[if_pos (by rw[r.cs,eg];exact h0)]
  rw[er];rw[h0] at dC;have HM:Hid (∀w2,Below W.heap.size W w2→cj w2 (w.heap.size+1) eY 38/\Hid (∀s,cj (w2.setRow (w.heap.size+1) (cX s)) (w.heap.size+1) (cX s) 38/\∃cR,fF w (w2.setRow (w.heap.size+1) (cX s)) C E c ws N x 0 cR)):=bU (fun w2 hb=>(h.frame L hB bS).told L h hb);clear h hp r gn I hy hT hG eg L bO bS hB er h0 hcs;go_enter func141,ntmps141;go_wp2_with (first
   | (go_at_call 191;(with_reducible refine dN.mono ?_);rintro e w1 ⟨rfl,rfl⟩)
   | (go_at_call 193;(with_reducible refine dC.mono ?_);rintro e w1 ⟨rfl,rfl⟩)
   | (go_at_call 75;(with_reducible refine(HT.out _ _).mono ?_);rintro e w2 ⟨rfl,hb⟩;obtain⟨bz,hZ⟩:=HM.out w2 hb;clear hb)
   | (refine wpList_store_row rfl _ _ _ rfl (w.heap.size+1) (cX (Sn.told 140)) rfl rfl 38 eY bz cG rfl (eE _) ?_))
  refine bodyPost_ret (results_cell_row rfl _ _ (w.heap.size+1) 38 (cX (Sn.told 140)) (0,0) _ rfl (hZ.out _).1 underlying38 rfl cG) rfl ?_;exact⟨rfl,(hZ.out _).2⟩
 .have er:kV x y=(q9 x y (x.v.cs.getD y 0-1),Sn.told 0):=by unfold kV;rw[if_neg (by rw[r.cs,eg];exact h0)]
  rw[er];have e1:((s.cs[y])==0)=false:=by rw[aA];exact h0
  have DS:ak 188 #[af (aj (E.A 25)),U y] W fun e w1=>e=ae (U 0)/\w1.cell? (aj (E.A 26) 7)=some (af (aj (E.A 25)))/\(ak 191 #[af (aj (E.A 25))] w1 fun e w'=>e=ae (af (aj (E.A 8)))/\w1=w')/\ak 194 #[af (aj (E.A 8)),U y] w1 fun e w2=>e=ae (U 0)/\Hid (rN w w2 C E c ws N (q9 x y (x.v.cs.getD y 0-1)) 0):=by
   refine(hp.fO L r hy).mono ?_;rintro e w1 ⟨rfl,h1,r1,k1⟩;have hl:=hU E.K s y;have M9:(fW E.K s y).cs=s.cs:=hl.cs;refine⟨rfl,h1.cells.2.1,rA h1.cp,?_⟩;have pn:=h1.cp.co.mp.pn;rw[M9] at pn;refine(Pn.EE pn y hyn (by omega)).mono ?_;rintro e w2 ⟨rfl,p2,k2⟩;obtain⟨c2,k2⟩:=h1.cp.AY L.e k2 p2 (by rw[aI];exact hp.cp.co.mp.cl);have h2:=h1.gY L (k2.up (Om.of (l':=[9,11]) (by decide))) (by decide) c2;have Mf:iy (fW E.K s y) G y:=(hl.lJ G y).2 hy;have r2:=r1.OX Mf (by rw[M9,eg];exact h0) (fun hph=>kU hph);rw[M9,eg] at r2;exact⟨rfl,bU (rN.jP L h hB bS ⟨by rw[Int.add_zero];exact⟨_,G,h2,r2,gn⟩,nc.refl _ _ _,k1.trans (k2.up (mx (by decide)))⟩)⟩
  have HM:=bU (fun w1 w2 (a:rN w w1 C E c ws N (q9 x y (x.v.cs.getD y 0-1)) 0) hb=>a.told L h (w2:=w2) hb);clear h hp r gn I hy hT hG eg L bO bS hB er h0 hcs;generalize q9 x y (x.v.cs.getD y 0-1)=xr at *;generalize s.cs[y]=cv at *;go_enter func141,ntmps141;go_wp2_with (first
   | (go_at_call 191;(with_reducible refine dN.mono ?_);rintro e w1 ⟨rfl,rfl⟩)
   | (go_at_call 193;(with_reducible refine dC.mono ?_);rintro e w1 ⟨rfl,rfl⟩)
   | (go_at_call 188;(with_reducible refine DS.mono ?_);rintro e w1 ⟨rfl,y7,Qa,dU⟩;clear dN)
   | (go_at_call 191;(with_reducible refine Qa.mono ?_);rintro e w2 ⟨rfl,rfl⟩)
   | (go_at_call 194;(with_reducible refine dU.mono ?_);rintro e w3 ⟨rfl,hM⟩)
   | (go_at_call 75;(with_reducible refine(HT.out _ _).mono ?_);rintro e w4 ⟨rfl,hb⟩;obtain⟨bz,hZ⟩:=HM.out w3 w4 hM.out hb;clear hb)
   | (refine wpList_store_row rfl _ _ _ rfl (w.heap.size+1) (cX (Sn.told 0)) rfl rfl 38 eY bz cG rfl (eE _) ?_))
  refine bodyPost_ret (results_cell_row rfl _ _ (w.heap.size+1) 38 (cX (Sn.told 0)) (0,0) _ rfl (hZ.out _).1 underlying38 rfl cG) rfl ?_;exact⟨rfl,(hZ.out _).2⟩
end Hp
namespace Hp
open Go.RowKit Go.bZ Go.Gc Go.Cf Cn Go.Proofs.YtgblmelijlgimaaGreatDoor.Fd Sl Bd Ca Hd Tb Mk Sw Cy
theorem uu{C:cV}{E:Env}{c:cF}(L:Lk C E c){x:V}{z:Int}{i:Nat}{e:eG}(h:fP C x z=some (i,e)):∃g,dy z.toNat 0 32=g/\g≠0/\dy z.toNat 56 8=E.tn/\dy z.toNat 32 24=i/\x.v.es[i]?=some e/\e.state=1/\e.gen=g:=by
 unfold fP at h;rw[L.cr] at h;unfold OY at h;by_cases c1:dy z.toNat 0 32≠0/\dy z.toNat 56 8=E.tn
 .rw[if_pos c1] at h
  have h:(jD x.v.es (dy z.toNat 32 24) (dy z.toNat 0 32)).map (fun e=>(dy z.toNat 32 24,e))=some (i,e):=h;obtain⟨f,hf,he⟩:=Option.map_eq_some_iff.1 h;injection he with MS PZ;subst MS;subst PZ;unfold jD at hf
  split at hf
  .rename_i e0 h0
   split at hf
   .rename_i h1
    injection hf with hf;subst hf;exact⟨_,rfl,c1.1,c1.2,rfl,h0,h1.1,h1.2⟩
   .cases hf
  .cases hf
 .rw[if_neg c1] at h
  cases h
theorem wm{C:cV}{E:Env}{c:cF}(L:Lk C E c){s:St}{G:Nat→Bool}{x:V}(r:Rp C s G x){z:Int}{i:Nat}{e:eG}(h:fP C x z=some (i,e)):x.v.T e.slot=true/\x.v.G e.slot=false:=by
 obtain⟨g,-,-,-,-,h1,h2,-⟩:=uu L h;have:=r.live (by rw[←r.es];exact h1) h2;exact⟨by rw[r.T];exact this.1,by rw[r.G];exact this.2⟩
set_option maxHeartbeats 1000000 in
theorem Kt{w:World}{C:cV}{E:Env}{c:cF}{ws:List Int}{N:Int}{x:V}(L:Lk C E c)(h:Hv w C E c ws N x)(q:iJ){i:Nat}{e:eG}(hs:fP C x q.h=some (i,e))(Uo:0<=q.h)(Jb:q.h<18446744073709551616):ak 142 #[af (aj (E.A 26)),.agg (sB q),U e.slot] w (j9 C E c ws N (lh x i e) 0 w):=by
 obtain⟨W,hW⟩:=al ((w.alloc (.cells (sB q) 54)).alloc (.cells #[U 0,aa 0,aa 0,U 0,U 0,U 0,U 0,.bool false] 38));obtain⟨hB,bO,bS⟩:=(gG w q).out W hW;obtain⟨g,hg,O0,ht,hi,he,hst,hgn⟩:=uu L hs;obtain⟨X,hX⟩:∃X:Nat,q.h=X:=⟨q.h.toNat,by omega⟩;rw[hX,aG] at hg ht hi;have c1:W.cell? (aj w.heap.size 1)=some (aa q.h):=bO.cell 1;rw[hX] at c1;have dG:=Ca.get_some W X (by omega) (by rw[hg];exact O0);rw[ht,hi,hg] at dG;have D1:Hid (∀w1 W1,Below W.heap.size W w1→w1.alloc (.cells #[U E.tn,U i,.int .u32 g] 245)=W1→W1.cell? (aj (E.A 26) 7)=some (af (aj (E.A 25)))/\ak 188 #[af (aj (E.A 25)),U e.slot] W1 fun e0 w2=>e0=ae (U 0)/\(w2.cell? (aj (E.A 26) 7)=some (af (aj (E.A 25)))/\w2.cell? (aj w1.heap.size 1)=some (U i)/\w2.cell? (aj w1.heap.size 2)=some (.int .u32 g))/\(ak 145 #[af (aj (E.A 25))] w2.drew fun e w'=>e=ae (af (aj (E.A 6)))/\w2.drew=w')/\ak 195 #[af (aj (E.A 6)),U i,.int .u32 g] w2.drew fun e1 w3=>e1=ae (.tuple #[U e.slot,U 0])/\(w3.cell? (aj (E.A 26) 7)=some (af (aj (E.A 25)))/\w3.cell? (aj w1.heap.size 1)=some (U i)/\w3.cell? (aj w1.heap.size 2)=some (.int .u32 g))/\Hid (rN w w3 C E c ws N (lh x i e).1 0)):=bU (fun w1 W1 hb wq=>by
  subst wq;have dj:Below w.heap.size w w1:=fj hB hb;have IT:=bA dj (av _) (.cells #[U E.tn,U i,.int .u32 g] 245);have Qb:=(bS.cA hb).alloc (.cells #[U E.tn,U i,.int .u32 g] 245);have bC:=cj.new w1 #[U E.tn,U i,.int .u32 g] 245;obtain⟨s,G,hp,r,gn⟩:=h.cA L IT;have hes:s.es[i]?=some e:=by rw[←r.es];exact he
  have hv:=r.live hes hst;have hge:w.heap.size<=w1.heap.size:=dj.size;refine⟨hp.cells.2.1,(hp.fO L r hv).mono ?_⟩;rintro e0 w2 ⟨rfl,h1,r1,k1⟩;have hl:=hU E.K s e.slot;have Rh:=bC.bY k1 (iF L h hge);have hd:=h1.cA L (bd (bV _ _));have Og:(fW E.K s e.slot).es=s.es:=hl.es;have tb:=hd.cp.co.mp.tb;rw[Og] at tb;refine⟨rfl,⟨h1.cells.2.1,Rh.cell 1,Rh.cell 2⟩,mO hd.cp,(Fp tb (i:Int) g e (by rw[rL];unfold jD;rw[hes];exact if_pos ⟨hst,hgn⟩)).mono ?_⟩;rintro e1 w3 ⟨rfl,t3,k3⟩;obtain⟨c3,k3⟩:=hd.cp.QU L.e k3 t3 (by rw[aI];exact hp.cp.co.mp.el);have h3:=hd.gY L (k3.up (Om.of (l':=[6,7]) (by decide))) (by decide) c3;have k3H:cu (Om E Hl) w2 w3:=(cu.refl _ w2).drew.trans (k3.up (mx (by decide)));have So:=Rh.bY k3H (iF L h hge);have r3:=r1.drop (i:=i) (e:=e) (by rw[Og];exact hes) hst (fun hph=>kU hph);rw[aG] at h3;rw[Og] at r3;have Ri:Gn (lh x i e).1:=fun f hf=>by
   have hf:f∈x.v.es.set i {e with state:=2}:=hf;rcases aZ hf with hf|rfl
   .exact gn f hf
   .exact gn e (aH he)
  exact⟨rfl,⟨h3.cells.2.1,So.cell 1,So.cell 2⟩,bU (rN.jP L h IT Qb ⟨by rw[Int.add_zero];exact⟨_,G,h3,r3,Ri⟩,nc.refl _ _ _,k1.trans k3H⟩)⟩)
 have e2:(lh x i e).2=Sn.told 0:=rfl;have HT:=bU (fun w1 z=>fD w1 z);have HM:=bU (fun w1 w2 (a:rN w w1 C E c ws N (lh x i e).1 0) hb=>a.told L h (w2:=w2) hb);unfold j9;rw[e2];clear h L bO bS hB hs he hst hgn O0 e2 Uo Jb hX hg ht hi;generalize (lh x i e).1=xr at *;generalize e.slot=sl at *;go_enter func142,ntmps142;go_wp2_with (first
  | (go_at_call 144;(with_reducible refine dG.mono ?_);rintro e0 w1 ⟨rfl,hb⟩;obtain⟨W1,wq⟩:=al (w1.alloc (.cells #[U E.tn,U i,.int .u32 g] 245));obtain⟨y7,dS⟩:=D1.out w1 W1 hb wq;clear hb)
  | (go_at_call 188;(with_reducible refine dS.mono ?_);rintro e0 w2 ⟨rfl,⟨z7,z1,z2⟩,dT,dD⟩))
 clear wq hW dS dG c1 y7;go_region_held3 (fun V=>V.cell? (aj (E.A 26) 7)=some (af (aj (E.A 25)))/\V.cell? (aj w1.heap.size 1)=some (U i)/\V.cell? (aj w1.heap.size 2)=some (.int .u32 g)) (first|exact hc|go_keep)
  (first
   | (go_at_call 145;(with_reducible refine dT.mono ?_);rintro e0 w3 ⟨rfl,rfl⟩)
   | (go_at_call 195;(with_reducible refine dD.mono ?_);rintro e0 w4 ⟨rfl,hc,hM⟩))
 all_goals
  go_wp2_with (first
   | (go_at_call 75;(with_reducible refine(HT.out _ _).mono ?_);rintro e0 w5 ⟨rfl,hb⟩;obtain⟨bz,hZ⟩:=HM.out w4 w5 hM.out hb;clear hb)
   | (refine wpList_store_row rfl _ _ _ rfl (w.heap.size+1) (cX (Sn.told 0)) rfl rfl 38 eY bz cG rfl (eE _) ?_))
  refine bodyPost_ret (results_cell_row rfl _ _ (w.heap.size+1) 38 (cX (Sn.told 0)) (0,0) _ rfl (hZ.out _).1 underlying38 rfl cG) rfl ?_;exact⟨rfl,(hZ.out _).2⟩
end Hp
namespace Hp
open Go.RowKit Go.bZ Go.Gc Go.Cf Cn Go.Proofs.YtgblmelijlgimaaGreatDoor.Fd Sl Bd Ca Hd Tb Mk Sw Cy
def ja(x:V)(y:Nat):Prop:=x.v.T y=true/\x.v.G y=false
theorem CZ{K:eV}{es:List eG}{cs:List Int}{M:Nat→Int}{g y:Nat}(h:Go.Gc.Reach K es cs M y):Go.Gc.Reach K (es.map (fo g)) cs M y:=by
 induction h with
 | root r x h=>exact .root r x (by rw[od];exact h)
 | iY a k x _ h ih=>exact .iY a k x ih h
theorem ja.fin{C:cV}{x:V}{y:Nat}(h:ja x y):ja (x.fin C) y:=⟨by show(x.v.T y&& !x.v.G y)=true;rw[h.1,h.2];rfl,rfl⟩
theorem ja.begin{C:cV}{x:V}{y:Nat}(h:ja x y)(hr:Go.Gc.Reach C.K x.v.es x.v.cs x.v.M y):ja (x.begin C) y:=⟨h.1,(kT h.1).2 hr⟩
theorem ja.room{C:cV}{f:V→Bool}{x:V}{y:Nat}(h:ja x y)(hr:Go.Gc.Reach C.K x.v.es x.v.cs x.v.M y):ja (room C f x) y:=by
 by_cases hf:f x=true
 .rw[yo hf];exact h
 .have hf:f x=false:=by simpa using hf
  by_cases ha:x.v.act=true
  .rw[yp hf ha]
   split
   .exact(ja.begin h.fin (CZ hr)).fin
   .exact h.fin
  .rw[yt hf (by simpa using ha)]
   exact(h.begin hr).fin
theorem Rp.Eg{C:cV}{s:St}{G:Nat→Bool}{x:V}(r:Rp C s G x){y:Nat}(h:ja x y):iy s G y:=⟨by rw[←r.T];exact h.1,by rw[←r.G];exact h.2⟩
def fU(r u:Nat)(i:Int):Bool×Int:=if i<0\/(r+u:Nat)<=i then(false,110) else(decide (i<r),0)
theorem jb{w:World}{C:cV}{E:Env}{c:cF}{ws:List Int}{s:St}{G:Nat→Bool}{N:Int}{x:V}(L:Lk C E c)(hp:nB w C E c ws s N x.si x.cy x.v.act)(rp:Rp C s G x){y r u:Nat}(hy:ja x y)(hh:cU C.K x.v.M y=some (r,u))(i:Int):ak 185 #[af (aj (E.A 26)),U y,U i] w fun e w'=>e=ae (.tuple #[.bool (fU r u i).1,U (fU r u i).2])/\Below w.heap.size w w':=by
 have hK:C.K.Ok:=by rw[L.cK];exact L.e.K
 have hv:=Rp.Eg rp hy;have I:=Rp.uP L rp;have hs:cU E.K s.M y=some (r,u):=by rw[←L.cK,←rp.head hK hv];exact hh
 obtain⟨k,rr,X,ob⟩:=me L.e hp.cp.co.mp (I.tn y hv.1) hs;have hfew:=ob.jU;have c7:=hp.cells.2.1;have dB:=ic hp.cp;have dH:ak 97 #[af (aj (E.A 0)),U y] w fun e w'=>e=ae (.tuple #[.agg #[U k,U r,U u],U 0])/\Below w.heap.size w w':=mJ (c:=E.c) hp.cp.co.mp.cx ob
 have ef:kQ (k:Int) r u i=fU r u i:=by
  unfold kQ fU jK;rw[aw (by omega),if_pos rfl];by_cases c1:i<0\/(r:Int)+(u:Int)<=i
  .rw[if_pos c1,if_pos (by omega)]
  .rw[if_neg c1,if_neg (by omega)]
 have DF:=bU (fun w1=>mG w1 (k:Int) r u i (by omega) (by omega) (by omega));rw[ef] at DF;have HB:Hid (∀w1 w2:World,Below w.heap.size w w1→Below (w1.alloc (.cells #[U k,U r,U u] 195)).heap.size (w1.alloc (.cells #[U k,U r,U u] 195)) w2→Below w.heap.size w w2):=bU (fun w1 w2 h1 h2=>fj (bA h1 (av _) _) h2);clear hp rp hv I hs ob hK hh hy ef L;generalize fU r u i=fr at *;go_enter func185,ntmps185;go_wp2_with (first
  | (go_at_call 180;(with_reducible refine dB.mono ?_);rintro e w1 ⟨rfl,rfl⟩)
  | (go_at_call 97;(with_reducible refine dH.mono ?_);rintro e w1 ⟨rfl,hb⟩;have H1:=bU hb;clear hb)
  | (go_at_call 242;(with_reducible refine(DF.out _).mono ?_);rintro e w2 ⟨rfl,hb⟩;have H2:=bU (HB.out w1 w2 H1.out hb);clear hb))
 go_ret2
 exact⟨rfl,H2.out⟩
theorem Ku{w0:World}{C:cV}{E:Env}{c:cF}:P9 w0 C E c 178 #[af (aj (E.A 26))] (fun z=>decide (0<ek z.v.es)):=fun w ws N x _ h=>by
 obtain⟨s,G,hp,r,gn⟩:=h;refine(kE hp).mono ?_;rintro e w' ⟨rfl,rfl⟩;refine⟨?_,bV _ _⟩;show _=Ending.returned (.bool (decide (0<ek x.v.es)));rw[r.es]
end Hp
namespace Hp
open Go.RowKit Go.bZ Go.Gc Go.Cf Cn Go.Proofs.YtgblmelijlgimaaGreatDoor.Fd Sl Bd Ca Hd Tb Mk Sw Cy
theorem GQ{w:World}{C:cV}{E:Env}{c:cF}{ws:List Int}{N:Int}{x:V}(L:Lk C E c)(h:Hv w C E c ws N x)(q:iJ){y r u:Nat}(hy:ja x y)(hh:cU C.K x.v.M y=some (r,u))(hq:q.a<0\/(r+u:Nat)<=q.a):ak 138 #[af (aj (E.A 26)),.agg #[ab q.code,aa q.h,U q.a,U q.b,aa q.x],U y] w (j9 C E c ws N (x,Sn.told 110) 0 w):=by
 obtain⟨W,hW⟩:=al ((w.alloc (.cells #[ab q.code,aa q.h,U q.a,U q.b,aa q.x] 54)).alloc (.cells #[U 0,aa 0,aa 0,U 0,U 0,U 0,U 0,.bool false] 38));obtain⟨hB,bO,bS⟩:=(gG w q).out W hW;obtain⟨s,G,hp,rp,gn⟩:=h.cA L hB;have c2:W.cell? (aj w.heap.size 2)=some (U q.a):=bO.cell 2;have dF:=jb L hp rp hy hh q.a;have eF:fU r u q.a=(false,110):=by unfold fU;rw[if_pos hq]
 rw[eF] at dF;have HT:=bU (fun w1 z=>fD w1 z);have HM:Hid (∀w1 w2,Below W.heap.size W w1→Below w1.heap.size w1 w2→cj w2 (w.heap.size+1) eY 38/\Hid (∀s,cj (w2.setRow (w.heap.size+1) (cX s)) (w.heap.size+1) (cX s) 38/\∃cR,fF w (w2.setRow (w.heap.size+1) (cX s)) C E c ws N x 0 cR)):=bU (fun w1 w2 h1 h2=>(h.frame L hB bS).told L h (fj h1 h2));clear h L bO bS hB hp rp gn hy hh hq eF;go_enter func138,ntmps138;go_wp2_with (first
  | (go_at_call 185;(with_reducible refine dF.mono ?_);rintro e w1 ⟨rfl,hb⟩;have H1:=bU hb;clear hb)
  | (go_at_call 75;(with_reducible refine(HT.out _ _).mono ?_);rintro e w2 ⟨rfl,hb⟩;obtain⟨bz,hZ⟩:=HM.out w1 w2 H1.out hb;clear hb)
  | (refine wpList_store_row rfl _ _ _ rfl (w.heap.size+1) (cX (Sn.told 110)) rfl rfl 38 eY bz cG rfl (eE _) ?_))
 refine bodyPost_ret (results_cell_row rfl _ _ (w.heap.size+1) 38 (cX (Sn.told 110)) (0,0) _ rfl (hZ.out _).1 underlying38 rfl cG) rfl ?_;exact⟨rfl,(hZ.out _).2⟩
theorem C0{w:World}{C:cV}{E:Env}{c:cF}{ws:List Int}{N:Int}{x:V}(L:Lk C E c)(h:Hv w C E c ws N x)(q:iJ){y r u:Nat}(hy:ja x y)(hh:cU C.K x.v.M y=some (r,u)){i:Nat}(hi:q.a=i)(h1:r<=i)(h2:i<r+u):ak 138 #[af (aj (E.A 26)),.agg #[ab q.code,aa q.h,U q.a,U q.b,aa q.x],U y] w (j9 C E c ws N (x,{Sn.told 0 with w:=dx C x y i}) 0 w):=by
 obtain⟨W,hW⟩:=al ((w.alloc (.cells #[ab q.code,aa q.h,U q.a,U q.b,aa q.x] 54)).alloc (.cells #[U 0,aa 0,aa 0,U 0,U 0,U 0,U 0,.bool false] 38));obtain⟨hB,bO,bS⟩:=(gG w q).out W hW;obtain⟨s,G,hp,rp,gn⟩:=h.cA L hB;have c2:W.cell? (aj w.heap.size 2)=some (U q.a):=bO.cell 2;have dF:=jb L hp rp hy hh q.a;have eF:fU r u q.a=(false,0):=by unfold fU;rw[if_neg (by omega),az (by omega)]
 rw[eF] at dF;have hK:C.K.Ok:=by rw[L.cK];exact L.e.K
 have hv:=Rp.Eg rp hy;have I:=Rp.uP L rp;have hs:cU E.K s.M y=some (r,u):=by rw[←L.cK,←rp.head hK hv];exact hh
 obtain⟨k,rr,X,ob⟩:=me L.e hp.cp.co.mp (I.tn y hv.1) hs;have ew:at' E.bs E.tn ws (addrOf E.pw E.rs y+1+i)=dx C x y i:=by
  have hin:=ob.IP hp.cp.co.mp.cx;have hft:=ob.fit;have C1:=fw hh;have ha:C.K.addr y=addrOf E.pw E.rs y:=by rw[L.cK];rfl
  have hin:addrOf E.pw E.rs y+rr.size<=E.pg*E.pw:=hin;rw[←hp.cp.co.mp.mem _ (by omega),←ha];exact(rp.word hv (by omega) (by omega)).symm
 have DW:Hid (∀w1,Below W.heap.size W w1→(w1.cell? (aj (E.A 26) 7)=some (af (aj (E.A 25)))/\w1.cell? (aj w.heap.size 2)=some (U i))/\(ak 180 #[af (aj (E.A 25))] w1.drew fun e w'=>e=ae (af (aj (E.A 0)))/\w1.drew=w')/\ak 186 #[af (aj (E.A 0)),U y,U i] w1.drew fun e w2=>e=ae (.tuple #[aa (dx C x y i),U 0])/\(w2.cell? (aj (E.A 26) 7)=some (af (aj (E.A 25)))/\w2.cell? (aj w.heap.size 2)=some (U i))/\cj w2 (w.heap.size+1) eY 38/\Hid (∀s,cj (w2.setRow (w.heap.size+1) (cX s)) (w.heap.size+1) (cX s) 38/\∃cR,fF w (w2.setRow (w.heap.size+1) (cX s)) C E c ws N x 0 cR)):=bU (fun w1 hb=>by
  have p1:=hp.cA L hb;have p2:=hp.cA L (bd hb);have o1:(w1.cell? (aj w.heap.size 2))=some (U i):=by rw[←hi];exact(bO.cA hb).cell 2
  refine⟨⟨p1.cells.2.1,o1⟩,ic p2.cp,?_⟩;have dw:=zv (c:=E.c) p2.cp.co.mp.cx ob h1 h2;rw[show at' E.c.bs E.c.tn ws (addrOf E.c.pw E.c.rs y+1+i)=dx C x y i from ew] at dw;refine dw.mono ?_;rintro e w2 ⟨rfl,cN⟩;have dJ:=fj (bd hb) cN;have p3:=hp.cA L dJ;obtain⟨m1,m2⟩:=(h.frame L hB bS).told L h dJ;exact⟨rfl,⟨p3.cells.2.1,by rw[←hi];exact(bO.cA dJ).cell 2⟩,m1,m2⟩)
 rw[hi] at c2 dF;clear h L bO bS hB hp rp gn hy hh eF hK hv I hs ob ew h1 h2 hi;generalize dx C x y i=wv at *;go_enter func138,ntmps138;go_wp2_with (go_at_call 185;(with_reducible refine dF.mono ?_);rintro e w1 ⟨rfl,hb⟩;obtain⟨⟨y7,y2⟩,dB,dW⟩:=DW.out w1 hb;clear hb)
 clear hW c2 dF DW;go_region_held3 (fun V=>V.cell? (aj (E.A 26) 7)=some (af (aj (E.A 25)))/\V.cell? (aj w.heap.size 2)=some (U i)) (first|exact hc|go_keep)
  (first
   | (go_at_call 180;(with_reducible refine dB.mono ?_);rintro e w3 ⟨rfl,rfl⟩)
   | (go_at_call 186;(with_reducible refine dW.mono ?_);rintro e w4 ⟨rfl,hc,bz,hZ⟩))
 all_goals
  go_wp2_with (refine wpList_store_row rfl _ _ _ rfl (w.heap.size+1) (cX {Sn.told 0 with w:=wv}) rfl rfl 38 eY bz cG rfl (eE _) ?_)
  refine bodyPost_ret (results_cell_row rfl _ _ (w.heap.size+1) 38 (cX {Sn.told 0 with w:=wv}) (0,0) _ rfl (hZ.out _).1 underlying38 rfl cG) rfl ?_;exact⟨rfl,(hZ.out _).2⟩
end Hp
end Go.Proofs.YtgblmelijlgimaaGreatDoor
