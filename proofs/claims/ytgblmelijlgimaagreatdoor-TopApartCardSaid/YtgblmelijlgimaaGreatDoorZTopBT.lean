/- Parts of the proof of TopApart. -/
import Derived.Test.YtgblmelijlgimaaGreatDoorZTopBS
set_option maxRecDepth 100000
namespace Go.Proofs.YtgblmelijlgimaaGreatDoor
open Go.Proofs.Tryz
namespace Mc
open Go.RowKit Go.bZ Go.Gc Go.Cf Cn Go.Proofs.YtgblmelijlgimaaGreatDoor.Fd Hp Fm eK
structure BI(w:World)(d:MD)(x:Nat→V):Prop where
 fi:sj w d 0 x
 mb:cj w d.m #[af (aj d.f),ai none 0 0] 62
 ml:d.hi<=d.m
 l2:2<d.lo
theorem BI.bY{S:Nat→Prop}{w w':World}{d:MD}{x:Nat→V}(h:BI w d x)(hc:cu S w w')(hS:∀k,k<w.heap.size→S k→2<k/\¬(d.lo<=k/\k<=d.m)):BI w' d x:=by
 have ml:=h.ml;obtain⟨ws,fi⟩:=id h.fi;have fl:=fi.fl;exact⟨h.fi.bY hc (fun k h1 h2=>by have:=hS k h1 h2;omega),h.mb.bY hc (fun hk=>(hS _ h.mb.lt hk).2 (by omega)),h.ml,h.l2⟩
theorem BI.cA{w w':World}{d:MD}{x:Nat→V}(h:BI w d x)(hb:Below w.heap.size w w'):BI w' d x:=h.bY (cu.cD (S:=fun _=>False) hb) (fun _ _ hk=>hk.elim)
theorem BI.mi{w:World}{d:MD}{x:Nat→V}(h:BI w d x):MI w d w.heap.size 0 x []:=⟨h.fi,⟨_,h.mb,World.ownsRow_nil _ _ _ _⟩,⟨h.ml,h.mb.lt⟩,h.l2,av _,av _⟩
def Iq(w:World)(c:cF)(e:Ending)(w':World):Prop:=∃d:MD,e=ae (.tuple #[af (aj d.m),U 0])/\BI w' d (fun t=>v0 (iH c t))/\d.hs.length=c.ts.length/\(∀t,t<c.ts.length→d.T.C t=iH c t)/\w.heap.size<d.lo/\d.lo<=d.m/\Below w.heap.size w w'
theorem fQ{w:World}{c:cF}(h:IY w c):ak 6 #[cF.val c] w (Iq w c):=by
 obtain⟨W0,sJ⟩:=al (w.alloc (.cells #[ai (aj c.gc c.oc) c.cl.length c.cc,U c.cB,ai (aj c.gt c.ot) c.ts.length c.ct,U c.wk,U c.gy,U c.gn] 25));have lO:Below w.heap.size w W0:=by rw[←sJ];exact bA (bV _ _) (av _) _
 have pV:cj W0 w.heap.size #[ai (aj c.gc c.oc) c.cl.length c.cc,U c.cB,ai (aj c.gt c.ot) c.ts.length c.ct,U c.wk,U c.gy,U c.gn] 25:=by rw[←sJ];exact cj.new _ _ _
 have lW:=pV.lt;have hd:=h.d2;have dF:ak 13 #[cF.val c] W0 fun e w1=>∃f,e=ae (.tuple #[af (aj f),U 0])/\Hid (Iq w c (ae (.tuple #[af (aj w1.heap.size),U 0])) (w1.alloc (.cells #[af (aj f),ai none 0 0] 62))):=by
  refine(Fm.fQ (h.cA lO)).mono ?_;rintro e w1 ⟨f,gh,cap,c',mp,T,hs,zs,rfl,fi,hl,hC,hb⟩;have b1:Below w1.heap.size w1 (w1.alloc (.cells #[af (aj f),ai none 0 0] 62)):=bA (bV _ _) (av _) _;have s1:=hb.size;refine⟨f,rfl,bU ⟨⟨w1.heap.size,f,gh,cap,c',mp,T,hs,W0.heap.size,w1.heap.size⟩,rfl,⟨⟨zs,fi.cA b1⟩,cj.new _ _ _,av _,by show 2<W0.heap.size;omega⟩,hl,hC,lW,s1,(lO.trans (hb.mono lO.size)).trans (b1.mono (by omega))⟩⟩
 clear h lO lW hd;unfold cF.val at *;go_enter func6,ntmps6;go_wp2_with (first
  | (refine wpList_load_row rfl _ _ rfl w.heap.size rfl 25 #[ai (aj c.gc c.oc) c.cl.length c.cc,U c.cB,ai (aj c.gt c.ot) c.ts.length c.ct,U c.wk,U c.gy,U c.gn] (0,0) _ pV underlying25 rfl Cy.pd ?_)
  | (go_at_call 13;(with_reducible refine dF.mono ?_);rintro e w1 ⟨f,rfl,hZ⟩))
 go_ret2
 exact hZ.out
theorem K8:(prog.info? 40).map (fun i=>(i.zero,i.size,i.bytes))=some (some (.agg (eB 0 (Sn.told 0))),9,72):=by kernel_rfl
theorem Ir:(prog.info? 56).map (·.size)=some 9:=by kernel_rfl
theorem oI{w w':World}{B n k:Nat}{e:TypeId}{v:Value}{xs:List Value}(h:w.ownsRow B e k v n xs)(hb:Below w.heap.size w w'):w'.ownsRow B e k v n xs:=by
 obtain⟨hl,h|⟨g,cap,cur,h1,h2,h3,h4⟩⟩:=h
 .exact⟨hl,.inl h⟩
 .exact⟨hl,.inr ⟨g,cap,cur,h1,h2,(hb.block g (aD.1 h3).1).trans h3,h4⟩⟩
theorem K9(W:World)(C:Array Value)(T:TypeId):∀k u,C.toList[k]?=some u→(W.drew.alloc (.cells C T)).cell? ((⟨W.heap.size,0,none⟩:Addr).add k)=some u:=fun k u hk=>by
 have e:(⟨W.heap.size,0,none⟩:Addr).add k=⟨W.heap.size,k,none⟩:=by unfold Addr.add;split <;> simp_all
 rw[e];have b:cj (W.drew.alloc (.cells C T)) W.heap.size C T:=cj.new W.drew C T;rw[b.cell k,←bJ];exact hk
def Sf(d:MD)(v:Value)(k:Nat):Prop:=(d.lo<=k/\k<=d.m)\/v.ownBlock=some k
structure D7(w W:World)(d:MD)(eU n:Nat)(x:Nat→V)(l:List (Int×Sn))(v v0:Value)(C:Array Value)(p8:Nat):Prop where
 fi:sj W d n x
 mb:cj W d.m #[af (aj d.f),v] 62
 own:W.ownsRow eU 40 9 v l.length (lu l)
 b8:cj W p8 C 40
 bR:cj W w.heap.size (eB 0 (Sn.told 0)) 40
 ch:cu (Sf d v0) w W
 vo:∀g,v.ownBlock=some g→v0.ownBlock=some g\/w.heap.size<=g
 l8:w.heap.size<p8
 ml:d.lo<=d.hi/\d.hi<=d.m/\d.m<eU
 l2:2<d.lo
 ll:l.length<=n
 lw:eU<=w.heap.size
 gn:∀g,v.ownBlock=some g→g≠w.heap.size/\g≠p8
theorem D7.done{w W:World}{d:MD}{eU n:Nat}{x:Nat→V}{l:List (Int×Sn)}{v v0:Value}{C:Array Value}{p8:Nat}(h:D7 w W d eU n x l v v0 C p8):cj (W.setRow w.heap.size C) w.heap.size C 40/\MI (W.setRow w.heap.size C) d eU n x l/\cu (Sf d v0) w (W.setRow w.heap.size C)/\∃v,cj (W.setRow w.heap.size C) d.m #[af (aj d.f),v] 62/\∀g,v.ownBlock=some g→v0.ownBlock=some g\/w.heap.size<=g:=by
 have ml:=h.ml;have lw:=h.lw;have l2:=h.l2;have hc:cu (fun k=>k=w.heap.size) W (W.setRow w.heap.size C):=(cu.refl (fun k=>k=w.heap.size) W).row (p:=w.heap.size) (.inl rfl) C;refine⟨h.bR.setRow C,⟨h.fi.bY hc (fun k _ hk=>by have hk:k=w.heap.size:=hk;omega),⟨v,h.mb.bY hc (by omega),?_⟩,⟨ml.2.1,ml.2.2⟩,h.l2,h.ll,?_⟩,h.ch.tr hc (fun k h1 hk=>by have hk:k=w.heap.size:=hk;omega),v,h.mb.bY hc (by omega),h.vo⟩
 .obtain⟨hl,k|⟨g,cap,cur,h1,h2,h3,h4,h5,h6,h7⟩⟩:=h.own
  .exact⟨hl,.inl k⟩
  .refine⟨hl,.inr ⟨g,cap,cur,h1,h2,?_,h4,h5,h6,h7⟩⟩
   subst h1;exact(hc.block g (aD.1 h3).1 (fun hk=>(h.gn g rfl).1 hk)).trans h3
 .have:=h.ch.size
  have:=hc.size;omega
theorem D7.app{w W w1:World}{d:MD}{eU n:Nat}{x:Nat→V}{l:List (Int×Sn)}{v v0:Value}{p8:Nat}{t:Int}{s:Sn}{C:Array Value}(h:D7 w W d eU n x l v v0 C p8){o:Obj}{g cap:Nat}(own:w1.ownsRow eU 40 9 (ai (aj g) (l.length+1) cap) (l.length+1) (lu l++(eB t s).toList))(hg:(W.drew.alloc o).grownBy w1 v.ownBlock)(hk:v.ownBlock=some g\/g=W.heap.size+1)(hn:l.length+1<=n):
  (w1.cell? (aj d.m 1)=some v/\w1.frozen? (aj d.m 1)=false)/\Hid (D7 w (w1.setCell (aj d.m 1) (ai (aj g) (l.length+1) cap)) d eU n x (l++[(t,s)]) (ai (aj g) (l.length+1) cap) v0 C p8):=by
 have ml:=h.ml;have lw:=h.lw;have l2:=h.l2;have lR:=h.bR.lt;have l8:=h.b8.lt;have h8:=h.l8;have hlt:=h.own.lt;have a:cu (fun k=>some k=v.ownBlock) W w1:=((cu.refl (fun k=>some k=v.ownBlock) W).drew.alloc o).trans ⟨hg.os,hg.tape,hg.output,hg.size,fun k hk hn=>hg.block k hk hn⟩;have sm:d.m<w.heap.size:=by omega
 have b1:cj w1 d.m #[af (aj d.f),v] 62:=h.mb.bY a (fun e=>by have:=(hlt _ e.symm).1;omega);refine⟨⟨b1.cell 1,b1.cE 1⟩,bU ?_⟩;have c:cu (fun k=>some k=v.ownBlock\/k=d.m) W (w1.setCell (aj d.m 1) (ai (aj g) (l.length+1) cap)):=cu.stored (S:=fun k=>some k=v.ownBlock\/k=d.m) (a.up (fun k hk=>.inl hk)) (p:=d.m) (.inl (.inr rfl)) 1 _;have no:∀{k},(∀g,v.ownBlock=some g→g≠k)→k≠d.m→¬(some k=v.ownBlock\/k=d.m):=fun h1 h2 e=>e.elim (fun e=>h1 _ e.symm rfl) h2
 refine⟨h.fi.bY c (fun k _ hk=>?_),b1.set 1 _,?_,h.b8.bY c (no (fun g hg=>(h.gn g hg).2) (by omega)),h.bR.bY c (no (fun g hg=>(h.gn g hg).1) (by omega)),h.ch.tr c (fun k h1 hk=>?_),fun g' NQ=>?_,h8,ml,l2,by rw[aJ];exact hn,lw,fun g' NQ=>?_⟩
 .rcases hk with hk|hk
  .have:=(hlt k hk.symm).1
   omega
  .omega
 .have e:lu (l++[(t,s)])=lu l++(eB t s).toList:=by unfold lu;rw[List.flatMap_append];simp
  rw[e,aJ];have hr:w1.grownBy (w1.setCell (aj d.m 1) (ai (aj g) (l.length+1) cap)) (some d.m):=⟨rfl,rfl,rfl,by simp,fun k _ hk=>Below.heap_setCell w1 _ _ k (fun e=>hk (by rw[show k=d.m from e]))⟩;refine own.kept hr (.inr (fun e=>?_));have:=(own.lt d.m e).1;omega
 .rcases hk with hk|hk
  .rcases h.vo k hk.symm with k2|k2
   .exact .inr k2
   .omega
  .exact .inl ⟨by omega,by omega⟩
 .have e:g'=g:=by
   injection NQ with NQ;exact NQ.symm
  subst e;rcases hk with hk|hk
  .exact h.vo g' hk
  .have:=h.ch.size
   exact .inr (by omega)
 .have e:g'=g:=by
   injection NQ with NQ;exact NQ.symm
  subst e;rcases hk with hk|hk
  .exact h.gn g' hk
  .omega
theorem LV{w W4 w5:World}{d:MD}{eU n:Nat}{x:Nat→V}{l:List (Int×Sn)}(h:MI w d eU n x l){v:Value}(hv:cj w d.m #[af (aj d.f),v] 62){W1:World}(wq:w.alloc (.cells #[U 0,U 0,aa 0,aa 0,U 0,U 0,U 0,U 0,.bool false] 40)=W1)(hb:Below W1.heap.size W1 W4){x':Nat→V}(fi:sj w5 d (n+1) x')(hc:cu (fun k=>d.lo<=k/\k<d.hi) W4 w5)(C:Array Value):
  ∀W6,w5.alloc (.cells #[U 0,U 0,aa 0,aa 0,U 0,U 0,U 0,U 0,.bool false] 40)=W6→cj W6 w5.heap.size (eB 0 (Sn.told 0)) 40/\D7 w (W6.setRow w5.heap.size C) d eU (n+1) x' l v v C w5.heap.size:=by
 obtain⟨ws,f0⟩:=id h.fi;have fl:=f0.fl;have hl:=f0.I.hl;have ml:=h.ml;obtain⟨v',b,o⟩:=h.mb;obtain rfl:v=v':=by
  have e:=(cj.same hv b).1;injection e with e;injection e with _ e;injection e
 have lm:=b.lt;have s1:W1.heap.size=w.heap.size+1:=by rw[←wq];exact World.size_alloc _ _
 have IT:Below w.heap.size w W1:=by rw[←wq];exact bA (bV _ _) (av _) _
 have VG:cj W1 w.heap.size (eB 0 (Sn.told 0)) 40:=by rw[←wq];exact cj.new _ _ _
 have s4:=hb.size;have s5:=hc.size;have c5:cu (fun k=>d.lo<=k/\k<d.hi) w w5:=((cu.cD IT).trans (cu.cD hb)).trans hc;have b5:=b.bY c5 (by omega);have VH:=(VG.cA hb).bY hc (by omega);intro W6 su;have n6:cj W6 w5.heap.size (eB 0 (Sn.told 0)) 40:=by rw[←su];exact cj.new _ _ _
 have c6:cu (fun _=>False) w5 W6:=by rw[←su];exact xt _ _ _
 have c7:cu (fun k=>k=w5.heap.size) W6 (W6.setRow w5.heap.size C):=(cu.refl (fun k=>k=w5.heap.size) W6).row (p:=w5.heap.size) (.inl rfl) C;have Pw:cu (fun k=>k=w5.heap.size) w5 (W6.setRow w5.heap.size C):=(c6.up (fun _ h=>h.elim)).trans c7;have hgn:∀g,v.ownBlock=some g→g<w.heap.size:=fun g hg=>(o.lt g hg).2
 refine⟨n6,fi.bY Pw (fun k h1 hk=>by have hk:k=w5.heap.size:=hk;omega),b5.bY Pw (by omega),?_,n6.setRow C,VH.bY Pw (by omega),((c5.up (fun k hk=>.inl ⟨hk.1,by omega⟩)).tr Pw (fun k h1 hk=>by have hk:k=w5.heap.size:=hk;omega)),fun g hg=>.inl hg,by omega,⟨by omega,ml.1,ml.2⟩,h.l2,Nat.le_succ_of_le h.ll,h.lw,fun g hg=>by have:=hgn g hg;omega⟩;obtain⟨N6,k|⟨g,cap,cur,h1,h2,h3,h4⟩⟩:=o
 .exact⟨N6,.inl k⟩
 .have gl:=(aD.1 h3).1
  exact⟨N6,.inr ⟨g,cap,cur,h1,h2,((Pw.block g (by omega) (fun e=>by have e:g=w5.heap.size:=e;omega)).trans (c5.block g gl (by omega))).trans h3,h4⟩⟩
end Mc
namespace Mc
open Go.RowKit Go.bZ Go.Gc Go.Cf Go.Proofs.YtgblmelijlgimaaGreatDoor.Fd Hp Fm eK
def S9(w:World)(d:MD)(eU n:Nat)(x:Nat→V)(l:List (Int×Sn))(v0:Value)(p:List UInt8)(e:Ending)(w':World):Prop:=e=ae (.tuple #[.agg (LQ (gU d.T.C d.hs.length x p).2),.bool (gU d.T.C d.hs.length x p).2.isSome])/\MI w' d eU (n+1) (gU d.T.C d.hs.length x p).1 (l++(gU d.T.C d.hs.length x p).2.toList)/\cu (Sf d v0) w w'/\∃v,cj w' d.m #[af (aj d.f),v] 62/\∀g,v.ownBlock=some g→v0.ownBlock=some g\/w.heap.size<=g
theorem La{w:World}{b:Nat}{a0 a1 a2 a3 a4 a5 a6 a7 a8:Value}(h:cj w b #[a0,a1,a2,a3,a4,a5,a6,a7,a8] 40):w.cell? (aj b)=some a0/\w.cell? (aj b 1)=some a1/\w.cell? (aj b 2)=some a2/\w.cell? (aj b 3)=some a3/\w.cell? (aj b 4)=some a4/\w.cell? (aj b 5)=some a5/\w.cell? (aj b 6)=some a6/\w.cell? (aj b 7)=some a7/\w.cell? (aj b 8)=some a8:=⟨h.cell 0,h.cell 1,h.cell 2,h.cell 3,h.cell 4,h.cell 5,h.cell 6,h.cell 7,h.cell 8⟩
set_option maxHeartbeats 4000000 in
theorem Lb{w:World}{d:MD}{eU n:Nat}{x:Nat→V}{l:List (Int×Sn)}(h:MI w d eU n x l){v0:Value}(LW:cj w d.m #[af (aj d.f),v0] 62)(hn:n<400000)(p:List UInt8)(hp:p.length<=100000)(ho:(gU d.T.C d.hs.length x p).2=none):ak 7 #[af (aj d.m),.string (bs p)] w fun e w'=>e=ae (.tuple #[.agg (eB 0 (Sn.told 0)),.bool false])/\MI w' d eU (n+1) (gU d.T.C d.hs.length x p).1 l/\cu (Sf d v0) w w'/\∃v,cj w' d.m #[af (aj d.f),v] 62/\∀g,v.ownBlock=some g→v0.ownBlock=some g\/w.heap.size<=g:=by
 obtain⟨W1,wq⟩:=al (w.alloc (.cells #[U 0,U 0,aa 0,aa 0,U 0,U 0,U 0,U 0,.bool false] 40));have IT:Below w.heap.size w W1:=by rw[←wq];exact bA (bV _ _) (av _) _
 have h1:=h.cA IT;obtain⟨v9,Px,-⟩:=h1.mb;have dN:=cC (Px.cell 0);have dG:ak 16 #[.string (bs p)] W1 fun e w'=>∃z:Int,e=ae (.tuple #[.agg (ev (cH p)).toArray,U z])/\Below W1.heap.size W1 w':=(At p hp W1).mono (fun e w' q=>⟨_,q.1,q.2⟩)
 have HE:Hid (∀w2,Below W1.heap.size W1 w2→∀W3,w2.alloc (.cells #[ab 0,U 0,ab 0,aa 0,U 0,U 0,aa 0,U 0,ab 0] 56)=W3→cj W3 w2.heap.size #[ab 0,U 0,ab 0,aa 0,U 0,U 0,aa 0,U 0,ab 0] 56/\cj (W3.setRow w2.heap.size (ev (cH p)).toArray) w2.heap.size (ev (cH p)).toArray 56/\ak 17 #[af (aj d.m),.agg (ev (cH p)).toArray] (W3.setRow w2.heap.size (ev (cH p)).toArray) fun e w5=>e=ae (.tuple #[.agg (eB 0 (Sn.told 0)),.bool false])/\Hid (∀W6,w5.alloc (.cells #[U 0,U 0,aa 0,aa 0,U 0,U 0,U 0,U 0,.bool false] 40)=W6→cj W6 w5.heap.size #[U 0,U 0,aa 0,aa 0,U 0,U 0,U 0,U 0,.bool false] 40/\D7 w (W6.setRow w5.heap.size (eB 0 (Sn.told 0))) d eU (n+1) (gU d.T.C d.hs.length x p).1 l v0 v0 (eB 0 (Sn.told 0)) w5.heap.size)):=bU (fun w2 hb W3 tP=>by
  have n3:cj W3 w2.heap.size #[ab 0,U 0,ab 0,aa 0,U 0,U 0,aa 0,U 0,ab 0] 56:=by rw[←tP];exact cj.new _ _ _
  have b3:Below w2.heap.size w2 W3:=by rw[←tP];exact bA (bV _ _) (av _) _
  have c4:cu (fun k=>k=w2.heap.size) W3 (W3.setRow w2.heap.size (ev (cH p)).toArray):=(cu.refl (fun k=>k=w2.heap.size) W3).row (p:=w2.heap.size) (.inl rfl) _;have b4:Below W1.heap.size W1 (W3.setRow w2.heap.size (ev (cH p)).toArray):=(hb.trans (b3.mono hb.size)).trans (c4.below (by have:=hb.size;have:=b3.size;omega) (fun k hk=>by have hk:k=w2.heap.size:=hk;have:=hb.size;omega));have h4:=h1.cA b4;obtain⟨v,mb,-⟩:=h4.mb;refine⟨n3,n3.setRow _,(qs h4.fi h.l2 hn (mb.cell 0) h.ml.1 p).mono ?_⟩;rintro e w5 ⟨rfl,fi,hc⟩;rw[ho];exact⟨rfl,bU (LV h LW wq b4 fi hc (eB 0 (Sn.told 0)))⟩)
 have hev:=uD (cH p);have HR:Hid (∀W d8 v p8,D7 w W d eU (n+1) (gU d.T.C d.hs.length x p).1 d8 v v0 (eB 0 (Sn.told 0)) p8→cj W p8 #[U 0,U 0,aa 0,aa 0,U 0,U 0,U 0,U 0,.bool false] 40/\cj W w.heap.size #[U 0,U 0,aa 0,aa 0,U 0,U 0,U 0,U 0,.bool false] 40/\Hid (cj (W.setRow w.heap.size (eB 0 (Sn.told 0))) w.heap.size (eB 0 (Sn.told 0)) 40/\MI (W.setRow w.heap.size (eB 0 (Sn.told 0))) d eU (n+1) (gU d.T.C d.hs.length x p).1 d8/\cu (Sf d v0) w (W.setRow w.heap.size (eB 0 (Sn.told 0)))/\∃v,cj (W.setRow w.heap.size (eB 0 (Sn.told 0))) d.m #[af (aj d.f),v] 62/\∀g,v.ownBlock=some g→v0.ownBlock=some g\/w.heap.size<=g)):=bU (fun W d8 v p8 q=>⟨q.b8,q.bR,bU q.done⟩);have oW:(eB 0 (Sn.told 0)).all (·.oneCell')=true:=nE _ _;clear h h1 Px IT hp LW;have hsz:(prog.info? 56).map (·.size)=some (ev (cH p)).toArray.size:=Ir;have hsy:(#[ab 0,U 0,ab 0,aa 0,U 0,U 0,aa 0,U 0,ab 0]:Array Value).size=(ev (cH p)).toArray.size:=rfl;generalize (ev (cH p)).toArray=EA at *;generalize (gU d.T.C d.hs.length x p).1=x' at *;clear ho;go_enter func7,ntmps7;go_wp2_with (first
  | (go_at_call 14;(with_reducible refine dN.mono ?_);rintro e w1 ⟨rfl,rfl⟩)
  | (go_at_call 16;(with_reducible refine dG.mono ?_);rintro e w2 ⟨z,rfl,hb⟩;obtain⟨W3,tP⟩:=al (w2.alloc (.cells #[ab 0,U 0,ab 0,aa 0,U 0,U 0,aa 0,U 0,ab 0] 56));obtain⟨be,bx,dD⟩:=HE.out w2 hb W3 tP;clear hb)
  | (refine wpList_store_row rfl _ _ _ rfl w2.heap.size EA rfl rfl 56 #[ab 0,U 0,ab 0,aa 0,U 0,U 0,aa 0,U 0,ab 0] be hsz hsy hev ?_)
  | (refine wpList_load_row rfl _ _ rfl w2.heap.size rfl 56 EA (0,0) _ bx underlying56 rfl hsz ?_)
  | (go_at_call 17;(with_reducible refine dD.mono ?_);rintro e w5 ⟨rfl,hX⟩;obtain⟨W6,su⟩:=al (w5.alloc (.cells #[U 0,U 0,aa 0,aa 0,U 0,U 0,U 0,U 0,.bool false] 40));obtain⟨b8,q7⟩:=hX.out W6 su;have Q7:=bU q7;clear q7 hX)
  | (refine wpList_store_row rfl _ _ _ rfl w5.heap.size (eB 0 (Sn.told 0)) rfl rfl 40 #[U 0,U 0,aa 0,aa 0,U 0,U 0,U 0,U 0,.bool false] b8 gx rfl oW ?_;obtain⟨bl,br,hF⟩:=HR.out _ _ _ _ Q7.out)
  | (refine wpList_load_row rfl _ _ rfl w5.heap.size rfl 40 #[U 0,U 0,aa 0,aa 0,U 0,U 0,U 0,U 0,.bool false] (0,0) _ bl underlying40 rfl gx ?_)
  | (refine wpList_store_row rfl _ _ _ rfl w.heap.size (eB 0 (Sn.told 0)) rfl rfl 40 #[U 0,U 0,aa 0,aa 0,U 0,U 0,U 0,U 0,.bool false] br gx rfl oW ?_))
 refine bodyPost_ret (eZ rfl _ _ w.heap.size 40 (eB 0 (Sn.told 0)) (0,0) _ _ rfl rfl hF.out.1 underlying40 rfl gx) rfl ?_;exact⟨rfl,hF.out.2⟩
end Mc
namespace Mc
open Go.RowKit Go.bZ Go.Gc Go.Cf Go.Proofs.YtgblmelijlgimaaGreatDoor.Fd Hp Fm eK
set_option maxHeartbeats 4000000 in
theorem Lc{w:World}{d:MD}{eU n:Nat}{x:Nat→V}{l:List (Int×Sn)}(h:MI w d eU n x l){v0:Value}(LW:cj w d.m #[af (aj d.f),v0] 62)(hn:n<400000)(hl:l.length<=1000)(p:List UInt8)(hp:p.length<=100000){t:Int}{s:Sn}(ho:(gU d.T.C d.hs.length x p).2=some (t,s)):ak 7 #[af (aj d.m),.string (bs p)] w fun e w'=>e=ae (.tuple #[.agg (eB t s),.bool true])/\MI w' d eU (n+1) (gU d.T.C d.hs.length x p).1 (l++[(t,s)])/\cu (Sf d v0) w w'/\∃v,cj w' d.m #[af (aj d.f),v] 62/\∀g,v.ownBlock=some g→v0.ownBlock=some g\/w.heap.size<=g:=by
 obtain⟨W1,wq⟩:=al (w.alloc (.cells #[U 0,U 0,aa 0,aa 0,U 0,U 0,U 0,U 0,.bool false] 40));have IT:Below w.heap.size w W1:=by rw[←wq];exact bA (bV _ _) (av _) _
 have h1:=h.cA IT;obtain⟨v9,Px,-⟩:=h1.mb;have dN:=cC (Px.cell 0);have dG:ak 16 #[.string (bs p)] W1 fun e w'=>∃z:Int,e=ae (.tuple #[.agg (ev (cH p)).toArray,U z])/\Below W1.heap.size W1 w':=(At p hp W1).mono (fun e w' q=>⟨_,q.1,q.2⟩)
 have HE:Hid (∀w2,Below W1.heap.size W1 w2→∀W3,w2.alloc (.cells #[ab 0,U 0,ab 0,aa 0,U 0,U 0,aa 0,U 0,ab 0] 56)=W3→cj W3 w2.heap.size #[ab 0,U 0,ab 0,aa 0,U 0,U 0,aa 0,U 0,ab 0] 56/\cj (W3.setRow w2.heap.size (ev (cH p)).toArray) w2.heap.size (ev (cH p)).toArray 56/\ak 17 #[af (aj d.m),.agg (ev (cH p)).toArray] (W3.setRow w2.heap.size (ev (cH p)).toArray) fun e w5=>e=ae (.tuple #[.agg (eB t s),.bool true])/\Hid (∀W6,w5.alloc (.cells #[U 0,U 0,aa 0,aa 0,U 0,U 0,U 0,U 0,.bool false] 40)=W6→cj W6 w5.heap.size #[U 0,U 0,aa 0,aa 0,U 0,U 0,U 0,U 0,.bool false] 40/\D7 w (W6.setRow w5.heap.size (eB t s)) d eU (n+1) (gU d.T.C d.hs.length x p).1 l v0 v0 (eB t s) w5.heap.size)):=bU (fun w2 hb W3 tP=>by
  have n3:cj W3 w2.heap.size #[ab 0,U 0,ab 0,aa 0,U 0,U 0,aa 0,U 0,ab 0] 56:=by rw[←tP];exact cj.new _ _ _
  have b3:Below w2.heap.size w2 W3:=by rw[←tP];exact bA (bV _ _) (av _) _
  have c4:cu (fun k=>k=w2.heap.size) W3 (W3.setRow w2.heap.size (ev (cH p)).toArray):=(cu.refl (fun k=>k=w2.heap.size) W3).row (p:=w2.heap.size) (.inl rfl) _;have b4:Below W1.heap.size W1 (W3.setRow w2.heap.size (ev (cH p)).toArray):=(hb.trans (b3.mono hb.size)).trans (c4.below (by have:=hb.size;have:=b3.size;omega) (fun k hk=>by have hk:k=w2.heap.size:=hk;have:=hb.size;omega));have h4:=h1.cA b4;obtain⟨v,mb,-⟩:=h4.mb;refine⟨n3,n3.setRow _,(qs h4.fi h.l2 hn (mb.cell 0) h.ml.1 p).mono ?_⟩;rintro e w5 ⟨rfl,fi,hc⟩;rw[ho];exact⟨rfl,bU (LV h LW wq b4 fi hc (eB t s))⟩)
 have hev:=uD (cH p);have HR:Hid (∀W d8 v p8,D7 w W d eU (n+1) (gU d.T.C d.hs.length x p).1 d8 v v0 (eB t s) p8→cj W p8 #[U t,U s.e,aa s.h,aa s.w,U s.addr,U s.used,U s.since,U s.gY,.bool s.ac] 40/\cj W w.heap.size #[U 0,U 0,aa 0,aa 0,U 0,U 0,U 0,U 0,.bool false] 40/\Hid (cj (W.setRow w.heap.size (eB t s)) w.heap.size (eB t s) 40/\MI (W.setRow w.heap.size (eB t s)) d eU (n+1) (gU d.T.C d.hs.length x p).1 d8/\cu (Sf d v0) w (W.setRow w.heap.size (eB t s))/\∃v,cj (W.setRow w.heap.size (eB t s)) d.m #[af (aj d.f),v] 62/\∀g,v.ownBlock=some g→v0.ownBlock=some g\/w.heap.size<=g)):=bU (fun W d8 v p8 q=>⟨q.b8,q.bR,bU q.done⟩);have HM:Hid (∀W v p8,D7 w W d eU (n+1) (gU d.T.C d.hs.length x p).1 l v v0 (eB t s) p8→W.cell? (aj d.m 1)=some v/\(∀o,(W.drew.alloc o).ownsRow eU 40 9 v l.length (lu l))/\eU<=W.heap.size+1/\∀o w1 g cap,w1.ownsRow eU 40 9 (ai (aj g) (l.length+1) cap) (l.length+1) (lu l++(eB t s).toList)→(W.drew.alloc o).grownBy w1 v.ownBlock→(v.ownBlock=some g\/g=W.heap.size+1)→(w1.cell? (aj d.m 1)=some v/\w1.frozen? (aj d.m 1)=false)/\Hid (D7 w (w1.setCell (aj d.m 1) (ai (aj g) (l.length+1) cap)) d eU (n+1) (gU d.T.C d.hs.length x p).1 (l++[(t,s)]) (ai (aj g) (l.length+1) cap) v0 (eB t s) p8)):=bU (fun W v p8 q=>⟨q.mb.cell 1,fun o=>oI q.own (bA (bd (bV _ _)) (av _) o),by have:=q.lw;have:=q.ch.size;omega,fun o w1 g cap a b c=>q.app a b c (by have:=h.ll;omega)⟩);obtain⟨i0,uN,iX,jm,nQ⟩:=info_parts K8;have oW:(eB t s).all (·.oneCell')=true:=nE _ _;clear h h1 Px IT hp LW;have hsz:(prog.info? 56).map (·.size)=some (ev (cH p)).toArray.size:=Ir
 have hsy:(#[ab 0,U 0,ab 0,aa 0,U 0,U 0,aa 0,U 0,ab 0]:Array Value).size=(ev (cH p)).toArray.size:=rfl;generalize (ev (cH p)).toArray=EA at *;generalize (gU d.T.C d.hs.length x p).1=x' at *;clear ho;go_enter func7,ntmps7;go_wp2_with (first
  | (go_at_call 14;(with_reducible refine dN.mono ?_);rintro e w1 ⟨rfl,rfl⟩)
  | (go_at_call 16;(with_reducible refine dG.mono ?_);rintro e w2 ⟨z,rfl,hb⟩;obtain⟨W3,tP⟩:=al (w2.alloc (.cells #[ab 0,U 0,ab 0,aa 0,U 0,U 0,aa 0,U 0,ab 0] 56));obtain⟨be,bx,dD⟩:=HE.out w2 hb W3 tP;clear hb)
  | (refine wpList_store_row rfl _ _ _ rfl w2.heap.size EA rfl rfl 56 #[ab 0,U 0,ab 0,aa 0,U 0,U 0,aa 0,U 0,ab 0] be hsz hsy hev ?_)
  | (refine wpList_load_row rfl _ _ rfl w2.heap.size rfl 56 EA (0,0) _ bx underlying56 rfl hsz ?_)
  | (go_at_call 17;(with_reducible refine dD.mono ?_);rintro e w5 ⟨rfl,hX⟩;obtain⟨W6,su⟩:=al (w5.alloc (.cells #[U 0,U 0,aa 0,aa 0,U 0,U 0,U 0,U 0,.bool false] 40));obtain⟨b8,q7⟩:=hX.out W6 su;have Q7:=bU q7;clear q7 hX)
  | (refine wpList_store_row rfl _ _ _ rfl w5.heap.size (eB t s) rfl rfl 40 #[U 0,U 0,aa 0,aa 0,U 0,U 0,U 0,U 0,.bool false] b8 gx rfl oW ?_))
 obtain⟨W7,VI⟩:=al (W6.setRow w5.heap.size (eB t s));rw[VI] at Q7 ⊢;obtain⟨bl,-,-⟩:=HR.out _ _ _ _ Q7.out;obtain⟨y1,hO,hL,hA⟩:=HM.out _ _ _ Q7.out;obtain⟨a0,a1,a2,a3,a4,a5,a6,a7,a8⟩:=La bl;have HO:=bU hO;have HL:=bU hL;have HA:=bU hA;have HNw:Hid (∀k u,(eB t s).toList[k]?=some u→(W7.drew.alloc (.cells #[U t,U s.e,aa s.h,aa s.w,U s.addr,U s.used,U s.since,U s.gY,.bool s.ac] 40)).cell? ((⟨W7.heap.size,0,none⟩:Addr).add k)=some u):=bU (K9 W7 (eB t s) _);have yA:∀o,(W7.alloc o).cell? (aj d.m 1)=some v0:=fun o=>fq y1 o
 clear hO hL hA bl
 go_cut [] (fun wx=>∃v',Hid (D7 w wx d eU (n+1) x' (l++[(t,s)]) v' v0 (eB t s) w5.heap.size))
 case first=>
  go_wp2_with fail
  go_region_law (refine step_append_lies _ rfl (.tmp 29) (.tmp 31) 60 rfl eU 40 i0 (.agg (eB 0 (Sn.told 0))) 9 72 underlying60 uN iX jm nQ rfl (by decide) v0 l.length (lu l) rfl (HO.out _) ⟨W7.heap.size,0,none⟩ 1 1 (eB t s).toList rfl rfl HNw.out (by intro u hu;simp[eB] at hu;rcases hu with rfl|rfl|rfl|rfl|rfl|rfl|rfl|rfl|rfl <;> rfl) (by decide) (by unfold maxLen;omega) (by omega) (by simp;exact HL.out) _ rfl ?_;intro g cap w1 hown hgrow hk hlt;obtain⟨⟨e1,f1⟩,e2⟩:=HA.out _ w1 g cap hown hgrow (by simpa using hk);clear hown hgrow hk hlt)
  all_goals
   go_wp2_with fail
   go_meet
   exact⟨_,e2⟩
 case rest=>
 obtain⟨v',Q9⟩:=hcut;obtain⟨bl,br,hF⟩:=HR.out _ _ _ _ Q9.out;go_wp2_with (first
  | (refine wpList_load_row rfl _ _ rfl w5.heap.size rfl 40 #[U t,U s.e,aa s.h,aa s.w,U s.addr,U s.used,U s.since,U s.gY,.bool s.ac] (0,0) _ bl underlying40 rfl gx ?_)
  | (refine wpList_store_row rfl _ _ _ rfl w.heap.size (eB t s) rfl rfl 40 #[U 0,U 0,aa 0,aa 0,U 0,U 0,U 0,U 0,.bool false] br gx rfl oW ?_))
 refine bodyPost_ret (eZ rfl _ _ w.heap.size 40 (eB t s) (0,0) _ _ rfl rfl hF.out.1 underlying40 rfl gx) rfl ?_;exact⟨rfl,hF.out.2⟩
end Mc
namespace Rf
open Go.RowKit Go.bZ Go.Cf
structure lI where
 ac:Option Addr
 lc:Nat
 cc:Nat
 cB:Int
 ad:Option Addr
 lt:Nat
 ct:Nat
 wk:Int
 gy:Int
 gn:Int
 cl:Nat→Int
 q:Nat→Int
 tr:Nat→Int
 ca:Nat→Int
 sa:Nat→Int
def lI.cells(g:lI):Array Value:=#[.slice g.ac g.lc g.cc,U g.cB,.slice g.ad g.lt g.ct,U g.wk,U g.gy,U g.gn]
structure jw(w:World)(g:lI):Prop where
 c:0<g.lc→∃b o,g.ac=some ⟨b,o,none⟩/\b<w.heap.size/\∀i,i<g.lc→w.cell? (aj b (o+i))=some (U (g.cl i))
 t:0<g.lt→∃b o,g.ad=some ⟨b,o,none⟩/\b<w.heap.size/\∀i,i<g.lt→w.cell? (aj b (o+i*4))=some (U (g.q i))/\w.cell? (aj b (o+i*4+1))=some (U (g.tr i))/\w.cell? (aj b (o+i*4+2))=some (U (g.ca i))/\w.cell? (aj b (o+i*4+3))=some (U (g.sa i))
 l1:g.lc<=9223372036854775807
 l2:g.lt<=9223372036854775807
 c1:g.lt<=g.ct
theorem jw.cA{w w':World}{g:lI}(h:jw w g)(hb:Below w.heap.size w w'):jw w' g:=by
 refine⟨fun hp=>?_,fun hp=>?_,h.l1,h.l2,h.c1⟩
 .obtain⟨b,o,e,hl,hc⟩:=h.c hp
  exact⟨b,o,e,aB hl hb.size,fun i hi=>(hb.cell hl).trans (hc i hi)⟩
 .obtain⟨b,o,e,hl,hc⟩:=h.t hp
  have k:∀j,w'.cell? (aj b j)=w.cell? (aj b j):=fun j=>hb.cell hl
  refine⟨b,o,e,aB hl hb.size,fun i hi=>?_⟩;rw[k,k,k,k];exact hc i hi
def C5(n:Nat)(cl:Nat→Int):Prop:=1<=n/\n<=8/\∀i,i<n→2<=cl i/\cl i<=64/\(0<i→cl (i-1)<cl i)
theorem wU(w:World)(n a b:Int):ak 41 #[U n,U a,U b] w fun e w'=>e=ae (.bool (decide (a<=n/\n<=b)))/\w=w':=by
 by_cases h1:a<=n
 .by_cases h2:n<=b
  .have e:decide (a<=n/\n<=b)=true:=aw ⟨h1,h2⟩
   rw[e];clear e;have e1:decide (a<=n)=true:=aw h1;have e2:decide (n<=b)=true:=aw h2;go_enter func41,ntmps41;go_wp2_with fail;go_ret;exact⟨rfl,rfl⟩
  .have e:decide (a<=n/\n<=b)=false:=az (fun h=>h2 h.2)
   rw[e];clear e;have e1:decide (a<=n)=true:=aw h1;have e2:decide (n<=b)=false:=az h2;go_enter func41,ntmps41;go_wp2_with fail;go_ret;exact⟨rfl,rfl⟩
 .have e:decide (a<=n/\n<=b)=false:=az (fun h=>h1 h.1)
  rw[e];clear e;have e1:decide (a<=n)=false:=az h1;go_enter func41,ntmps41;go_wp2_with fail;go_ret;exact⟨rfl,rfl⟩
set_option maxHeartbeats 1000000 in
theorem wV{w:World}{A:Option Addr}{n c:Nat}{cl:Nat→Int}(hn:n<=9223372036854775807)(h:0<n→∃b o,A=some ⟨b,o,none⟩/\b<w.heap.size/\∀i,i<n→w.cell? (aj b (o+i))=some (U (cl i))):ak 40 #[.slice A n c] w fun e w'=>∃z:Int,e=ae (U z)/\((z=0/\C5 n cl)\/(z=2/\¬C5 n cl))/\Below w.heap.size w w':=by
 by_cases h1:n=0
 .subst h1
  clear h;go_enter func40,ntmps40;go_wp2_with fail;go_ret;exact⟨_,rfl,.inr ⟨rfl,fun h=>by have:=h.1;omega⟩,bV _ _⟩
 by_cases h8:8<n
 .clear h
  have e1:decide ((8:Int)<(n:Int))=true:=aw (by omega);have e2:decide ((n:Int)<1)=false:=az (by omega);have H8:Hid (¬C5 n cl):=bU (fun h=>by have:=h.2.1;omega);clear h8 h1 hn;go_enter func40,ntmps40;go_wp2_with fail;go_ret;exact⟨_,rfl,.inr ⟨rfl,H8.out⟩,bV _ _⟩
 obtain⟨b,o,rfl,hb,hc⟩:=h (by omega);have HC:Hid (∀wr,Below w.heap.size w wr→∀i,i<n→wr.cell? (aj b (o+i))=some (U (cl i))):=bU (fun wr hw i hi=>(hw.cell hb).trans (hc i hi));clear hb;clear h hc hn;go_enter func40,ntmps40;go_wp2_with fail
 go_loopw [3] (fun i wr=>∃(k:Nat),k<=n/\i=U k/\Hid (Below w.heap.size w wr)/\Hid (∀j,j<k→2<=cl j/\cl j<=64/\(0<j→cl (j-1)<cl j))) (fun i _=>n-(intOf i).toNat)
 case atStart=>exact⟨0,by omega,rfl,bU (bV _ _),bU (fun j hj=>absurd hj (by omega))⟩
 case round=>
  obtain⟨k,hk,rfl,HB,HK⟩:=hrel;by_cases hlt:k<n
  .have ck:=HC.out wr HB.out k hlt
   have hx:=bU (rfl:cl k=cl k);obtain⟨x,hX⟩:=al (cl k);rw[hX] at ck;have HX:=bU hX;clear hX hx;by_cases b1:x<2
   .have e1:decide (x<2)=true:=aw b1
    go_wp2_with fail
    go_quiet (fail)
    go_wp2_with fail;go_ret;exact⟨_,rfl,.inr ⟨rfl,fun h=>by have:=(h.2.2 k hlt).1;rw[HX.out] at this;omega⟩,jh HB.out _⟩
   have e1:decide (x<2)=false:=az b1;by_cases b2:64<x
   .have e2:decide ((64:Int)<x)=true:=aw b2
    go_wp2_with fail
    go_quiet (fail)
    go_wp2_with fail;go_ret;exact⟨_,rfl,.inr ⟨rfl,fun h=>by have:=(h.2.2 k hlt).2.1;rw[HX.out] at this;omega⟩,jh HB.out _⟩
   have e2:decide ((64:Int)<x)=false:=az b2;by_cases b3:k=0
   .subst b3
    rw[bN] at ck;go_wp2_with fail
    go_quiet (fail)
    go_wp2_with fail
    go_roundw
    case rel=>exact⟨1,by omega,by go_num,bU (jh HB.out _),bU (fun j hj=>by
     obtain rfl:j=0:=by omega
     rw[HX.out];exact⟨by omega,by omega,fun h=>absurd h (by omega)⟩)⟩
    case measure=>simp[intOf];omega
   .have cp:=HC.out wr HB.out (k-1) (by omega)
    obtain⟨y,hY⟩:=al (cl (k-1));rw[hY] at cp;have HY:=bU hY;clear hY;have i1:((k:Int)-1).toNat=k-1:=by omega
    have i2:decide (0<k)=true:=aw (by omega);by_cases b4:x<=y
    .have e4:decide (x<=y)=true:=aw b4
     go_wp2_with fail
     go_quiet (fail)
     go_wp2_with fail;go_ret;exact⟨_,rfl,.inr ⟨rfl,fun h=>by have:=(h.2.2 k hlt).2.2 (by omega);rw[HX.out,HY.out] at this;omega⟩,jh HB.out _⟩
    .have e4:decide (x<=y)=false:=az b4
     go_wp2_with fail
     go_quiet (fail)
     go_wp2_with fail
     go_roundw
     case rel=>exact⟨k+1,by omega,by go_num,bU (jh HB.out _),bU (fun j hj=>by
      by_cases e:j=k
      .subst e;rw[HX.out,HY.out];exact⟨by omega,by omega,fun _=>by omega⟩
      .exact HK.out j (by omega))⟩
     case measure=>simp[intOf];omega
  .obtain rfl:k=n:=by omega
   go_wp2_with fail;go_ret;exact⟨_,rfl,.inl ⟨rfl,by omega,by omega,HK.out⟩,HB.out⟩
end Rf
end Go.Proofs.YtgblmelijlgimaaGreatDoor
