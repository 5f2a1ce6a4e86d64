/- Parts of the proof of TopApart. -/
import Derived.Test.YtgblmelijlgimaaGreatDoorZTopBM
set_option maxRecDepth 100000
namespace Go.Proofs.YtgblmelijlgimaaGreatDoor
open Go.Proofs.Tryz
namespace Mc
open Go.RowKit Go.bZ Go.Gc Hp Fm
structure Dq(w wx:World)(R:World→Prop)(C:Array Value)(s:Sn)(b:Nat):Prop where
 r:R wx
 bE:cj wx w.heap.size C 56
 bW:cj wx (w.heap.size+1) (eB 0 (Sn.told 0)) 40
 b8:cj wx b (cX s) 38
 l8:w.heap.size+2<=b
theorem Dq.set{w w9:World}{R:World→Prop}(hR:∀a b,R a→cu (fun k=>w.heap.size<=k) a b→R b){C:Array Value}(r:R w9)(bE:cj w9 w.heap.size C 56)(bW:cj w9 (w.heap.size+1) (eB 0 (Sn.told 0)) 40){p8:Nat}(b8:cj w9 p8 eY 38)(l8:w.heap.size+2<=p8)(s:Sn):Dq w ((((((((w9.setCell (aj p8) (U s.e)).setCell (aj p8 1) (aa s.h)).setCell (aj p8 2) (aa s.w)).setCell (aj p8 3) (U s.addr)).setCell (aj p8 4) (U s.used)).setCell (aj p8 5) (U s.since)).setCell (aj p8 6) (U s.gY)).setCell (aj p8 7) (.bool s.ac)) R C s p8:=by
 have hc:cu (fun k=>k=p8) w9 _:=((((((((cu.refl (fun k=>k=p8) w9).stored (.inl rfl) 0 (U s.e)).stored (.inl rfl) 1 (aa s.h)).stored (.inl rfl) 2 (aa s.w)).stored (.inl rfl) 3 (U s.addr)).stored (.inl rfl) 4 (U s.used)).stored (.inl rfl) 5 (U s.since)).stored (.inl rfl) 6 (U s.gY)).stored (.inl rfl) 7 (.bool s.ac);refine⟨hR _ _ r (hc.up (fun k hk=>by have hk:k=p8:=hk;show w.heap.size<=k;omega)),bE.bY hc (fun hk=>by have hk:w.heap.size=p8:=hk;omega),bW.bY hc (fun hk=>by have hk:w.heap.size+1=p8:=hk;omega),?_,l8⟩;have b:=(((((((b8.set 0 (U s.e)).set 1 (aa s.h)).set 2 (aa s.w)).set 3 (U s.addr)).set 4 (U s.used)).set 5 (U s.since)).set 6 (U s.gY)).set 7 (.bool s.ac);simp only[eY,List.setIfInBounds_toArray,List.set_cons_zero,List.set_cons_succ] at b;exact b
theorem Dq.new{w w9:World}{R:World→Prop}(hR:∀a b,R a→cu (fun k=>w.heap.size<=k) a b→R b){C:Array Value}(r:R w9)(bE:cj w9 w.heap.size C 56)(bW:cj w9 (w.heap.size+1) (eB 0 (Sn.told 0)) 40)(s:Sn):Dq w (w9.alloc (.cells (cX s) 38)) R C s w9.heap.size:=
 ⟨hR _ _ r (xt _ w9 _),bE.alloc _,bW.alloc _,cj.new _ _ _,bW.lt⟩
set_option maxHeartbeats 2000000 in
theorem An{S:Nat→Prop}{R:World→Prop}{w:World}{m f:Nat}(h0:w.cell? (aj m)=some (af (aj f)))(ml:m<w.heap.size)(nm:¬S m)(hi:∀k,w.heap.size<=k→¬S k)(t qc qh qa qb qx ln mi z:Int)(s:Sn)(zb:Bool)(hz:(z==0)=zb)(hD:∀W,Below w.heap.size w W→ak 33 #[af (aj f),U t,.agg #[ab qc,aa qh,U qa,U qb,aa qx]] W fun e w'=>e=ae (.tuple #[.agg (cX s),U z])/\cu S W w'/\R w')(hR:∀a b,R a→cu (fun k=>w.heap.size<=k) a b→R b):ak 17 #[af (aj m),.agg #[ab 1,U t,ab qc,aa qh,U qa,U qb,aa qx,U ln,ab mi]] w fun e w'=>e=ae (.tuple #[.agg (if zb then eB t s else eB (-1) (Sn.told 250)),.bool true])/\R w':=by
 obtain⟨W,hW⟩:=al ((w.alloc (.cells #[ab 1,U t,ab qc,aa qh,U qa,U qb,aa qx,U ln,ab mi] 56)).alloc (.cells #[U 0,U 0,aa 0,aa 0,U 0,U 0,U 0,U 0,.bool false] 40));have hB:Below w.heap.size w W:=by rw[←hW];exact bA (bA (bV _ _) (av _) _) (av _) _
 have b3:cj W w.heap.size #[ab 1,U t,ab qc,aa qh,U qa,U qb,aa qx,U ln,ab mi] 56:=by rw[←hW];exact cj.gR w _ _ _ _
 have b4:cj W (w.heap.size+1) (eB 0 (Sn.told 0)) 40:=by rw[←hW];exact cj.jf w _ _ _ _
 have c0:W.cell? (aj w.heap.size)=some (ab 1):=b3.cell 0;have c1:W.cell? (aj w.heap.size 1)=some (U t):=b3.cell 1;have c2:W.cell? (aj w.heap.size 2)=some (ab qc):=b3.cell 2;have c3:W.cell? (aj w.heap.size 3)=some (aa qh):=b3.cell 3;have c4:W.cell? (aj w.heap.size 4)=some (U qa):=b3.cell 4;have c5:W.cell? (aj w.heap.size 5)=some (U qb):=b3.cell 5;have c6:W.cell? (aj w.heap.size 6)=some (aa qx):=b3.cell 6;have cm:W.cell? (aj m)=some (af (aj f)):=(hB.cell ml).trans h0;have lW:w.heap.size+2<=W.heap.size:=b4.lt;have HD:Hid (∀W1,Below W.heap.size W W1→ak 33 #[af (aj f),U t,.agg #[ab qc,aa qh,U qa,U qb,aa qx]] W1 fun e w9=>e=ae (.tuple #[.agg #[U s.e,aa s.h,aa s.w,U s.addr,U s.used,U s.since,U s.gY,.bool s.ac],U z])/\(w9.cell? (aj m)=some (af (aj f))/\w9.cell? (aj w.heap.size 1)=some (U t)/\w9.cell? (aj w.heap.size 2)=some (ab qc)/\w9.cell? (aj w.heap.size 3)=some (aa qh)/\w9.cell? (aj w.heap.size 4)=some (U qa)/\w9.cell? (aj w.heap.size 5)=some (U qb)/\w9.cell? (aj w.heap.size 6)=some (aa qx))/\Hid (R w9/\cj w9 w.heap.size #[ab 1,U t,ab qc,aa qh,U qa,U qb,aa qx,U ln,ab mi] 56/\cj w9 (w.heap.size+1) (eB 0 (Sn.told 0)) 40)/\Hid (∀b,w.heap.size<=b→cj W1 b eY 38→cj w9 b eY 38)):=bU (fun W1 hb=>by
  refine(hD W1 (hB.trans (hb.mono hB.size))).mono ?_;rintro e w9 ⟨rfl,hc,hr⟩;have IW:=(b3.cA hb).bY hc (hi _ (av _));have Qe:=(b4.cA hb).bY hc (hi _ (by omega));have hm:w9.cell? (aj m)=some (af (aj f)):=(World.cell?_of_block (w:=W1) (hc.block m (aB ml (aE hB.size hb.size)) nm)).trans ((hb.cell (p:=⟨m,0,none⟩) (aB ml hB.size)).trans cm);exact⟨rfl,⟨hm,IW.cell 1,IW.cell 2,IW.cell 3,IW.cell 4,IW.cell 5,IW.cell 6⟩,bU ⟨hr,IW,Qe⟩,bU (fun b h1 h2=>h2.bY hc (hi _ h1))⟩)
 have HA:=bU (fun w9 b8 r bE bW (b:cj w9 b8 eY 38) (l:w.heap.size+2<=b8)=>Dq.set (w:=w) (w9:=w9) (R:=R) (C:=#[ab 1,U t,ab qc,aa qh,U qa,U qb,aa qx,U ln,ab mi]) hR r bE bW b l s);have HN:Hid (∀w9,R w9→cj w9 w.heap.size #[ab 1,U t,ab qc,aa qh,U qa,U qb,aa qx,U ln,ab mi] 56→cj w9 (w.heap.size+1) (eB 0 (Sn.told 0)) 40→Dq w (w9.alloc (.cells #[U s.e,aa s.h,aa s.w,U s.addr,U s.used,U s.since,U s.gY,.bool s.ac] 38)) R #[ab 1,U t,ab qc,aa qh,U qa,U qb,aa qx,U ln,ab mi] s w9.heap.size):=bU (fun w9 r bE bW=>Dq.new hR r bE bW s);have HP:Hid (∀b8 wx,Dq w wx R #[ab 1,U t,ab qc,aa qh,U qa,U qb,aa qx,U ln,ab mi] s b8→(wx.cell? (aj w.heap.size 1)=some (U t)/\cj wx b8 #[U s.e,aa s.h,aa s.w,U s.addr,U s.used,U s.since,U s.gY,.bool s.ac] 38/\cj wx (w.heap.size+1) (eB 0 (Sn.told 0)) 40)/\(Hid (cj (wx.setRow (w.heap.size+1) (eB t s)) (w.heap.size+1) (eB t s) 40/\R (wx.setRow (w.heap.size+1) (eB t s))))/\Hid (∀w4,Below wx.heap.size wx w4→cj w4 (w.heap.size+1) (eB 0 (Sn.told 0)) 40/\cj (w4.setRow (w.heap.size+1) (eB (-1) (Sn.told 250))) (w.heap.size+1) (eB (-1) (Sn.told 250)) 40/\R (w4.setRow (w.heap.size+1) (eB (-1) (Sn.told 250))))):=bU (fun b8 wx d=>by
  have up:∀(a:World) (x:Array Value),cu (fun k=>w.heap.size<=k) a (a.setRow (w.heap.size+1) x):=fun a x=>(cu.refl (fun k=>w.heap.size<=k) a).row (p:=w.heap.size+1) (.inl (by show w.heap.size<=w.heap.size+1;omega)) x
  refine⟨⟨d.bE.cell 1,d.b8,d.bW⟩,bU ⟨d.bW.setRow _,hR _ _ d.r (up _ _)⟩,bU (fun w4 hb=>?_)⟩;have bW:=d.bW.cA hb;exact⟨bW,bW.setRow _,hR _ _ (hR _ _ d.r (cu.cD hb)) (up _ _)⟩)
 have HZ:=bU (fun w1 b=>@gQ w1 b);have HW:=bU (fun w1 z=>tG w1 z);have L2:=bU lW;have n1:w.heap.size≠W.heap.size:=by omega
 have n2:W.heap.size≠w.heap.size:=by omega
 have n3:m≠W.heap.size:=by omega
 have n4:W.heap.size≠m:=by omega
 clear h0 ml nm hi hD hR hB b3 b4 lW;go_enter func17,ntmps17;go_wp2_with fail
 go_cut [6,7] (fun s6 s7 wx=>∃b8,s6=af (aj b8)/\s7=U z/\Hid (Dq w wx R #[ab 1,U t,ab qc,aa qh,U qa,U qb,aa qx,U ln,ab mi] s b8))
 case first=>
  go_region_held3 (fun w'=>w'.cell? (aj m)=some (af (aj f))/\w'.cell? (aj w.heap.size 1)=some (U t)/\w'.cell? (aj w.heap.size 2)=some (ab qc)/\w'.cell? (aj w.heap.size 3)=some (aa qh)/\w'.cell? (aj w.heap.size 4)=some (U qa)/\w'.cell? (aj w.heap.size 5)=some (U qb)/\w'.cell? (aj w.heap.size 6)=some (aa qx)) (first|(with_reducible exact⟨cm,c1,c2,c3,c4,c5,c6⟩)|(with_reducible exact⟨x0,x1,x2,x3,x4,x5,x6⟩)|go_keep)
   ((first
    | (go_at_call 33;(with_reducible refine(HD.out _ (bd (bA (bV _ _) (av _) (.cells #[U 0,aa 0,aa 0,U 0,U 0,U 0,U 0,.bool false] 38)))).mono ?_);rintro e w9 ⟨rfl,⟨x0,x1,x2,x3,x4,x5,x6⟩,hRR,hK⟩;have pI:=bU (hK.out W.heap.size (by have:=L2.out;omega) (cj.new W eY 38));obtain⟨⟨z0,z1,z2,z3,z4,z5,z6,z7⟩,f0,f1,f2,f3,f4,f5,f6,f7⟩:=HZ.out w9 _ pI.out)
    | (go_at_call 33;(with_reducible refine(HD.out _ (bd (bV _ _))).mono ?_);rintro e w9 ⟨rfl,⟨x0,x1,x2,x3,x4,x5,x6⟩,hRR,hK⟩)))
  all_goals
   go_wp2_with fail
   go_meet
   refine⟨_,rfl,rfl,bU ?_⟩;first
    | (with_reducible exact HA.out w9 _ hRR.out.1 hRR.out.2.1 hRR.out.2.2 pI.out L2.out)
    | (with_reducible exact HN.out w9 hRR.out.1 hRR.out.2.1 hRR.out.2.2)
 case rest=>
 obtain⟨b8,rfl,rfl,hq⟩:=hcut;obtain⟨⟨y1,bs,bw⟩,hT,hF⟩:=HP.out b8 wc hq.out;clear HD HA HN HP HZ c0 c1 c2 c3 c4 c5 c6 cm n1 n2 n3 n4 L2 hq
 cases zb
 .go_wp2_with (first
   | (go_at_call 15;(with_reducible refine(HW.out _ _).mono ?_);rintro e w4 ⟨rfl,hb⟩;clear bw;obtain⟨bw,bz,hr⟩:=hF.out w4 hb;have BZ:=bU bz;have RZ:=bU hr;clear hb bz hr)
   | (refine wpList_store_row rfl _ _ _ rfl (w.heap.size+1) (eB (-1) (Sn.told 250)) rfl rfl 40 (eB 0 (Sn.told 0)) bw gx rfl (nE _ _) ?_))
  refine bodyPost_ret (eZ rfl _ _ (w.heap.size+1) 40 (eB (-1) (Sn.told 250)) (0,0) _ _ rfl rfl BZ.out underlying40 rfl gx) rfl ?_;exact⟨rfl,RZ.out⟩
 .go_wp2_with (first
   | (refine wpList_load_row rfl _ _ rfl b8 rfl 38 #[U s.e,aa s.h,aa s.w,U s.addr,U s.used,U s.since,U s.gY,.bool s.ac] (0,0) _ bs underlying38 rfl cG ?_)
   | (refine wpList_store_row rfl _ _ _ rfl (w.heap.size+1) (eB t s) rfl rfl 40 (eB 0 (Sn.told 0)) bw gx rfl (nE _ _) ?_))
  refine bodyPost_ret (eZ rfl _ _ (w.heap.size+1) 40 (eB t s) (0,0) _ _ rfl rfl hT.out.1 underlying40 rfl gx) rfl ?_;exact⟨rfl,hT.out.2⟩
theorem Hy{R:World→Prop}{w:World}(m:Nat)(hr:R w)(k t qc qh qa qb qx ln mi:Int)(k2:(k==2)=false)(k1:(k==1)=false)(hR:∀a b,R a→cu (fun k=>w.heap.size<=k) a b→R b):ak 17 #[af (aj m),.agg #[ab k,U t,ab qc,aa qh,U qa,U qb,aa qx,U ln,ab mi]] w fun e w'=>e=ae (.tuple #[.agg (eB (-1) (Sn.told 250)),.bool true])/\R w':=by
 obtain⟨W,hW⟩:=al ((w.alloc (.cells #[ab k,U t,ab qc,aa qh,U qa,U qb,aa qx,U ln,ab mi] 56)).alloc (.cells #[U 0,U 0,aa 0,aa 0,U 0,U 0,U 0,U 0,.bool false] 40));have hB:Below w.heap.size w W:=by rw[←hW];exact bA (bA (bV _ _) (av _) _) (av _) _
 have b4:cj W (w.heap.size+1) (eB 0 (Sn.told 0)) 40:=by rw[←hW];exact cj.jf w _ _ _ _
 have c0:W.cell? (aj w.heap.size)=some (ab k):=by rw[←hW];exact(cj.gR w _ _ _ _).cell 0
 have HF:Hid (∀w4,Below W.heap.size W w4→cj w4 (w.heap.size+1) (eB 0 (Sn.told 0)) 40/\cj (w4.setRow (w.heap.size+1) (eB (-1) (Sn.told 250))) (w.heap.size+1) (eB (-1) (Sn.told 250)) 40/\R (w4.setRow (w.heap.size+1) (eB (-1) (Sn.told 250)))):=bU (fun w4 hb=>by
  have bW:=b4.cA hb;exact⟨bW,bW.setRow _,hR _ _ hr (((cu.cD hB).trans (cu.cD hb)).row (p:=w.heap.size+1) (.inl (by show w.heap.size<=w.heap.size+1;omega)) _)⟩)
 have HW:=bU (fun w1 z=>tG w1 z);clear hr hR hB b4;go_enter func17,ntmps17;go_wp2_with (first
   | (go_at_call 15;(with_reducible refine(HW.out _ _).mono ?_);rintro e w4 ⟨rfl,hb⟩;obtain⟨bw,bz,hr⟩:=HF.out w4 hb;have BZ:=bU bz;have RZ:=bU hr;clear hb bz hr)
   | (refine wpList_store_row rfl _ _ _ rfl (w.heap.size+1) (eB (-1) (Sn.told 250)) rfl rfl 40 (eB 0 (Sn.told 0)) bw gx rfl (nE _ _) ?_))
 refine bodyPost_ret (eZ rfl _ _ (w.heap.size+1) 40 (eB (-1) (Sn.told 250)) (0,0) _ _ rfl rfl BZ.out underlying40 rfl gx) rfl ?_;exact⟨rfl,RZ.out⟩
end Mc
namespace Hp
open Go.RowKit Go.bZ Go.Gc Go.Cf Cn Bd Mm Mk Sw Cy
theorem Hv.bY{S:Nat→Prop}{w w':World}{C:cV}{E:Env}{c:cF}{ws:List Int}{N:Int}{x:V}(L:Lk C E c)(h:Hv w C E c ws N x)(hc:cu S w w')(no:∀i,i<30→¬S (E.A i))(f1:¬S E.mp)(f2:¬S E.mw)(f3:¬S E.mb)(f4:¬S 0)(f5:¬S 2):Hv w' C E c ws N x:=by
 obtain⟨s,G,hp,r,gn⟩:=h;have g:=hp.cp.co;have q:=g.mp;obtain⟨z0,b0⟩:=q.b0;have mk:cY w' E ws s N:=⟨q.cx.bY hc f4 (no 0 (by omega)) (no 1 (by omega)) (no 2 (by omega)) f1 f2 f3,q.mem,q.tb.bY hc (no 6 (by omega)) (no 7 (by omega)),q.el,q.pn.bY hc (no 8 (by omega)) (no 9 (by omega)) (no 10 (by omega)) (no 11 (by omega)),q.cl,ib q.tn hc (no 12 (by omega)) (no 13 (by omega)),q.gy.bY hc (fun k hk=>by rcases hk with rfl|rfl|rfl|rfl|rfl|rfl <;> exact no _ (by omega)),⟨z0,b0.bY hc (no 20 (by omega))⟩,q.b1.bY hc (no 21 (by omega)),q.hl,iQ q.de q.d2 hc f5,aB q.d2 hc.size⟩;obtain⟨z,b⟩:=hp.b;obtain⟨z2,b2⟩:=hp.cp.cy;obtain⟨p,p1,p2⟩:=hp.pc;exact⟨s,G,⟨⟨⟨mk,g.ar.bY hc (no 3 (by omega)) (no 4 (by omega)) (no 5 (by omega)),g.sb.bY hc (no 22 (by omega)),g.rw.bY hc (no 23 (by omega)) (no 24 (by omega))⟩,z2,b2.bY hc (no 25 (by omega))⟩,⟨z,b.bY hc (no 26 (by omega))⟩,⟨p,Pc.rJ p1 hc (no 27 (by omega)),p2⟩,hp.cf.bY L.k hc (by rw[L.gc];exact no 28 (by omega)) (by rw[L.gt];exact no 29 (by omega))⟩,r,gn⟩
end Hp
namespace Fm
open Go.RowKit Go.bZ Go.Gc Go.Cf Cn Hp Mk Sw Cy
structure Ts where
 E:Nat→Env
 C:Nat→cV
 c:Nat→cF
structure HI(w:World)(T:Ts)(n:Nat)(ws:List Int)(N:Int)(x:Nat→V)(lo hi:Nat):Prop where
 lk:∀t,t<n→Lk (T.C t) (T.E t) (T.c t)
 sm:∀t,t<n→(T.C t).sum=sE
 hv:∀t,t<n→Hv w (T.C t) (T.E t) (T.c t) ws N (x t)
 ap:∀t u,t<n→u<n→t≠u→Ht (T.E t) (T.E u)
 il:∀t,t<n→∀i,i<30→lo<=(T.E t).A i/\(T.E t).A i<hi
 ml:∀t,t<n→(lo<=(T.E t).mp/\(T.E t).mp<hi)/\(lo<=(T.E t).mw/\(T.E t).mw<hi)/\lo<=(T.E t).mb/\(T.E t).mb<hi
 l2:2<lo
 hl:hi<=w.heap.size
theorem HI.om{w:World}{T:Ts}{n:Nat}{ws:List Int}{N:Int}{x:Nat→V}{lo hi:Nat}(I:HI w T n ws N x lo hi){t:Nat}(ht:t<n){k:Nat}(hk:Om (T.E t) Hl k):lo<=k/\k<hi:=by
 rcases hk with rfl|⟨i,hi,rfl⟩
 .exact(I.ml t ht).2.1
 .exact I.il t ht i (by have:=List.mem_range.1 hi;omega)
theorem HI.bY{S:Nat→Prop}{w w':World}{T:Ts}{n:Nat}{ws:List Int}{N:Int}{x:Nat→V}{lo hi:Nat}(I:HI w T n ws N x lo hi)(hc:cu S w w')(hS:∀k,S k→2<k/\¬(lo<=k/\k<hi)):HI w' T n ws N x lo hi:=
 ⟨I.lk,I.sm,fun t ht=>(I.hv t ht).bY (I.lk t ht) hc (fun i hi hk=>(hS _ hk).2 (I.il t ht i hi)) (fun hk=>(hS _ hk).2 (I.ml t ht).1) (fun hk=>(hS _ hk).2 (I.ml t ht).2.1) (fun hk=>(hS _ hk).2 (I.ml t ht).2.2) (fun hk=>by have:=(hS _ hk).1;omega) (fun hk=>by have:=(hS _ hk).1;omega),I.ap,I.il,I.ml,I.l2,aE I.hl hc.size⟩
theorem HI.jP{w w':World}{T:Ts}{n:Nat}{ws cR:List Int}{N m:Int}{x:Nat→V}{lo hi:Nat}(I:HI w T n ws N x lo hi){t:Nat}(ht:t<n){y:V}(hm:0<=m)(hN:N+m<=1000000)(a:fF w w' (T.C t) (T.E t) (T.c t) ws N y m cR):HI w' T n cR (N+m) (cP x t y) lo hi/\cu (fun k=>lo<=k/\k<hi) w w':=by
 refine⟨⟨I.lk,I.sm,fun u hu=>?_,I.ap,I.il,I.ml,I.l2,aE I.hl a.ch.size⟩,a.ch.up (fun k hk=>I.om ht hk)⟩;by_cases e:u=t
 .subst e
  rw[cS];exact a.hv
 .rw[du _ _ e]
  exact(Hv.other (I.lk u hu) (I.lk t ht) (I.hv u hu) a (I.ap u t hu ht e)).up (by omega) hN
structure FI(w:World)(f gh cap:Nat)(cf:cF)(mp:Nat)(T:Ts)(hs:List Nat)(ws:List Int)(N:Int)(x:Nat→V)(lo hi:Nat):Prop where
 fm:Am w f gh cap cf mp hs
 I:HI w T hs.length ws N x lo hi
 hd:∀t,t<hs.length→hs.getD t 0=(T.E t).A 26
 fl:lo<=f/\f<hi
 gl:lo<=gh/\gh<hi
 nf:∀t,t<hs.length→¬Om (T.E t) Hl f/\¬Om (T.E t) Hl gh
theorem FI.bY{S:Nat→Prop}{w w':World}{f gh cap:Nat}{cf:cF}{mp:Nat}{T:Ts}{hs:List Nat}{ws:List Int}{N:Int}{x:Nat→V}{lo hi:Nat}(h:FI w f gh cap cf mp T hs ws N x lo hi)(hc:cu S w w')(hS:∀k,S k→2<k/\¬(lo<=k/\k<hi)):FI w' f gh cap cf mp T hs ws N x lo hi:=
 ⟨h.fm.bY hc (fun hk=>(hS _ hk).2 h.fl) (fun hk=>(hS _ hk).2 h.gl),h.I.bY hc hS,h.hd,h.fl,h.gl,h.nf⟩
theorem FI.cA{w w':World}{f gh cap:Nat}{cf:cF}{mp:Nat}{T:Ts}{hs:List Nat}{ws:List Int}{N:Int}{x:Nat→V}{lo hi:Nat}(h:FI w f gh cap cf mp T hs ws N x lo hi)(hb:Below w.heap.size w w'):FI w' f gh cap cf mp T hs ws N x lo hi:=h.bY (cu.cD (S:=fun _=>False) hb) (fun _ hk=>hk.elim)
theorem FI.jP{w w':World}{f gh cap:Nat}{cf:cF}{mp:Nat}{T:Ts}{hs:List Nat}{ws cR:List Int}{N m:Int}{x:Nat→V}{lo hi:Nat}(h:FI w f gh cap cf mp T hs ws N x lo hi){t:Nat}(ht:t<hs.length){y:V}(hm:0<=m)(hN:N+m<=1000000)(a:fF w w' (T.C t) (T.E t) (T.c t) ws N y m cR):FI w' f gh cap cf mp T hs cR (N+m) (cP x t y) lo hi/\cu (fun k=>lo<=k/\k<hi) w w':=by
 obtain⟨h1,h2⟩:=h.I.jP ht hm hN a;exact⟨⟨h.fm.bY a.ch (h.nf t ht).1 (h.nf t ht).2,h1,h.hd,h.fl,h.gl,h.nf⟩,h2⟩
theorem FI.heap{w:World}{f gh cap:Nat}{cf:cF}{mp:Nat}{T:Ts}{hs:List Nat}{ws:List Int}{N:Int}{x:Nat→V}{lo hi:Nat}(h:FI w f gh cap cf mp T hs ws N x lo hi){t:Nat}(ht:t<hs.length):gH hs t=af (aj ((T.E t).A 26)):=by
 unfold gH;rw[if_pos (by omega),aG,h.hd t ht]
theorem FI.Eh{w:World}{f gh cap:Nat}{cf:cF}{mp:Nat}{T:Ts}{hs:List Nat}{ws:List Int}{N:Int}{x:Nat→V}{lo hi:Nat}(h:FI w f gh cap cf mp T hs ws N x lo hi){t:Nat}(ht:t<hs.length)(q:iJ)(hq:iJ.In q)(hN:N<999990):ak 33 #[af (aj f),U t,.agg #[ab q.code,aa q.h,U q.a,U q.b,aa q.x]] w fun e w'=>e=ae (.tuple #[.agg (cX (jk (T.C t) (x t) q).2),U 0])/\∃cR,FI w' f gh cap cf mp T hs cR (N+2) (cP x t (jk (T.C t) (x t) q).1) lo hi/\cu (fun k=>lo<=k/\k<hi) w w':=
 (Nw h.fm (h.I.lk t ht) (h.I.sm t ht) (h.I.hv t ht) q hq hN (h.heap ht)).mono (fun e w' ⟨h1,cR,a⟩=>⟨h1,cR,h.jP ht (by omega) (by omega) a⟩)
theorem FI.step{w:World}{f gh cap:Nat}{cf:cF}{mp:Nat}{T:Ts}{hs:List Nat}{ws:List Int}{N:Int}{x:Nat→V}{lo hi:Nat}(h:FI w f gh cap cf mp T hs ws N x lo hi)(hN:N<=1000000)(k i:Int){z:Int}(iX:0<=z)(jm:z<256):ak 32 #[af (aj f),.agg #[U k,U i,ab z]] w fun e w'=>∃b,e=ae (.bool b)/\∃cR,FI w' f gh cap cf mp T hs cR N x lo hi/\cu (fun k=>lo<=k/\k<hi) w w':=by
 rcases uA hs i with e|⟨t,ht,rfl,_⟩
 .refine(yI h.fm k i e).mono ?_
  rintro e w' ⟨rfl,hb⟩;exact⟨_,rfl,ws,h.cA hb,cu.cD hb⟩
 .refine(Hw h.fm (h.I.lk t ht) (h.I.hv t ht) k t iX jm (h.heap ht)).mono ?_
  rintro e w' ⟨b,rfl,cR,a⟩;obtain⟨h1,h2⟩:=h.jP ht (Int.le_refl 0) (by omega) a;rw[Int.add_zero,show cP x t (x t)=x from funext fun j=>by unfold cP;split <;> simp_all] at h1;exact⟨_,rfl,cR,h1,h2⟩
theorem FI.none{w:World}{f gh cap:Nat}{cf:cF}{mp:Nat}{T:Ts}{hs:List Nat}{ws:List Int}{N:Int}{x:Nat→V}{lo hi:Nat}(h:FI w f gh cap cf mp T hs ws N x lo hi){t:Nat}(ht:hs.length<=t)(q:iJ):ak 33 #[af (aj f),U t,.agg #[ab q.code,aa q.h,U q.a,U q.b,aa q.x]] w fun e w'=>e=ae (.tuple #[.agg (cX (Sn.told 0)),U 2])/\Below w.heap.size w w':=
 Hx h.fm q (by unfold gH;rw[if_neg (by omega)])
end Fm
open Go.RowKit eK
def BV(c:UInt8):Value:=ab c.toNat
theorem Pb(w:World)(z:Int)(h0:0<=z)(h1:z<256):(convert 27 9 (ai (aj w.heap.size) 1 1)).run prog (w.alloc (.cells #[ab z] 5))=.ok (.string (bs [UInt8.ofNat z.toNat])) (w.alloc (.cells #[ab z] 5)):=by
 have h:=run_convert_bytes_back (P:=prog) (w.alloc (.cells #[ab z] 5)) 27 9 5 ⟨w.heap.size,0,none⟩ 1 [UInt8.ofNat z.toNat] underlying27 underlying5 underlying9 (by
  intro j hj;obtain rfl:j=0:=by simp at hj;omega
  have:((UInt8.ofNat z.toNat).toNat:Int)=z:=by rw[UInt8.toNat_ofNat'];omega
  show(w.alloc _).cell? (aj w.heap.size (0+0))=some (ab ((UInt8.ofNat z.toNat).toNat:Int));rw[this,World.cell?_alloc_mark];rfl)
 exact h
theorem Dl(N m:Nat)(hN:N<18446744073709551616)(hm:m<=8)(w:World):
  ak 24 #[aa N,U m] w fun e w'=>e=ae (.string (bs (be m N)))/\Below w.heap.size w w':=by
 go_enter func24,ntmps24;go_wp2_with fail
 go_loopw [0,5,6] (fun n s i wr=>∃k N':Nat,k<=m/\i=U k/\N'<18446744073709551616/\n=aa N'/\(∃l,s=.string (bs l)/\l.length=k/\be m N=be (m-k) N'++l)/\Below w.heap.size w wr) (fun _ _ i _=>m-(intOf i).toNat)
 case atStart=>exact⟨0,N,by omega,rfl,hN,rfl,⟨[],rfl,rfl,by simp⟩,bV _ _⟩
 case round=>
  obtain⟨k,N',hk,rfl,Wx,rfl,⟨l,rfl,hlen,hl⟩,hB⟩:=hrel;have HLen:=bU hlen;have HB:=bU hB;have HL:=bU hl;clear hB hl hlen;by_cases hlt:k<m
  .have hcv:=Pb wr ((N':Int)%256) (by omega) (by omega)
   have jm:(bs [UInt8.ofNat (N'%256)]).size+(bs l).size<=9:=by rw[jy,jy,HLen.out];simp;omega
   rw[show((N':Int)%256).toNat=N'%256 from by omega] at hcv;have hca:bs [UInt8.ofNat (N'%256)]++bs l=bs (UInt8.ofNat (N'%256)::l):=ij _ _;go_wp2_with fail
   go_roundw
   case rel=>exact⟨k+1,N'/256,by omega,by go_num,by omega,by go_num,⟨_,rfl,by rw[aC,HLen.out],by
    rw[HL.out,show m-k=(m-(k+1))+1 from by omega];show be (m-(k+1)) (N'/256)++[UInt8.ofNat (N'%256)]++l=_;simp⟩,(HB.out.alloc HB.out.size _)⟩
   case measure=>simp only[intOf];omega
  .obtain rfl:k=m:=by omega
   go_wp2_with fail;go_ret;exact⟨by rw[HL.out,Nat.sub_self];rfl,HB.out⟩
theorem nF(l:List UInt8)(hl:l.length<=8)(w:World):
  ak 34 #[.string (bs l)] w fun e w'=>e=ae (aa (num l:Int))/\w=w':=by
 have hsz:(bs l).size=l.length:=rfl;go_enter func34,ntmps34;go_wp2_with fail
 go_loop [3,4] (fun n i=>∃k:Nat,k<=l.length/\i=U k/\n=aa (num (l.take k):Int)) (fun _ i=>l.length-(intOf i).toNat)
 case atStart=>exact⟨0,by omega,rfl,rfl⟩
 case round=>
  obtain⟨k,hk,rfl,rfl⟩:=hrel;by_cases hlt:k<l.length
  .have UM:k<(bs l).size:=hlt
   have hs:num (l.take (k+1))=256*num (l.take k)+(l[k]).toNat:=by
    rw[bB hlt,nS];rfl
   have hb:=lK (l.take k);have cN:(256:Nat)^(l.take k).length<=256^7:=Nat.pow_le_pow_right (by omega) (by simp;omega);have dJ:num (l.take k)<72057594037927936:=aB hb cN;have hc:=(l[k]).toNat_lt;have e:IntKind.u64.wrap (IntKind.u64.wrap (256*(num (l.take k):Int))+IntKind.u64.wrap ((l[k]).toNat:Int))=(num (l.take (k+1)):Int):=by
    rw[hs,IntKind.wrap_u64,IntKind.wrap_u64,IntKind.wrap_u64,aY,Int.natCast_mul];omega
   have E:=bU e;clear hs hb cN dJ hc e;go_wp2_with fail
   go_round
   case rel=>exact⟨k+1,by omega,by go_num,by rw[←E.out];rfl⟩
   case measure=>simp only[intOf];omega
  .obtain rfl:k=l.length:=by omega
   go_wp2_with fail;go_ret;exact⟨by rw[←congrArg num bK];rfl,rfl⟩
open Go.RowKit eK
structure Rd(w:World)(B p:Nat)(l:List UInt8):Prop where
 ln:l.length<=100000
 pB:B<=p
 pl:p<w.heap.size
 fz:w.frozen? (aj p)=false
 at_:∃(g:Nat) (off cap:Nat),B<=g/\g<w.heap.size/\g≠p/\l.length<=cap/\cap<=maxLen/\w.cell? (aj p)=some (ai (aj g off) l.length cap)/\∀j,(h:j<l.length)→w.cell? (aj g (off+j))=some (BV l[j])
theorem H7{w:World}{B p:Nat}{l:List UInt8}(h:Rd w B p l):∃a c,w.cell? (aj p)=some (.slice a l.length c):=by
 obtain⟨g,off,cap,h1,h2,h3,h4,h5,h6,h7⟩:=h.at_;exact⟨_,_,h6⟩
def chain:List PanicEntry:=[{v:=.iface 86 (.agg #[]),recovered:=false}]
theorem Ia(w:World)(B p n:Nat)(l:List UInt8)(hr:Rd w B p l)(hn:l.length<n)(_:n<=8):
  ak 71 #[af (aj p),U n] w fun e w'=>e=.panicked chain/\w=w':=by
 obtain⟨hln,pB,pl,hf,g,off,cap,gB,hg,hgp,hlc,hcap,hc,_⟩:=hr;go_enter func71,ntmps71;go_wp2_with fail;exact⟨rfl,rfl,rfl⟩
theorem qu{g p i j:Nat}(h:g≠p):(⟨p,i,none⟩:Addr)≠⟨g,j,none⟩:=fun e=>h (by injection e with e _ _;exact e.symm)
theorem Ib{w:World}{B p g off Nz n cap:Nat}{l:List UInt8}(hln:l.length<=100000)(pB:B<=p)(pl:p<w.heap.size)(hf:w.frozen? (aj p)=false)(gB:B<=g)(hg:g<w.heap.size)(hgp:g≠p)(hnl:n<=l.length)(hlc:l.length<=cap)(hcap:cap<=maxLen)(ho:n<l.length→Nz=off+n)
 {cA:Value}(hc:w.cell? (aj p)=some cA)(fu:∀j,(h:j<l.length)→w.cell? (aj g (off+j))=some (BV l[j])){m k:Nat}(hm:m=l.length-n)(hk:k=cap-n):
  Rd (w.setCell (aj p) (ai (aj g Nz) m k)) B p (l.drop n):=by
 have hd:(l.drop n).length=l.length-n:=List.length_drop;refine⟨by omega,pB,by simpa using pl,by rw[World.frozen?_setCell];exact hf,g,Nz,cap-n,gB,by simpa using hg,hgp,by omega,by unfold maxLen at hcap ⊢;omega,?_,?_⟩
 .rw[World.cell?_setCell_same _ _ _ hc,hd,hm,hk]
 .intro j hj
  rw[World.cell?_setCell_other _ _ _ _ (qu hgp),ho (by omega),Nat.add_assoc,fu (n+j) (by omega),List.getElem_drop]
theorem Ic(w:World)(B p n:Nat)(l:List UInt8)(hr:Rd w B p l)(hn:n<=l.length)(sh:n<=8):
  ak 71 #[af (aj p),U n] w fun e w'=>∃g off cap s,e=ae (ai (aj g off) n cap)/\w'=w.setCell (aj p) s/\Rd w' B p (l.drop n)/\g≠p/\(∀j,(h:j<n)→w.cell? (aj g (off+j))=some (BV (l[j]'(by omega)))):=by
 obtain⟨hln,pB,pl,hf,g,off,cap,gB,hg,hgp,hlc,hcap,hc,fu⟩:=hr;have HC:=bU fu;have HM:=bU hcap;clear fu;unfold maxLen at hcap;have hb:∀j,(h:j<n)→w.cell? (aj g (off+j))=some (BV (l[j]'(by omega))):=fun j h=>HC.out j (by omega)
 have HB:=bU hb;clear hb;by_cases hnc:cap=n
 .obtain rfl:n=l.length:=by omega
  subst hnc;go_enter func71,ntmps71;go_wp2_with fail;go_ret;exact⟨g,off,_,_,rfl,rfl,Ib (off:=off) hln pB pl hf gB hg hgp hn (av _) HM.out (fun h=>by omega) hc HC.out (by omega) (by omega),hgp,HB.out⟩
 .go_enter func71,ntmps71
  go_wp2_with fail;go_ret;exact⟨g,off,_,_,rfl,rfl,Ib hln pB pl hf gB hg hgp hn hlc HM.out (fun _=>rfl) hc HC.out rfl rfl,hgp,HB.out⟩
theorem nG(w:World)(B p n:Nat)(l:List UInt8)(hr:Rd w B p l)(hn:l.length<n)(sh:n<=8):
  ak 48 #[af (aj p),U n] w fun e w'=>e=.panicked chain/\w=w':=by
 have c:=fun w hr=>Ia w B p n l hr hn sh
 have HR:=bU hr;clear hr;go_enter func48,ntmps48;go_wp2_with fail;refine(c _ HR.out).mono ?_;rintro e w' ⟨rfl,rfl⟩;go_wp2_with fail;exact⟨rfl,rfl,rfl⟩
theorem nH(w:World)(B p n:Nat)(l:List UInt8)(hr:Rd w B p l)(hn:n<=l.length)(sh:n<=8):
  ak 48 #[af (aj p),U n] w fun e w'=>e=ae (aa (num (l.take n):Int))/\Rd w' B p (l.drop n)/\∃s,w'=w.setCell (aj p) s:=by
 have c:=fun w hr=>Ic w B p n l hr hn sh
 have HR:=bU hr;clear hr;go_enter func48,ntmps48;go_wp2_with fail;refine(c _ HR.out).mono ?_;rintro e w' ⟨g,off,cap,s,rfl,Rq,hrd,hgp,fu⟩;have Ie:∀j,(h:j<n)→w'.cell? (aj g (off+j))=some (BV (l[j]'(by omega))):=fun j h=>by rw[Rq,World.cell?_setCell_other _ _ _ _ (qu hgp)];exact fu j h
 have HC:=bU Ie;have HW:=bU Rq;have HD:=bU hrd;clear fu Ie Rq hrd;go_wp2_with fail
 go_loop [4,11] (fun N i=>∃k:Nat,k<=n/\i=U k/\N=aa (num (l.take k):Int)) (fun _ i=>n-(intOf i).toNat)
 case atStart=>exact⟨0,by omega,rfl,rfl⟩
 case round=>
  obtain⟨k,hk,rfl,rfl⟩:=hrel;by_cases hlt:k<n
  .have ck:=HC.out k hlt
   unfold BV at ck;have hl:k<l.length:=by omega
   have hs:num (l.take (k+1))=256*num (l.take k)+(l[k]).toNat:=by
    rw[bB hl,nS]
   have hb:=lK (l.take k);have cN:(256:Nat)^(l.take k).length<=256^7:=Nat.pow_le_pow_right (by omega) (by simp;omega);have dJ:num (l.take k)<72057594037927936:=aB hb cN;have hc:=(l[k]).toNat_lt;have hor:bits .or .u64 ((num (l.take k):Int)*256) ((l[k]).toNat:Int)=(num (l.take (k+1)):Int):=by
    have h1:=u64_or_nat (num (l.take k)*256) (l[k]).toNat (by omega) (by omega);rw[Int.natCast_mul] at h1;rw[show((num (l.take k):Int)*256)=(num (l.take k):Int)*((256:Nat):Int) from rfl,h1,hs];have h2:=Nat.shiftLeft_add_eq_or_of_lt (i:=8) (b:=(l[k]).toNat) hc (num (l.take k));rw[Nat.shiftLeft_eq] at h2;rw[show num (l.take k)*256=num (l.take k)*2^8 from rfl,←h2]
    congr 1
    omega
   clear hb cN hs;go_wp2_with fail
   go_round
   case rel=>exact⟨k+1,by omega,by go_num,rfl⟩
   case measure=>simp only[intOf];omega
  .obtain rfl:k=n:=by omega
   go_wp2_with fail;go_ret;exact⟨rfl,HD.out,_,HW.out⟩
theorem oE(w:World)(B p:Nat)(l:List UInt8)(hr:Rd w B p l)(hn:l.length<1):
  ak 29 #[af (aj p)] w fun e w'=>e=.panicked chain/\w=w':=by
 have c:=nG w B p 1 l hr hn (by omega);clear hr;go_enter func29,ntmps29;go_wp2_with fail;refine c.mono ?_;rintro e w' ⟨rfl,rfl⟩;go_wp2_with fail;exact⟨rfl,rfl,rfl⟩
theorem tH(w:World)(B p:Nat)(l:List UInt8)(hr:Rd w B p l)(hn:l.length<8):
  ak 30 #[af (aj p)] w fun e w'=>e=.panicked chain/\w=w':=by
 have c:=nG w B p 8 l hr hn (by omega);clear hr;go_enter func30,ntmps30;go_wp2_with fail;refine c.mono ?_;rintro e w' ⟨rfl,rfl⟩;go_wp2_with fail;exact⟨rfl,rfl,rfl⟩
theorem wM(w:World)(B p:Nat)(l:List UInt8)(hr:Rd w B p l)(hn:l.length<4):
  ak 31 #[af (aj p)] w fun e w'=>e=.panicked chain/\w=w':=by
 have c:=nG w B p 4 l hr hn (by omega);clear hr;go_enter func31,ntmps31;go_wp2_with fail;refine c.mono ?_;rintro e w' ⟨rfl,rfl⟩;go_wp2_with fail;exact⟨rfl,rfl,rfl⟩
theorem oF(w:World)(B p:Nat)(c:UInt8)(l:List UInt8)(hr:Rd w B p (c::l)):
  ak 29 #[af (aj p)] w fun e w'=>e=ae (ab c.toNat)/\Rd w' B p l/\∃s,w'=w.setCell (aj p) s:=by
 have cc:=nH w B p 1 (c::l) hr (by simp) (by omega);have e0:num ((c::l).take 1)=c.toNat:=by show 256*0+c.toNat=_;omega
 rw[e0] at cc;have hc:=c.toNat_lt;clear hr e0;go_enter func29,ntmps29;go_wp2_with fail;refine cc.mono ?_;rintro e w' ⟨rfl,hrd,s,hw⟩;have HR:=bU hrd;have HW:=bU hw;clear hrd hw;go_wp2_with fail;go_ret;exact⟨by go_num,HR.out,_,HW.out⟩
theorem tI(w:World)(B p:Nat)(l:List UInt8)(hr:Rd w B p l)(hn:8<=l.length):
  ak 30 #[af (aj p)] w fun e w'=>e=ae (aa (num (l.take 8):Int))/\Rd w' B p (l.drop 8)/\∃s,w'=w.setCell (aj p) s:=by
 have cc:=nH w B p 8 l hr hn (by omega);clear hr;go_enter func30,ntmps30;go_wp2_with fail;refine cc.mono ?_;rintro e w' ⟨rfl,hrd,s,hw⟩;have HR:=bU hrd;have HW:=bU hw;clear hrd hw;go_wp2_with fail;go_ret;exact⟨rfl,HR.out,_,HW.out⟩
theorem wN(w:World)(B p:Nat)(l:List UInt8)(hr:Rd w B p l)(hn:4<=l.length):
  ak 31 #[af (aj p)] w fun e w'=>e=ae (U (sg (num (l.take 4))))/\Rd w' B p (l.drop 4)/\∃s,w'=w.setCell (aj p) s:=by
 have cc:=nH w B p 4 l hr hn (by omega);have hb:=lK (l.take 4);rw[show(l.take 4).length=4 from by simp;omega] at hb;obtain⟨N,hN⟩:=al (num (l.take 4));rw[hN] at cc hb ⊢;clear hr hN;go_enter func31,ntmps31;go_wp2_with fail;refine cc.mono ?_;rintro e w' ⟨rfl,hrd,s,hw⟩;have HR:=bU hrd;have HW:=bU hw;clear hrd hw;go_wp2_with fail;go_ret;refine⟨nU ?_,HR.out,_,HW.out⟩;unfold wrap64 wrap32 sg
 split <;> omega
end Go.Proofs.YtgblmelijlgimaaGreatDoor
