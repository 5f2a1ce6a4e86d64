/- Parts of the proof of TopApart. -/
import Derived.Test.YtgblmelijlgimaaGreatDoorZTopAZ
import Derived.Test.YtgblmelijlgimaaGreatDoorZTopPay
import Derived.Test.YtgblmelijlgimaaGreatDoorZTopAN
set_option maxRecDepth 100000
namespace Go.Proofs.YtgblmelijlgimaaGreatDoor
open Go.Proofs.Tryz
namespace Ca
open Go.RowKit Go.bZ Go.Proofs.YtgblmelijlgimaaGreatDoor.Fd
set_option maxHeartbeats 1000000 in
theorem GC(w:World)(x:Nat)(hx:x<18446744073709551616)(h0:dy x 0 32=0):
  ak 144 #[aa x] w fun e w'=>e=ae (.tuple #[.agg #[U 0,U 0,.int .u32 0],U 130])/\Below w.heap.size w w':=by
 have dj:Below w.heap.size w ((w.alloc (.cells #[U 0,U 0,.int .u32 0] 245)).alloc (.cells #[U 32,U 24,U 8] 3)):=((bV _ w).alloc (av _) _).alloc (by simp) _;have d:=Ab w x hx;have l0:=Hd.gm x 0 32;have l1:=Hd.gm x 32 24;have l2:=Hd.gm x 56 8;have z0:((dy x 0 32:Int)==0)=true:=by rw[h0];rfl
 clear h0;generalize dy x 0 32=c at *;generalize dy x 32 24=i at *;generalize dy x 56 8=t at *;have HB:=bU dj;clear dj;go_enter func144,ntmps144;go_wp2_with (first|(go_at_call 198;refine(j7 _).mono ?_;rintro e w' ⟨rfl,rfl⟩)|(go_at_call 155;refine d.mono ?_;rintro e w3 ⟨g,cap,rfl,q0,q1,q2,hg,⟨hcap,hcs⟩,cN⟩))
 have y0:(w3.alloc (.cells #[ai (aj g) 3 cap] 108)).cell? (aj w3.heap.size)=some (ai (aj g) 3 cap):=eX w3 _ _ 0;have y1:=fun o=>fq y0 o
 have BL:Hid (cj ((w3.alloc (.cells #[ai (aj g) 3 cap] 108)).alloc (.cells #[U 32,U 24,U 8] 3)).drew w3.heap.size #[ai (aj g) 3 cap] 108):=bU (((cj.new w3 _ _).alloc _).drew);have Q0:Hid (((w3.alloc (.cells #[ai (aj g) 3 cap] 108)).alloc (.cells #[U 32,U 24,U 8] 3)).drew.cell? (aj g)=some (aa c)):=bU (lL q0 _ _);have Q1:Hid (((w3.alloc (.cells #[ai (aj g) 3 cap] 108)).alloc (.cells #[U 32,U 24,U 8] 3)).drew.cell? (aj g 1)=some (aa i)):=bU (lL q1 _ _);have Q2:Hid (((w3.alloc (.cells #[ai (aj g) 3 cap] 108)).alloc (.cells #[U 32,U 24,U 8] 3)).drew.cell? (aj g 2)=some (aa t)):=bU (lL q2 _ _);have BZ:Hid (cj ((w3.alloc (.cells #[ai (aj g) 3 cap] 108)).alloc (.cells #[U 32,U 24,U 8] 3)).drew w.heap.size #[U 0,U 0,.int .u32 0] 245):=bU ((((((cj.new w _ _).alloc _).below cN (by omega)).alloc _).alloc _).drew);have H5:Hid (Below w.heap.size w ((w3.alloc (.cells #[ai (aj g) 3 cap] 108)).alloc (.cells #[U 32,U 24,U 8] 3)).drew):=bU (bd ((bA (bA (bT HB.out cN (by omega)) (av _) _) (av _) _)));have hgl:g<w3.heap.size:=World.block_lt_of_cell? w3 _ q0;have hws:w.heap.size+2<=w3.heap.size:=by have:=cN.size;simp at this;omega
 clear q0 q1 q2 cN d
 go_region_with (go_at_call 198;refine(j7 _).mono ?_;rintro e w' ⟨rfl,rfl⟩)
 all_goals
  clear y0 y1;generalize ((w3.alloc (.cells #[ai (aj g) 3 cap] 108)).alloc (.cells #[U 32,U 24,U 8] 3)).drew=W at *;obtain⟨bl,hbl⟩:=al (w3.heap.size);rw[hbl] at BL hgl hws ⊢;have d0:=oC W bl g 0 3 cap c (by omega) (by omega) (by omega) hcs BL.out Q0.out;have d1:=oC (W.setCell (aj bl) (ai (aj g (0+1)) (3-1) (cap-1))) bl g (0+1) (3-1) (cap-1) i (by omega) (by omega) (by omega) (by omega) (BL.out.set 0 _) ((World.cell?_setCell_other _ _ _ _ (by intro h;injection h;omega)).trans Q1.out);have d2:=lS ((W.setCell (aj bl) (ai (aj g (0+1)) (3-1) (cap-1))).setCell (aj bl) (ai (aj g (0+1+1)) (3-1-1) (cap-1-1))) bl g (0+1+1) (cap-1-1) t (by omega) (by omega) ((BL.out.set 0 _).set 0 _) ((World.cell?_setCell_other _ _ _ _ (by intro h;injection h;omega)).trans ((World.cell?_setCell_other _ _ _ _ (by intro h;injection h;omega)).trans Q2.out));have HC:Hid (Below w.heap.size w ((W.setCell (aj bl) (ai (aj g (0+1)) (3-1) (cap-1))).setCell (aj bl) (ai (aj g (0+1+1)) (3-1-1) (cap-1-1)))):=bU ((H5.out.setCell (by show w.heap.size<=bl;omega) _).setCell (by show w.heap.size<=bl;omega) _);have QZ:Hid (cj ((W.setCell (aj bl) (ai (aj g (0+1)) (3-1) (cap-1))).setCell (aj bl) (ai (aj g (0+1+1)) (3-1-1) (cap-1-1))) w.heap.size #[U 0,U 0,.int .u32 0] 245):=bU ((BZ.out.other (by omega) 0 _).other (by omega) 0 _);clear BZ BL Q0 Q1 Q2;have ho:w.heap.size≠bl:=by omega
  go_wp2_with (go_at_call 199;first|((with_reducible refine d0.mono ?_);rintro e w' ⟨rfl,rfl⟩)|((with_reducible refine d1.mono ?_);rintro e w' ⟨rfl,rfl⟩)|((with_reducible refine d2.mono ?_);rintro e w8 ⟨rfl,hch⟩;have T9:=(QZ.out.bY hch ho).alloc (.cells #[U t,U i,.int .u32 c] 245);have k0:(w8.alloc (.cells #[U t,U i,.int .u32 c] 245)).cell? (aj w.heap.size)=some (U 0):=T9.cell 0;have f0:=T9.cE 0;have k1:(w8.alloc (.cells #[U t,U i,.int .u32 c] 245)).cell? (aj w.heap.size 1)=some (U 0):=T9.cell 1;have f1:=T9.cE 1;have k2:(w8.alloc (.cells #[U t,U i,.int .u32 c] 245)).cell? (aj w.heap.size 2)=some (.int .u32 0):=T9.cell 2;have f2:=T9.cE 2;clear T9))
  refine bodyPost_ret (v:=.tuple #[.agg #[U 0,U 0,.int .u32 0],U 130]) (by simp[results,Tryz.results144,go_sem,k0,k1,k2]) rfl ?_;exact⟨rfl,(((bA (HC.out.trans (hch.below HC.out.size (fun k hk=>by have hk:k=bl:=hk;omega))) (av _) _).setCell (by show w.heap.size<=w.heap.size;omega) _).setCell (by show w.heap.size<=w.heap.size;omega) _).setCell (by show w.heap.size<=w.heap.size;omega) _⟩
end Ca
open Go.RowKit fB
def GG(n:Int):Int:=if n<1 then 2 else 0
def LL(c:PP)(n:Int):Int:=if c.ac then clip (c.de+clip (n*c.Kj)) else c.de
def pS(c:PP)(n:Int):Int:=if n<1 then 0 else if clip (c.si+n)<c.tr then 0 else if c.ac then 2 else 1
def lF(c:PP)(n:Int):PP:=if n<1 then c else {c with si:=if clip (c.si+n)<c.tr then clip (c.si+n) else 0,CU:=clip (c.CU+n),de:=LL c n}
theorem Kk(w:World)(p:Nat)(c:PP)(n:Int)(h:Pc w p c)(hz:1<=c.tr)(hn:n<1):
  ak 238 #[af (aj p),U n] w fun e w'=>e=ae (.tuple #[ab 0,U 2])/\w=w':=by
 have d:=cC w p c h hz;clear h;go_enter func238,ntmps238;go_wp2_with (go_at_call 113;refine d.mono ?_;rintro e w' ⟨rfl,rfl⟩)
 go_ret2
 exact⟨rfl,rfl⟩
def N7(c:PP)(n:Int):PP:={c with si:=clip (c.si+n),CU:=clip (c.CU+n)}
def N8(c:PP)(n:Int):PP:={N7 c n with de:=LL c n}
def P5(c:PP)(n:Int):PP:={N7 c n with de:=LL c n,si:=0}
theorem GH{c:PP}{n:Int}(hn:1<=n)(hs:clip (c.si+n)<c.tr):pS c n=0/\lF c n=N8 c n:=by
 have h1:¬n<1:=by omega
 unfold pS lF;rw[if_neg h1,if_neg h1,if_pos hs,if_pos hs];exact⟨rfl,rfl⟩
theorem MZ{c:PP}{n:Int}(hn:1<=n)(hs:¬clip (c.si+n)<c.tr)(ha:c.ac=true):pS c n=2/\lF c n=P5 c n:=by
 have h1:¬n<1:=by omega
 unfold pS lF;rw[if_neg h1,if_neg h1,if_neg hs,if_neg hs];exact⟨by rw[ha];rfl,rfl⟩
theorem Kl{c:PP}{n:Int}(hn:1<=n)(hs:¬clip (c.si+n)<c.tr)(ha:c.ac=false):pS c n=1/\lF c n=P5 c n:=by
 have h1:¬n<1:=by omega
 unfold pS lF;rw[if_neg h1,if_neg h1,if_neg hs,if_neg hs];exact⟨by rw[ha];rfl,rfl⟩
theorem Km{c:PP}{n:Int}(ha:c.ac=false):N8 c n=N7 c n:=by
 unfold N8 LL;rw[ha,if_neg (by decide)];rfl
theorem Kn{c:PP}{n:Int}(ha:c.ac=false):P5 c n={N7 c n with si:=0}:=by
 unfold P5 LL;rw[ha,if_neg (by decide)];rfl
theorem M0{c:PP}{n:Int}(ha:c.ac=true):N8 c n={N7 c n with de:=clip (c.de+clip (n*c.Kj))}:=by
 unfold N8 LL;rw[ha,if_pos rfl]
set_option maxHeartbeats 8000000 in
theorem GI(w:World)(p:Nat)(c:PP)(n:Int)(h:Pc w p c)(g:c.Good)(hn:1<=n)(Q4:n<=9223372036854775807):
  ak 238 #[af (aj p),U n] w fun e w'=>e=ae (.tuple #[ab (pS c n),U 0])/\Pc w' p (lF c n)/\eQ w w' p:=by
 have d:=cC w p c h g.GD;have e2:w.cell? (aj p 2)=some (U c.si):=h.cells.c2;have e3:w.cell? (aj p 3)=some (U c.CU):=h.cells.c3;have f2:=fz h 2;have f3:=fz h 3;have nI:Cj n:=⟨by omega,Q4⟩;have t0:=g.GD;have t1:=g.Ui;have a1:=fun w=>oz c.si n ⟨by have:=g.P3;omega,by have:=g.P4;omega⟩ nI w
 have a2:=fun w=>oz c.CU n g.CU.i64 nI w
 have HP:=bU h;have HG:=bU g;clear h g;go_enter func238,ntmps238
 go_upto_region 6 with(go_at_call 113;refine d.mono ?_;rintro e w' ⟨rfl,rfl⟩)
 go_cut [] (fun wx=>Pc wx p (N7 c n)/\eQ w wx p)
 case first=>
  go_region_with (first|(go_at_call_of 281 (Value.int IntKind.i64 c.si);refine(a1 _).mono ?_;rintro e w' ⟨rfl,rfl⟩)|(go_at_call_of 281 (Value.int IntKind.i64 c.CU);refine(a2 _).mono ?_;rintro e w' ⟨rfl,rfl⟩))
  all_goals (go_wp2_with fail;go_meet;exact⟨setOf (setOf HP.out 2 _) 3 _,(((eQ.refl _ _).stored _ _).stored _ _).drew⟩)
 case rest=>
  obtain⟨h1,o1⟩:=hcut;clear a1 a2 e2 e3 f2 f3 d;have k0:wc.cell? (aj p)=some (U c.tr):=h1.cells.c0;have k1:wc.cell? (aj p 1)=some (U c.Kj):=h1.cells.c1;have k2:wc.cell? (aj p 2)=some (U (clip (c.si+n))):=h1.cells.c2;have k4:wc.cell? (aj p 4)=some (U c.de):=h1.cells.c4;have k6:wc.cell? (aj p 6)=some (.bool c.ac):=h1.cells.c6;have f2:=fz h1 2;have f4:=fz h1 4;have O1:=bU o1;have H1:=bU h1;clear h1 o1;by_cases ha:c.ac=false
  .rw[ha] at k6
   by_cases hs:clip (c.si+n)<c.tr
   .obtain⟨dd,cc⟩:=GH hn hs
    rw[Km ha] at cc;have DD:=bU dd;have CC:=bU cc;clear dd cc;go_wp2_with fail
    go_region
    go_wp2_with fail
    go_ret2
    exact⟨by rw[DD.out];rfl,by rw[CC.out];exact H1.out,O1.out.drew⟩
   .obtain⟨dd,cc⟩:=Kl hn hs ha
    rw[Kn ha] at cc;have DD:=bU dd;have CC:=bU cc;clear dd cc;go_wp2_with fail
    go_region
    go_wp2_with fail
    go_ret2
    exact⟨by rw[DD.out];rfl,by rw[CC.out];exact setOf H1.out 2 _,(O1.out.drew).stored _ _⟩
  .have ha:c.ac=true:=by simpa using ha
   rw[ha] at k6;have b1:=fun w=>FZ n c.Kj nI ⟨by have:=HG.out.Uj;omega,by have:=HG.out.Uk;omega⟩ w
   have b2:=fun w=>oz c.de (clip (n*c.Kj)) HG.out.de.i64 (Cj.clip _) w
   go_upto_region 9 with fail
   go_cut [] (fun wx=>Pc wx p (N8 c n)/\eQ w wx p)
   case first=>
    go_region_with (first|(go_at_call 282;refine(b1 _).mono ?_;rintro e w' ⟨rfl,rfl⟩)|(go_at_call 281;refine(b2 _).mono ?_;rintro e w' ⟨rfl,rfl⟩))
    all_goals (go_wp2_with fail;go_meet;rw[M0 ha];exact⟨setOf H1.out 4 _,((O1.out).stored _ _).drew⟩)
   case rest=>
    obtain⟨h2,o2⟩:=hcut;clear k0 k1 k2 k4 k6 f2 f4 b1 b2;have k0:wc.cell? (aj p)=some (U c.tr):=h2.cells.c0;have k2:wc.cell? (aj p 2)=some (U (clip (c.si+n))):=h2.cells.c2;have f2:=fz h2 2;have O2:=bU o2;have H2:=bU h2;clear h2 o2;by_cases hs:clip (c.si+n)<c.tr
    .obtain⟨dd,cc⟩:=GH hn hs
     have DD:=bU dd;have CC:=bU cc;clear dd cc;go_wp2_with fail
     go_region
     go_wp2_with fail
     go_ret2
     exact⟨by rw[DD.out];rfl,by rw[CC.out];exact H2.out,O2.out.drew⟩
    .obtain⟨dd,cc⟩:=MZ hn hs ha
     have DD:=bU dd;have CC:=bU cc;clear dd cc;go_wp2_with fail
     go_region
     go_wp2_with fail
     go_ret2
     exact⟨by rw[DD.out];rfl,by rw[CC.out];exact setOf H2.out 2 _,(O2.out.drew).stored _ _⟩
theorem GJ(w:World)(p:Nat)(c:PP)(n:Int)(h:Pc w p c)(g:c.Good)(Q4:n<=9223372036854775807):
  ak 238 #[af (aj p),U n] w fun e w'=>e=ae (.tuple #[ab (pS c n),U (GG n)])/\Pc w' p (lF c n)/\eQ w w' p:=by
 by_cases hn:n<1
 .have e1:pS c n=0:=by unfold pS;rw[if_pos hn]
  have e2:GG n=2:=by unfold GG;rw[if_pos hn]
  have e3:lF c n=c:=by unfold lF;rw[if_pos hn]
  rw[e1,e2,e3];refine(Kk w p c n h g.GD hn).mono ?_;rintro e w' ⟨rfl,rfl⟩;exact⟨rfl,h,eQ.refl _ _⟩
 .have e2:GG n=0:=by unfold GG;rw[if_neg hn]
  rw[e2];exact GI w p c n h g (by omega) Q4
end Go.Proofs.YtgblmelijlgimaaGreatDoor
namespace Go.Gc
structure V.Ok(C:cV)(x:V):Prop where
 us:x.v.used=(fE C.K.size x.v.T C.K.n:Nat)
 tn:∀s,x.v.T s=true→s<C.K.n
 hd:∀s,x.v.T s=true→x.v.G s=false→∃r u,cU C.K x.v.M s=some (r,u)
 rf:∀s k,x.v.T s=true→x.v.G s=false→k<refs C.K x.v.M s→0<=x.v.M (C.K.addr s+1+k)/\x.v.M (C.K.addr s+1+k)<=C.K.n
 cs:∀c∈x.v.cs,0<=c/\c<=255
 si:0<=x.si/\x.si<=4611686018427387904
 cy:0<=x.cy/\x.cy<=4611686018427387904
structure Rp(C:cV)(s:St)(G:Nat→Bool)(x:V):Prop where
 I:Inv C.K s G
 vs:lJ C.K s G=x.v
 ok:x.Ok C
theorem Rp.T{C:cV}{s:St}{G:Nat→Bool}{x:V}(h:Rp C s G x):x.v.T=s.T:=by rw[←h.vs];rfl
theorem Rp.G{C:cV}{s:St}{G:Nat→Bool}{x:V}(h:Rp C s G x):x.v.G=G:=by rw[←h.vs];rfl
theorem Rp.used{C:cV}{s:St}{G:Nat→Bool}{x:V}(h:Rp C s G x):x.v.used=s.used:=by rw[←h.vs];rfl
theorem Rp.es{C:cV}{s:St}{G:Nat→Bool}{x:V}(h:Rp C s G x):x.v.es=s.es:=by rw[←h.vs];rfl
theorem Rp.cs{C:cV}{s:St}{G:Nat→Bool}{x:V}(h:Rp C s G x):x.v.cs=s.cs:=by rw[←h.vs];rfl
theorem Rp.M{C:cV}{s:St}{G:Nat→Bool}{x:V}(h:Rp C s G x):x.v.M=mask C.K s.T G s.M:=by rw[←h.vs];rfl
theorem Rp.act{C:cV}{s:St}{G:Nat→Bool}{x:V}(h:Rp C s G x):x.v.act=decide (s.phase≠0):=by rw[←h.vs];exact h.I.ac
theorem Rp.same{C:cV}{s s':St}{G:Nat→Bool}{x:V}(h:Rp C s G x)(I:Inv C.K s' G)(e:lJ C.K s' G=lJ C.K s G):Rp C s' G x:=⟨I,e.trans h.vs,h.ok⟩
theorem Rp.left{C:cV}{s s':St}{G:Nat→Bool}{x:V}(h:Rp C s G x)(I:Inv C.K s' G)(l:Left s s'):Rp C s' G x:=h.same I (vF l)
theorem Rp.fO{C:cV}{s:St}{G:Nat→Bool}{x:V}(h:Rp C s G x){y:Nat}(hy:iy s G y):Rp C (fW C.K s y) G x:=h.left (xB h.I hy) (hU C.K s y)
theorem Rp.word{C:cV}{s:St}{G:Nat→Bool}{x:V}(h:Rp C s G x){y i:Nat}(hy:iy s G y)(h1:C.K.addr y<=i)(h2:i<C.K.addr y+C.K.size y):x.v.M i=s.M i:=by rw[h.M];exact im hy h1 h2
theorem Rp.head{C:cV}{s:St}{G:Nat→Bool}{x:V}(hK:C.K.Ok)(h:Rp C s G x){y:Nat}(hy:iy s G y):cU C.K x.v.M y=cU C.K s.M y:=by rw[h.M];exact oU hK (h.I.tn y hy.1) hy
theorem Rp.live{C:cV}{s:St}{G:Nat→Bool}{x:V}(h:Rp C s G x){i:Nat}{e:eG}(he:s.es[i]?=some e)(h1:e.state=1):iy s G e.slot:=h.I.roots i e.slot (qP he h1)
theorem Rp.OV{C:cV}{s:St}{G:Nat→Bool}{x:V}(h:Rp C s G x){n:Int}(hn:0<=n/\n<=4611686018427387904):Rp C s G {x with si:=n}:=⟨h.I,h.vs,{h.ok with si:=hn}⟩
theorem Rp.begin{C:cV}{s:St}{G:Nat→Bool}{x:V}(hK:C.K.Ok)(h:Rp C s G x)(hp:s.phase=0):Rp C (begun s) (lost C.K s.T s.es s.cs s.M) (x.begin C):=by
 have I':=Bj hK h.I.tofh hp;have e:=BP hK h.I.tofh hp;rw[h.vs] at e;have hT:=h.T;have hG:=h.G;have g0:=h.I.idle hp;refine⟨I',e,?_⟩;have ev:(x.begin C).v=lJ C.K (begun s) (lost C.K s.T s.es s.cs s.M):=e.symm;have hM:∀y,s.T y=true→lost C.K s.T s.es s.cs s.M y=false→lP C.K x.v.M (x.begin C).v.M y:=fun y h1 h2 i h3 h4=>by
  rw[ev];show mask C.K s.T (lost C.K s.T s.es s.cs s.M) s.M i=x.v.M i;rw[im ⟨h1,h2⟩ h3 h4,h.M,im ⟨h1,g0 y⟩ h3 h4]
 have hGe:(x.begin C).v.G=lost C.K s.T s.es s.cs s.M:=by rw[ev];rfl
 exact {h.ok with
  hd:=fun y h1 h2=>by
   have h1:x.v.T y=true:=h1;rw[hT] at h1;rw[hGe] at h2;rw[ki (hK.sz y (h.I.tn y h1)) (hM y h1 h2)];exact h.ok.hd y (by rw[hT];exact h1) (by rw[hG];exact g0 y)
  rf:=fun y k h1 h2 h3=>by
   have h1:x.v.T y=true:=h1;rw[hT] at h1;rw[hGe] at h2;have hs:=hM y h1 h2;rw[oN (hK.sz y (h.I.tn y h1)) hs] at h3;have:=jn h3;rw[hs (C.K.addr y+1+k) (by omega) (by omega)];exact h.ok.rf y k (by rw[hT];exact h1) (by rw[hG];exact g0 y) h3
  si:=⟨Int.le_refl 0,(by decide:(0:Int)<=4611686018427387904)⟩}
theorem wg(n:Int):0<=jj n/\jj n<=4611686018427387904:=by
 unfold jj
 split
 .omega
 .split <;> omega
theorem Rp.fin{C:cV}{s:St}{G:Nat→Bool}{x:V}(h:Rp C s G x)(hp:s.phase=3){u:Int}(hu:u=(fE C.K.size (fun y=>s.T y&& !G y) C.K.n:Nat)):Rp C (ended C.gens s G u) (fun _=>false) (x.fin C):=by
 have I':=Bk (K:=C.K) C.gens u h.I.tofh hp;have e:=BU (K:=C.K) C.gens hu;rw[h.vs] at e;have hT:=h.T;have hG:=h.G;refine⟨I',e,?_⟩;have e1:∀y,(x.fin C).v.T y=true→x.v.T y=true/\x.v.G y=false:=fun y hy=>by
  have hy:(x.v.T y&& !x.v.G y)=true:=hy;simpa using hy
 exact {h.ok with
  us:=rfl
  tn:=fun y hy=>h.ok.tn y (e1 y hy).1
  hd:=fun y h1 _=>h.ok.hd y (e1 y h1).1 (e1 y h1).2
  rf:=fun y k h1 _ h3=>h.ok.rf y k (e1 y h1).1 (e1 y h1).2 h3
  si:=⟨Int.le_refl 0,(by decide:(0:Int)<=4611686018427387904)⟩
  cy:=wg _}
theorem Rp.Q6{C:cV}{s:St}{G:Nat→Bool}{x:V}(h:Rp C s G x){y:Nat}(hy:iy s G y)(hf:0<ek s.es){e:eG}(he:s.es[ir s.es]?=some e):Rp C {s with es:=s.es.set (ir s.es) ⟨1,y,e.gen⟩} G (ia C x y):=by
 obtain⟨e',h1,h2,_⟩:=kF hf;rw[he] at h1;injection h1 with h1;subst h1;have hes:=h.es;have e3:ia C x y={x with v:={x.v with es:=s.es.set (ir s.es) ⟨1,y,e.gen⟩}}:=by
  unfold ia;rw[hes,ao,he];rfl
 rw[e3];exact⟨EO h.I he (by omega) hy e.gen,by rw[←h.vs];rfl,{h.ok with}⟩
theorem Rp.drop{C:cV}{s:St}{G:Nat→Bool}{x:V}(h:Rp C s G x){i:Nat}{e:eG}(he:s.es[i]?=some e)(h1:e.state=1)(hc:s.phase=1→s.col e.slot≠0):Rp C {s with es:=s.es.set i {e with state:=2}} G (lh x i e).1:=by
 have e3:(lh x i e).1={x with v:={x.v with es:=s.es.set i {e with state:=2}}}:=by
  unfold lh;rw[h.es]
 rw[e3];exact⟨EP h.I he h1 hc e.slot e.gen,by rw[←h.vs];rfl,{h.ok with}⟩
theorem Rp.AY{C:cV}{s:St}{G:Nat→Bool}{x:V}(h:Rp C s G x){y:Nat}(hy:iy s G y)(hv:s.cs.getD y 0<255):Rp C {s with cs:=s.cs.set y (s.cs.getD y 0+1)} G (q9 x y (x.v.cs.getD y 0+1)):=by
 have hc:=h.cs;have h0:0<=s.cs.getD y 0:=by
  have hl:y<s.cs.length:=by rw[h.I.lc];exact h.I.tn y hy.1
  rw[ao,aq hl];exact(h.ok.cs _ (by rw[hc];exact aF _)).1
 refine⟨Jf h.I hy _ (by omega),by rw[←h.vs];unfold q9;rw[hc,←h.vs];rfl,{h.ok with cs:=fun c hm=>?_}⟩;have hm:c∈x.v.cs.set y (x.v.cs.getD y 0+1):=hm;rw[hc] at hm;rcases aZ hm with hm|rfl
 .exact h.ok.cs c (by rw[hc];exact hm)
 .omega
theorem Rp.OX{C:cV}{s:St}{G:Nat→Bool}{x:V}(h:Rp C s G x){y:Nat}(hy:iy s G y)(hv:s.cs.getD y 0≠0)(hcol:s.phase=1→s.col y≠0):Rp C {s with cs:=s.cs.set y (s.cs.getD y 0-1)} G (q9 x y (x.v.cs.getD y 0-1)):=by
 have hc:=h.cs;have h0:0<=s.cs.getD y 0/\s.cs.getD y 0<=255:=by
  have hl:y<s.cs.length:=by rw[h.I.lc];exact h.I.tn y hy.1
  rw[ao,aq hl];exact h.ok.cs _ (by rw[hc];exact aF _)
 refine⟨Bl h.I hy _ hcol,by rw[←h.vs];unfold q9;rw[hc,←h.vs];rfl,{h.ok with cs:=fun c hm=>?_}⟩;have hm:c∈x.v.cs.set y (x.v.cs.getD y 0-1):=hm;rw[hc] at hm;rcases aZ hm with hm|rfl
 .exact h.ok.cs c (by rw[hc];exact hm)
 .omega
theorem Rp.store{C:cV}{s:St}{G:Nat→Bool}{x:V}(hK:C.K.Ok)(h:Rp C s G x){a i:Nat}(ha:iy s G a)(hi:i+1<C.K.size a)(z:Int)
 (hz:i<refs C.K s.M a→0<=z/\z<=C.K.n/\(0<z→iy s G (z-1).toNat))(ho:s.phase=1→∀y,iW C.K s.M a i=some y→s.col y≠0):Rp C {s with M:=cP s.M (C.K.addr a+1+i) z} G (gu C x a i z):=by
 have han:=h.I.tn a ha.1;have hM:=h.M;have I':=Bm hK h.I ha hi z (fun y hy=>by
  have h1:=qG hy;have hr:refs C.K (cP s.M (C.K.addr a+1+i) z) a=refs C.K s.M a:=by unfold refs;rw[oh hK s.M han han hi]
  rw[hr] at h1;obtain⟨z1,z2,z3⟩:=hz h1;unfold iW at hy;rw[hr] at hy
  split at hy
  .rename_i c
   rw[cS] at hy c;injection hy with hy;subst hy;exact z3 c.2.1
  .cases hy) (fun hp y hy=>.inr (ho hp y hy))
 have e:lJ C.K {s with M:=cP s.M (C.K.addr a+1+i) z} G=(gu C x a i z).v:=by
  unfold gu;rw[hM];show sU.mk s.T G s.used s.es s.cs (mask C.K s.T G (cP s.M _ z)) s.act=_;rw[Fs z ha (by omega) (by omega),←h.vs]
  rfl
 refine⟨I',e,{h.ok with hd:=fun y h1 h2=>?_,rf:=fun y k h1 h2 h3=>?_}⟩
 .show ∃r u,cU C.K (cP x.v.M _ z) y=some (r,u)
  rw[oh hK x.v.M han (h.ok.tn y h1) hi];exact h.ok.hd y h1 h2
 .have g3:k<refs C.K (cP x.v.M (C.K.addr a+1+i) z) y:=h3
  clear h3;have hyn:=h.ok.tn y h1;have hr:refs C.K (cP x.v.M (C.K.addr a+1+i) z) y=refs C.K x.v.M y:=by unfold refs;rw[oh hK x.v.M han hyn hi]
  rw[hr] at g3;show 0<=cP x.v.M (C.K.addr a+1+i) z (C.K.addr y+1+k)/\cP x.v.M (C.K.addr a+1+i) z (C.K.addr y+1+k)<=C.K.n;by_cases c:C.K.addr y+1+k=C.K.addr a+1+i
  .rw[c,cS]
   have h4:=jn g3;have hya:y=a:=by
    by_cases e:y=a
    .exact e
    .have:=hK.apart y a hyn han e;omega
   subst hya;have hki:k=i:=by omega
   subst hki;have hrr:refs C.K x.v.M y=refs C.K s.M y:=by unfold refs;rw[h.head hK ha]
   rw[hrr] at g3;exact⟨(hz g3).1,(hz g3).2.1⟩
  .rw[du _ _ c]
   exact h.ok.rf y k h1 h2 g3
theorem Rp.born{C:cV}{s:St}{G:Nat→Bool}{x:V}(hK:C.K.Ok)(h:Rp C s G x){y k r u:Nat}(hy:y<C.K.n)(hT:s.T y=false)(hsz:C.K.size y=C.cl.getD k 0)(hhd:C.K.hd (C.hw k r u:Nat)=some (k,r,u))(hck:C.K.cls y=k)(hfit:r+u+1<=C.K.size y):
  Rp C (born C.K s y (C.hw k r u:Nat) (s.used+(C.cl.getD k 0:Nat))) G (jI C x y k r u):=by
 have hM:=h.M;have hTe:=h.T;have hGy:G y=false:=by
  cases e:G y
  .rfl
  .have:=h.I.gT y e;rw[hT] at this;cases this
 have hGe:=h.G;have e:lJ C.K (Go.Gc.born C.K s y (C.hw k r u:Nat) (s.used+(C.cl.getD k 0:Nat))) G=(jI C x y k r u).v:=by
  unfold jI;rw[hM];show sU.mk (cP s.T y true) G (s.used+(C.cl.getD k 0:Nat)) s.es s.cs (mask C.K (cP s.T y true) G (made C.K s.M y _)) s.act=_;rw[BW hK _ hy hT hGy,←h.vs]
  rfl
 have Um:=hK.sz y hy;have hnew:cU C.K (made C.K x.v.M y (C.hw k r u:Nat)) y=some (r,u):=by
  unfold cU;rw[show made C.K x.v.M y (C.hw k r u:Nat) (C.K.addr y)=(C.hw k r u:Nat) by unfold made;rw[if_pos rfl],hhd];simp[hck,hfit]
 refine⟨ES hK h.I hy hT _ _,e,{h.ok with us:=?_,tn:=fun z hz=>?_,hd:=fun z h1 h2=>?_,rf:=fun z j h1 h2 h3=>?_}⟩
 .show x.v.used+(C.cl.getD k 0:Nat)=(fE C.K.size (cP x.v.T y true) C.K.n:Nat)
  rw[vH C.K.n hy (by rw[hTe];exact hT),hsz,h.ok.us];omega
 .rcases iA hz with rfl|hz
  .exact hy
  .exact h.ok.tn z hz
 .show ∃r' u',cU C.K (made C.K x.v.M y _) z=some (r',u')
  by_cases c:z=y
  .subst c;exact⟨r,u,hnew⟩
  .have hz:x.v.T z=true:=by rcases iA h1 with e|e;exact absurd e c;exact e
   rw[ki (hK.sz z (h.ok.tn z hz)) (jV hK hy (h.ok.tn z hz) c _)];exact h.ok.hd z hz h2
 .show 0<=made C.K x.v.M y _ (C.K.addr z+1+j)/\made C.K x.v.M y _ (C.K.addr z+1+j)<=C.K.n
  by_cases c:z=y
  .subst c
   have h4:=jn h3;have:made C.K x.v.M z (C.hw k r u:Nat) (C.K.addr z+1+j)=0:=by
    unfold made;rw[if_neg (by omega),if_pos (by omega)]
   rw[this];omega
  .have hz:x.v.T z=true:=by rcases iA h1 with e|e;exact absurd e c;exact e
   have hs:=jV hK hy (h.ok.tn z hz) c (C.hw k r u:Nat) (M:=x.v.M);have h3:j<refs C.K (made C.K x.v.M y (C.hw k r u:Nat)) z:=h3;rw[oN (hK.sz z (h.ok.tn z hz)) hs] at h3;have:=jn h3;rw[hs (C.K.addr z+1+j) (by omega) (by omega)];exact h.ok.rf z j hz h2 h3
end Go.Gc
