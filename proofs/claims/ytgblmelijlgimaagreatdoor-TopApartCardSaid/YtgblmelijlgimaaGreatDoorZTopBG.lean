/- Parts of the proof of TopApart. -/
import Derived.Test.YtgblmelijlgimaaGreatDoorZTopBF
set_option maxRecDepth 100000
namespace Go.Proofs.YtgblmelijlgimaaGreatDoor
open Go.Proofs.Tryz
namespace Hp
open Go.RowKit Go.bZ Go.Gc Go.Cf Cn Go.Proofs.YtgblmelijlgimaaGreatDoor.Fd Sl Bd Ca Hd Tb Mm Mk Sw Cy
theorem Ky{C:cV}{E:Env}{c:cF}(L:Lk C E c){s:St}{G:Nat→Bool}{x:V}(rp:Rp C s G x){k:Nat}(hk:k<c.cl.length)(hq:x.v.used+(c.cl.getD k 0:Nat)<=(C.fV:Int)):∃y,lZ x.v.T (C.first k) (C.many k)=some y/\y<E.n/\s.T y=false/\eJ E.pw E.rs E.n E.pg y k (recAt c E.tn k)/\C.first k+C.many k<=E.n:=by
 have hcl:=wj L.k hk;have hrange:∀y,cI (gC c E.tn) k<=y→y<cI (gC c E.tn) k+gC c E.tn k→y<E.n/\eJ E.pw E.rs E.n E.pg y k (recAt c E.tn k):=fun y h1 h2=>by
  have h3:cI (gC c E.tn) (k+1)<=cI (gC c E.tn) c.cl.length:=mv _ _ _ hk;have h4:cI (gC c E.tn) (k+1)=cI (gC c E.tn) k+gC c E.tn k:=rfl;have hn:y<E.n:=by rw[L.n];omega
  obtain⟨k',r',sl⟩:=gq L.e.gd hn;obtain⟨a1,a2,-,-⟩:=L.slot sl;have b1:=sl.lo;have b2:=sl.hi;rw[a2] at b1 b2;have b1:cI (gC c E.tn) k'<=y:=b1;have b2:y<cI (gC c E.tn) k'+gC c E.tn k':=b2;have e:k'=k:=by
   rcases Nat.lt_trichotomy k' k with h|h|h
   .have h5:cI (gC c E.tn) (k'+1)<=cI (gC c E.tn) k:=mv _ _ _ h
    have h6:cI (gC c E.tn) (k'+1)=cI (gC c E.tn) k'+gC c E.tn k':=rfl;omega
   .exact h
   .have h5:cI (gC c E.tn) (k+1)<=cI (gC c E.tn) k':=mv _ _ _ h
    omega
  subst e;rw[a2] at sl;exact⟨hn,sl⟩
 have h3:cI (gC c E.tn) (k+1)<=cI (gC c E.tn) c.cl.length:=mv _ _ _ hk;have h4:cI (gC c E.tn) (k+1)=cI (gC c E.tn) k+gC c E.tn k:=rfl;have hn:C.first k+C.many k<=E.n:=by rw[L.c1,L.c2,L.n];omega
 have hK:C.K.n=E.n:=by rw[L.cK];rfl
 obtain⟨y,hy⟩:=Go.Gc.oV (sz:=C.K.size) (T:=x.v.T) (c:=c.cl.getD k 0) (q:=C.fV) (n:=C.K.n) (f:=C.first k) (m:=C.many k) (by omega) (by rw[L.c2,L.cq];rfl) (by rw[hK];exact hn) (fun z h5 h6=>by
  rw[L.c1] at h5 h6;rw[L.c2] at h6;obtain⟨-,sl⟩:=hrange z h5 h6;rw[L.cK];exact(L.slot sl).2.2.1) (by have:=rp.ok.us;omega)
 obtain⟨h5,h6,h7,-⟩:=kG hy;rw[L.c1] at h5 h6;rw[L.c2] at h6;obtain⟨h8,sl⟩:=hrange y h5 h6;exact⟨y,hy,h8,by rw[←rp.T];exact h7,sl,hn⟩
theorem yz{bs:List Nat}{tn:Nat}{ws:List Int}{o n:Nat}(h:bs.getD tn 0+o+n<=ws.length)(hn:0<n)(z:Int)(a:Nat):at' bs tn ((eO ws (bs.getD tn 0+o) n).set (bs.getD tn 0+o) z) a=if a=o then z else if o<=a/\a<o+n then 0 else at' bs tn ws a:=by
 rw[F6 (by rw[jY _ _ _ h];omega),th h]
theorem Kz{w:World}{C:cV}{E:Env}{c:cF}{ws:List Int}{N:Int}{x:V}(L:Lk C E c)(h:Hv w C E c ws N x){k r u:Nat}(hk:k<c.cl.length)(hru:r+u<=63)(hfit:r+u+1<=c.cl.getD k 0)(hq:x.v.used+(c.cl.getD k 0:Nat)<=(C.fV:Int)):∃y,lZ x.v.T (C.first k) (C.many k)=some y/\y<E.n/\C.K.addr y=addrOf E.pw E.rs y/\eJ E.pw E.rs E.n E.pg y k (recAt c E.tn k)/\
  ak 179 #[af (aj (E.A 3)),U k] w fun e w1=>e=ae (.tuple #[U y,U 0])/\cu (Om E Hl) w w1/\∀LO,Below w1.heap.size w1 LO→LO.cell? (aj (E.A 26) 7)=some (af (aj (E.A 25)))/\(ak 180 #[af (aj (E.A 25))] LO fun e w'=>e=ae (af (aj (E.A 0)))/\LO=w')/\
   ak 181 #[af (aj (E.A 0)),U y,.agg #[U k,U r,U u]] LO fun e w2=>e=ae (U 0)/\cu (Om E Hl) LO w2/\w2.cell? (aj (E.A 26) 7)=some (af (aj (E.A 25)))/\
    ak 182 #[af (aj (E.A 25)),U y] w2 fun e w3=>e=ae (U 0)/\∃cR,fF w w3 C E c ws N (jI C x y k r u) 0 cR:=by
 obtain⟨s,G,hp,rp,gn⟩:=h;obtain⟨y,hy,hyn,hT,sl,hmn⟩:=Ky L rp hk hq;have hcl:=wj L.k hk;have Rk:k<8:=aB hk L.k.c8;have hK:C.K.Ok:=by rw[L.cK];exact L.e.K
 obtain⟨u0,u1⟩:=Af L rp;have ha:C.K.addr y=addrOf E.pw E.rs y:=by rw[L.cK];rfl
 have hsz:cJ E.rs y=c.cl.getD k 0:=(L.slot sl).2.2.1;have I:=Rp.uP L rp;refine⟨y,hy,hyn,ha,sl,?_⟩;have hrs:E.rs[k]?=some (recAt c E.tn k):=sl.at';refine(Ar.JJ hp.cp.co.ar hp.cp.co.mp.cx.pl sl hyn hrs (by rw[←rp.T];show lZ x.v.T (cI (gC c E.tn) k) (gC c E.tn k)=_;rw[←L.c1,←L.c2];exact hy) (by show cI (gC c E.tn) k+gC c E.tn k<=E.n;rw[←L.c1,←L.c2];exact hmn) (by show c.cl.getD k 0<=1000000;omega) (by rw[←rp.used];omega) hp.cp.co.mp.de hp.cp.co.mp.d2).mono ?_;rintro e w1 ⟨rfl,a1,k1⟩;obtain⟨c1,k1⟩:=hp.cp.take L.e k1 a1;have h1:=hp.gY L (k1.up (Om.of (l':=[3,5]) (by decide))) (by decide) c1;refine⟨rfl,k1.up (mx (by decide)),fun LO hb=>?_⟩;have KA:=h1.cA L hb;obtain⟨l1,l2⟩:=MK KA.cp.co.mp.cx;have hin:=jM L.e.gd hyn;rw[hsz] at hin;have iX:at' E.bs E.tn ws (addrOf E.pw E.rs y)=0:=by
  rw[←hp.cp.co.mp.mem _ (by omega)];have:=I.free y hyn hT (addrOf E.pw E.rs y) (av _) (by show addrOf E.pw E.rs y<addrOf E.pw E.rs y+cJ E.rs y;rw[hsz];omega);exact this
 refine⟨KA.cells.2.1,ic KA.cp,(Jz (c:=E.c) KA.cp.co.mp.cx (F7 L.e) sl hyn Rk hru (by show r+u+1<=c.cl.getD k 0;exact hfit) iX).mono ?_⟩;rintro e w2 ⟨rfl,x2,k2⟩;have x2:Cx w2 E.c ((eO ws (E.bs.getD E.tn 0+addrOf E.pw E.rs y) (c.cl.getD k 0)).set (E.bs.getD E.tn 0+addrOf E.pw E.rs y) (vz k r u:Nat)):=x2;have k2:cu (· =E.mw) LO w2:=k2;have c2:=KA.cp.mem L.e x2 k2 (M:=made C.K s.M y (C.hw k r u:Nat)) (fun a N4=>by
  rw[yz (by omega) (by omega)];unfold made;rw[ha,L.cw,←hp.cp.co.mp.mem a N4];have:C.K.size y=c.cl.getD k 0:=by rw[L.cK];exact hsz
  rw[this])
 have h2:=KA.gY L (l:=[]) (k2.up (fun k hk=>.inl hk)) (by decide) c2;refine⟨rfl,k2.up (fun k hk=>.inl hk),h2.cells.2.1,(Gl L.e h2.cp hyn).mono ?_⟩;rintro e w3 ⟨rfl,c3,k3⟩;have h3:=h2.gY L (k3.up (Om.of (l':=[12,13]) (by decide))) (by decide) c3;have r3:=rp.born hK (y:=y) (k:=k) (r:=r) (u:=u) (by rw[L.cK];exact hyn) hT (by rw[L.cK,L.cc];exact hsz) (by rw[L.cw,L.cK];show zt _=_;rw[aG];exact Kx k r u Rk hru) (by rw[L.cK];exact(L.slot sl).2.2.2) (by rw[L.cK];show r+u+1<=cJ E.rs y;rw[hsz];exact hfit);refine⟨rfl,(eO ws (E.bs.getD E.tn 0+addrOf E.pw E.rs y) (c.cl.getD k 0)).set (E.bs.getD E.tn 0+addrOf E.pw E.rs y) (vz k r u:Nat),⟨?_,?_,?_⟩⟩
 .rw[Int.add_zero]
  refine⟨_,G,?_,r3,gn⟩;have:C.cl.getD k 0=c.cl.getD k 0:=by rw[L.cc]
  rw[this];exact h3
 .have q1:=rv (bs:=E.bs) (tn:=E.tn) (ws:=ws) (o:=addrOf E.pw E.rs y) (n:=c.cl.getD k 0) (by omega) l1
  exact q1.trans (zN (by omega) _)
 .exact(((k1.up (mx (by decide))).bl hb).trans (k2.up (fun k hk=>.inl hk))).trans (k3.up (mx (by decide)))
end Hp
end Go.Proofs.YtgblmelijlgimaaGreatDoor
namespace Go
section
variable {P:Program} {ops:Array Oper} {w:World}
theorem o8{o:Oper}{a:Act}{rest:List Oper}{Q:Act→Prop}(hw:Region.wanted o (yielded ops a.tmps)=true)(ty:TypeId)(x:Operand)(ho:o.op=.load ty x)
 (g:Nat)(hx:a.eval x=af (aj g))(t:TypeId)(cs:Array Value)(fr:Nat×Nat)(d:TypeDesc)(hg:w.heap[g]?=some (.cells cs t fr))
 (hu:P.underlying ty=some d)(hd:(match d with| .struct _| .array _ _=>true|_=>false)=true)(hi:(P.info? ty).map (·.size)=some cs.size)
 (h:wpStill P ops w Q rest (a.put o.dst (.agg cs))):wpStill P ops w Q (o::rest) a:=by
 unfold wpStill;rw[if_pos hw];unfold Oper.still execOp;simp only[ho,hx,Instr.loadAt,Instr.sureAddr,Sem.run_bind,Sem.run_pure,Result.andThen_ok,run_loadVar_row w g t ty cs fr d hg hu hd hi];exact⟨rfl,h⟩
end
end Go
namespace Go.Proofs.YtgblmelijlgimaaGreatDoor
open Go.Proofs.Tryz
namespace Hp
open Go.RowKit Go.bZ Go.Gc Go.Cf Cn Go.Proofs.YtgblmelijlgimaaGreatDoor.Fd Sl Bd Ca Hd Tb Mm Mk Sw Cy
theorem uv:(prog.info? 195).map (·.size)=some 3:=by kernel_rfl
theorem fF.told{w w1 w2:World}{C:cV}{E:Env}{c:cF}{ws uO cR:List Int}{N N0 n:Int}{x' x0:V}(L:Lk C E c)(h0:Hv w C E c uO N0 x0)(a:fF w w1 C E c ws N x' n cR){sb:Nat}(hs:w.heap.size<=sb)(b:cj w1 sb eY 38)(hb:Below w1.heap.size w1 w2):cj w2 sb eY 38/\Hid (∀s,cj (w2.setRow sb (cX s)) sb (cX s) 38/\∃cR,fF w (w2.setRow sb (cX s)) C E c ws N x' n cR):=by
 have b2:=b.cA hb;refine⟨b2,bU (fun s=>⟨b2.setRow _,cR,?_⟩)⟩;have a2:=a.bl L hb;have hk:Below w.heap.size w2 (w2.setRow sb (cX s)):=((cu.refl (fun k=>k=sb) w2).row (p:=sb) (.inl rfl) _).below (by have:=a2.ch.size;omega) (fun k hk=>by have hk:k=sb:=hk;omega);exact a2.iv L h0 hk
theorem Ha(w:World)(E:Env)(q:iJ)(r u:Int):Hid (∀W,(((w.alloc (.cells #[af (aj (E.A 26))] 82)).alloc (.cells (sB q) 54)).alloc (.cells eY 38)).alloc (.cells #[U 0,U r,U u] 195)=W→Below w.heap.size w W/\cj W w.heap.size #[af (aj (E.A 26))] 82/\cj W (w.heap.size+2) eY 38/\cj W (w.heap.size+3) #[U 0,U r,U u] 195):=bU (fun W hW=>by
 subst hW;have h1:Below w.heap.size w (w.alloc (.cells #[af (aj (E.A 26))] 82)):=bA (bV w.heap.size w) (av _) _;have h2:=bA h1 (av _) (.cells (sB q) 54);have h3:=bA h2 (av _) (.cells eY 38);refine⟨bA h3 (av _) _,(((cj.new w _ _).alloc _).alloc _).alloc _,?_,?_⟩
 .have:=(cj.new ((w.alloc (.cells #[af (aj (E.A 26))] 82)).alloc (.cells (sB q) 54)) eY 38).alloc (.cells #[U 0,U r,U u] 195)
  rw[World.size_alloc,World.size_alloc] at this;exact this
 .have:=cj.new (((w.alloc (.cells #[af (aj (E.A 26))] 82)).alloc (.cells (sB q) 54)).alloc (.cells eY 38)) #[U 0,U r,U u] 195
  rw[World.size_alloc,World.size_alloc,World.size_alloc] at this;exact this)
theorem uw(w:World)(r u:Int)(b:Bool)(hb:jK 0 r u=b)(hr: -9223372036854775808<=r/\r<9223372036854775808)(hs: -9223372036854775808<=u/\u<9223372036854775808):ak 157 #[.agg #[U 0,U r,U u]] w fun e w'=>e=ae (.tuple (if b then #[U (r+u+1),U 0] else #[U 0,U 2]))/\Below w.heap.size w w':=by
 have:=u9 w 0 r u (by omega) hr hs
 rwa [hb] at this
theorem Hb{z:Int}{w:World}{C:cV}{E:Env}{c:cF}{ws:List Int}{N:Int}{x:V}(L:Lk C E c)(h:Hv w C E c ws N x)(q:iJ)(hm:jK 0 q.a q.b=false)(ha: -9223372036854775808<=q.a/\q.a<9223372036854775808)(hb: -9223372036854775808<=q.b/\q.b<9223372036854775808):ak 137 #[af (aj (E.A 26)),.agg #[ab q.code,aa q.h,U q.a,U q.b,aa q.x],U z] w (j9 C E c ws N (x,Sn.told 50) 0 w):=by
 obtain⟨W,hW⟩:=al ((((w.alloc (.cells #[af (aj (E.A 26))] 82)).alloc (.cells #[ab q.code,aa q.h,U q.a,U q.b,aa q.x] 54)).alloc (.cells #[U 0,aa 0,aa 0,U 0,U 0,U 0,U 0,.bool false] 38)).alloc (.cells #[U 0,U q.a,U q.b] 195));obtain⟨hB,bH,bS,bX⟩:=(Ha w E q q.a q.b).out W hW;have dN:=uw W q.a q.b false hm ha hb;have HT:=bU (fun w1 z=>fD w1 z);have HM:Hid (∀w1 w2,Below W.heap.size W w1→Below w1.heap.size w1 w2→cj w2 (w.heap.size+2) eY 38/\Hid (∀s,cj (w2.setRow (w.heap.size+2) (cX s)) (w.heap.size+2) (cX s) 38/\∃cR,fF w (w2.setRow (w.heap.size+2) (cX s)) C E c ws N x 0 cR)):=bU (fun w1 w2 h1 h2=>(fF.none L h (hB.trans (h1.mono hB.size))).told L h (by omega) (bS.cA h1) h2);clear h L bH bS hB hm ha hb;go_enter func137,ntmps137;go_wp2_with (first
  | (refine wpList_load_row rfl _ _ rfl (w.heap.size+3) rfl 195 #[U 0,U q.a,U q.b] (0,0) _ bX underlying195 rfl uv ?_)
  | (go_at_call 157;(with_reducible refine dN.mono ?_);rintro e w1 ⟨rfl,hb⟩;have H1:=bU hb;clear hb)
  | (go_at_call 75;(with_reducible refine(HT.out _ _).mono ?_);rintro e w2 ⟨rfl,hb⟩;obtain⟨bz,hZ⟩:=HM.out w1 w2 H1.out hb;clear hb)
  | (refine wpList_store_row rfl _ _ _ rfl (w.heap.size+2) (cX (Sn.told 50)) rfl rfl 38 eY bz cG rfl (eE _) ?_))
 refine bodyPost_ret (results_cell_row rfl _ _ (w.heap.size+2) 38 (cX (Sn.told 50)) (0,0) _ rfl (hZ.out _).1 underlying38 rfl cG) rfl ?_;exact⟨rfl,(hZ.out _).2⟩
end Hp
namespace Hp
open Go.RowKit Go.bZ Go.Gc Go.Cf Cn Go.Proofs.YtgblmelijlgimaaGreatDoor.Fd Sl Bd Ca Hd Tb Mm Mk Sw Cy
theorem Da{z:Int}{w:World}{C:cV}{E:Env}{c:cF}{ws:List Int}{N:Int}{x:V}(L:Lk C E c)(h:Hv w C E c ws N x)(q:iJ){r u:Nat}(ha:q.a=r)(hb:q.b=u)(hru:r+u<=63)(hf:kh c.cl (r+u+1)=c.cl.length):ak 137 #[af (aj (E.A 26)),.agg #[ab q.code,aa q.h,U q.a,U q.b,aa q.x],U z] w (j9 C E c ws N (x,Sn.told 50) 0 w):=by
 obtain⟨W,hW⟩:=al ((((w.alloc (.cells #[af (aj (E.A 26))] 82)).alloc (.cells #[ab q.code,aa q.h,U q.a,U q.b,aa q.x] 54)).alloc (.cells #[U 0,aa 0,aa 0,U 0,U 0,U 0,U 0,.bool false] 38)).alloc (.cells #[U 0,U q.a,U q.b] 195));obtain⟨hB,bH,bS,bX⟩:=(Ha w E q q.a q.b).out W hW;have dN:=uw W q.a q.b true (by unfold jK;exact aw (by omega)) (by omega) (by omega);have hn:q.a+q.b+1=((r+u+1:Nat):Int):=by omega
 rw[hn] at dN;have HT:=bU (fun w1 z=>fD w1 z);have HF:Hid (∀w1,Below W.heap.size W w1→(w1.cell? (aj w.heap.size)=some (af (aj (E.A 26)))/\w1.cell? (aj (E.A 26))=some (ai (aj c.gc c.oc) c.cl.length c.cc))/\ak 174 #[ai (aj c.gc c.oc) c.cl.length c.cc,U (r+u+1:Nat)] w1 fun e w2=>e=ae (.tuple #[U 0,U 50])/\Hid (Below W.heap.size W w2)/\w2.cell? (aj (w.heap.size+3))=some (U 0)/\w2.frozen? (aj (w.heap.size+3))=false/\∃w3,w2.setCell (aj (w.heap.size+3)) (U 0)=w3/\Hid (∀w4,Below w3.heap.size w3 w4→cj w4 (w.heap.size+2) eY 38/\Hid (∀s,cj (w4.setRow (w.heap.size+2) (cX s)) (w.heap.size+2) (cX s) 38/\∃cR,fF w (w4.setRow (w.heap.size+2) (cX s)) C E c ws N x 0 cR))):=bU (fun w1 h1=>by
  obtain⟨s,G,hp,rp,gn⟩:=h.cA L (hB.trans (h1.mono hB.size));obtain⟨zz,b⟩:=hp.b;refine⟨⟨(bH.cA h1).cell 0,b.cell 0⟩,(oA hp.cf L.k (r+u+1) (by omega) (by omega)).mono ?_⟩;rintro e w2 ⟨rfl,cN⟩;have h2:=fj h1 cN;have x2:=bX.cA h2;rw[if_pos hf];refine⟨rfl,bU h2,x2.cell 0,x2.cE 0,_,rfl,bU (fun w4 h4=>?_)⟩;have hS:Below w.heap.size w2 (w2.setCell (aj (w.heap.size+3)) (U 0)):=((cu.refl (fun k=>k=w.heap.size+3) w2).stored (.inl rfl) 0 _).below (by have:=h2.size;have:=hB.size;omega) (fun k hk=>by have hk:k=w.heap.size+3:=hk;omega);have h3:=(hB.trans (h2.mono hB.size)).trans hS;have s3:cj (w2.setCell (aj (w.heap.size+3)) (U 0)) (w.heap.size+2) eY 38:=(bS.cA h2).bY ((cu.refl (fun k=>k=w.heap.size+3) w2).stored (.inl rfl) 0 _) (fun hk=>by have hk:w.heap.size+2=w.heap.size+3:=hk;omega);exact(fF.none L h h3).told L h (by omega) s3 h4)
 clear h L bH bS hB ha hb hf hn hru;generalize r+u+1=nw at *;go_enter func137,ntmps137;go_wp2_with (first
  | (refine wpList_load_row rfl _ _ rfl (w.heap.size+3) rfl 195 #[U 0,U q.a,U q.b] (0,0) _ bX underlying195 rfl uv ?_)
  | (go_at_call 157;(with_reducible refine dN.mono ?_);rintro e w1 ⟨rfl,hb⟩;obtain⟨⟨y0,y1⟩,dF⟩:=HF.out w1 hb;clear hb)
  | (go_at_call 174;(with_reducible refine dF.mono ?_);rintro e w2 ⟨rfl,H2,z3,f3,w3,Sz,HM⟩;clear y0 y1)
  | (go_at_call 75;(with_reducible refine(HT.out _ _).mono ?_);rintro e w4 ⟨rfl,hb⟩;obtain⟨bz,hZ⟩:=HM.out w4 hb;clear hb)
  | (refine wpList_store_row rfl _ _ _ rfl (w.heap.size+2) (cX (Sn.told 50)) rfl rfl 38 eY bz cG rfl (eE _) ?_))
 refine bodyPost_ret (results_cell_row rfl _ _ (w.heap.size+2) 38 (cX (Sn.told 50)) (0,0) _ rfl (hZ.out _).1 underlying38 rfl cG) rfl ?_;exact⟨rfl,(hZ.out _).2⟩
end Hp
namespace Hp
open Go.RowKit Go.bZ Go.Gc Go.Cf Cn Go.Proofs.YtgblmelijlgimaaGreatDoor.Fd Sl Bd Ca Hd Tb Mm Mk Sw Cy
structure Nm where
 k:Nat
 r:Nat
 u:Nat
 sz:Nat
 ky:Nat
 kX:Nat
structure Fr(w w1:World)(E:Env)(m:Nm):Prop where
 bS:cj w1 (w.heap.size+2) eY 38
 bX:cj w1 (w.heap.size+3) #[U m.k,U m.r,U m.u] 195
 fb:Fb w1 E w.heap.size m.ky m.kX m.sz
theorem Fr.bY{w w1 w2:World}{C:cV}{E:Env}{c:cF}{ws:List Int}{N:Int}{x:V}{m:Nm}(L:Lk C E c)(h0:Hv w C E c ws N x)(Nc:w.heap.size<=m.ky)(Nf:w.heap.size<=m.kX)(h:Fr w w1 E m)(hc:cu (Om E Hl) w1 w2):Fr w w2 E m:=⟨h.bS.bY hc (iF L h0 (by omega)),h.bX.bY hc (iF L h0 (by omega)),h.fb.bY hc (iF L h0 (av _)) (iF L h0 Nc) (iF L h0 Nf)⟩
def Al(w:World)(C:cV)(E:Env)(c:cF)(ws:List Int)(N:Int)(x':V)(n:Int)(m:Nm)(w1:World):Prop:=Fr w w1 E m/\∃cR,fF w w1 C E c ws N x' n cR
structure IU(w:World)(C:cV)(E:Env)(c:cF)(ws:List Int)(N:Int)(x:V)(m:Nm):Prop where
 L:Lk C E c
 h0:Hv w C E c ws N x
 Nc:w.heap.size<=m.ky
 Nf:w.heap.size<=m.kX
 hN:N<999990
 kl:m.k<c.cl.length
 ru:m.r+m.u<=63
 ft:m.r+m.u+1<=c.cl.getD m.k 0
 sz:m.sz=c.cl.getD m.k 0
theorem IU.Uq{w:World}{C:cV}{E:Env}{c:cF}{ws:List Int}{N:Int}{x:V}{m:Nm}(A:IU w C E c ws N x m):1<=m.sz/\m.sz<=64:=by
 have:=wj A.L.k A.kl;have:=A.sz;omega
theorem Al.jP{w w1 w2:World}{C:cV}{E:Env}{c:cF}{ws fS jG:List Int}{N:Int}{x x1 x2:V}{n d:Int}{m:Nm}(A:IU w C E c ws N x m)(f:Fr w w1 E m)(a:fF w w1 C E c ws N x1 n fS)(t:fF w1 w2 C E c fS (N+n) x2 d jG):Al w C E c ws N x2 (n+d) m w2:=⟨f.bY A.L A.h0 A.Nc A.Nf t.ch,jG,a.trans t⟩
theorem Al.cA{w w1 w2:World}{C:cV}{E:Env}{c:cF}{ws:List Int}{N:Int}{x x1:V}{n:Int}{m:Nm}(A:IU w C E c ws N x m)(a:Al w C E c ws N x1 n m w1)(hb:Below w1.heap.size w1 w2):Al w C E c ws N x1 n m w2:=by
 obtain⟨f,fS,a⟩:=a;exact⟨f.bY A.L A.h0 A.Nc A.Nf (cu.cD hb),fS,a.bl A.L hb⟩
def AF(w:World)(C:cV)(E:Env)(c:cF)(ws:List Int)(N:Int)(x':V)(n:Int)(w2:World):Prop:=cj w2 (w.heap.size+2) eY 38/\Hid (∀s,cj (w2.setRow (w.heap.size+2) (cX s)) (w.heap.size+2) (cX s) 38/\∃cR,fF w (w2.setRow (w.heap.size+2) (cX s)) C E c ws N x' n cR)
theorem Al.fin{w w1 w2:World}{C:cV}{E:Env}{c:cF}{ws:List Int}{N:Int}{x x1:V}{n:Int}{m:Nm}(A:IU w C E c ws N x m)(a:Al w C E c ws N x1 n m w1)(hn:n<=2)(hb:Below w1.heap.size w1 w2):AF w C E c ws N x1 2 w2:=by
 obtain⟨f,fS,a⟩:=a;have hN:=A.hN;exact(a.up hn (by omega)).told A.L A.h0 (by omega) f.bS hb
def SA(w:World)(C:cV)(E:Env)(c:cF)(ws:List Int)(N:Int)(x':V)(y:Nat)(w1:World):Prop:=(w1.cell? (aj w.heap.size)=some (af (aj (E.A 26)))/\w1.cell? (aj (E.A 26) 7)=some (af (aj (E.A 25))))/\(ak 109 #[af (aj (E.A 25))] w1 fun e w'=>e=ae (af (aj (E.A 1)))/\w1=w')/\ak 110 #[af (aj (E.A 1)),U y] w1 fun e w2=>e=ae (.tuple #[U (C.K.addr y:Nat),U 0])/\AF w C E c ws N x' 2 w2
theorem PV{w w1:World}{C:cV}{E:Env}{c:cF}{ws:List Int}{N:Int}{x x1:V}{m:Nm}(A:IU w C E c ws N x m)(a:Al w C E c ws N x1 2 m w1){y:Nat}(hy:y<E.n):SA w C E c ws N x1 y w1:=by
 obtain⟨f,fS,a1⟩:=id a;obtain⟨s,G,hp,rp,gn⟩:=a1.hv;obtain⟨k,r,sl⟩:=gq A.L.e.gd hy;have ha:C.K.addr y=addrOf E.pw E.rs y:=by rw[A.L.cK];rfl
 refine⟨⟨f.fb.b3.cell 0,hp.cells.2.1⟩,j6 hp.cp,(jC w1 hp.cp.co.mp.cx.pl sl hy).mono ?_⟩;rintro e w2 ⟨rfl,hb⟩;exact⟨by rw[ha];rfl,a.fin A (by omega) hb⟩
def SB(w:World)(C:cV)(E:Env)(c:cF)(ws:List Int)(N:Int)(x':V)(y:Nat)(m:Nm)(w1:World):Prop:=(w1.cell? (aj w.heap.size)=some (af (aj (E.A 26)))/\w1.cell? (aj m.ky)=some (U m.sz))/\ak 184 #[af (aj (E.A 26)),U m.sz] w1 fun e w2=>e=ae (.tuple #[])/\Hid (SA w C E c ws N x' y w2)
theorem Ur{w w1:World}{C:cV}{E:Env}{c:cF}{ws:List Int}{N:Int}{x x1:V}{m:Nm}(A:IU w C E c ws N x m)(a:Al w C E c ws N x1 1 m w1){y:Nat}(hy:y<E.n):SB w C E c ws N (iO C x1 (m.sz:Nat)) y m w1:=by
 obtain⟨f,fS,a1⟩:=a;obtain⟨s1,s2⟩:=A.Uq;have hN:=A.hN;refine⟨⟨f.fb.b3.cell 0,f.fb.Ly.cell 0⟩,(GP A.L a1.hv m.sz s1 s2 (by omega)).mono ?_⟩;rintro e w2 ⟨rfl,jG,t⟩;exact⟨rfl,bU (PV A (Al.jP A f a1 t) hy)⟩
def SC(w:World)(C:cV)(E:Env)(c:cF)(ws:List Int)(N:Int)(x':V)(z:Int)(y:Nat)(m:Nm)(w1:World):Prop:=w1.cell? (aj w.heap.size)=some (af (aj (E.A 26)))/\ak 183 #[af (aj (E.A 26)),U y] w1 fun e w2=>e=ae (aa z)/\Hid (SB w C E c ws N x' y m w2)
theorem Us{w w1:World}{C:cV}{E:Env}{c:cF}{ws:List Int}{N:Int}{x x1:V}{m:Nm}(A:IU w C E c ws N x m)(a:Al w C E c ws N x1 1 m w1){y:Nat}(hy:y<E.n)(hT:x1.v.T y=true)(hG:x1.v.G y=false)(hf:0<ek x1.v.es):SC w C E c ws N (iO C (ia C x1 y) (m.sz:Nat)) (iC C x1) y m w1:=by
 obtain⟨f,fS,a1⟩:=a;refine⟨f.fb.b3.cell 0,(Ad A.L a1.hv hT hG hf).mono ?_⟩;rintro e w2 ⟨rfl,t⟩;exact⟨rfl,bU (Ur A (Al.jP A f a1 t) hy)⟩
def Ut(w:World)(C:cV)(E:Env)(c:cF)(ws:List Int)(N:Int)(x':V)(z:Int)(y:Nat)(m:Nm)(w1:World):Prop:=(w1.cell? (aj w.heap.size)=some (af (aj (E.A 26)))/\w1.cell? (aj (E.A 26) 7)=some (af (aj (E.A 25))))/\ak 182 #[af (aj (E.A 25)),U y] w1 fun e w2=>e=ae (U 0)/\Hid (SC w C E c ws N x' z y m w2)
def SD(w:World)(C:cV)(E:Env)(c:cF)(ws:List Int)(N:Int)(x':V)(z:Int)(y:Nat)(m:Nm)(w1:World):Prop:=(w1.cell? (aj w.heap.size)=some (af (aj (E.A 26)))/\w1.cell? (aj (E.A 26) 7)=some (af (aj (E.A 25)))/\cj w1 (w.heap.size+3) #[U m.k,U m.r,U m.u] 195)/\(ak 180 #[af (aj (E.A 25))] w1.drew fun e w'=>e=ae (af (aj (E.A 0)))/\w'=w1.drew)/\ak 181 #[af (aj (E.A 0)),U y,.agg #[U m.k,U m.r,U m.u]] w1.drew fun e w2=>e=ae (U 0)/\Hid (Ut w C E c ws N x' z y m w2)
theorem Uu{w w1:World}{C:cV}{E:Env}{c:cF}{ws:List Int}{N:Int}{x x1:V}{m:Nm}(A:IU w C E c ws N x m)(a:Al w C E c ws N x1 1 m w1)(hq:x1.v.used+(c.cl.getD m.k 0:Nat)<=(C.fV:Int))(hf:0<ek x1.v.es):∃y,lZ x1.v.T (C.first m.k) (C.many m.k)=some y/\
  (w1.cell? (aj w.heap.size)=some (af (aj (E.A 26)))/\w1.cell? (aj (E.A 26) 7)=some (af (aj (E.A 25)))/\w1.cell? (aj (w.heap.size+3))=some (U m.k))/\
  (ak 77 #[af (aj (E.A 25))] w1.drew fun e w'=>e=ae (af (aj (E.A 3)))/\w1.drew=w')/\
  ak 179 #[af (aj (E.A 3)),U m.k] w1.drew fun e w2=>e=ae (.tuple #[U y,U 0])/\(w2.cell? (aj w.heap.size)=some (af (aj (E.A 26)))/\w2.cell? (aj (E.A 26) 7)=some (af (aj (E.A 25)))/\w2.cell? (aj (w.heap.size+3))=some (U m.k))/\Hid (SD w C E c ws N (iO C (ia C (jI C x1 y m.k m.r m.u) y) (m.sz:Nat)) (iC C x1) y m w2):=by
 have hbD:Below w1.heap.size w1 w1.drew:=bd (bV _ _);obtain⟨f,fS,a1⟩:=a.cA A hbD;have hv:=a1.hv;obtain⟨s,G,hp,rp,gn⟩:=id hv;obtain⟨y,hy,hyn,ha,sl,dT⟩:=Kz A.L hv A.kl A.ru A.ft hq;obtain⟨f0,-⟩:=a;have hT:x1.v.T y=false:=(kG hy).2.2.1;have hG:x1.v.G y=false:=by
  cases hg:x1.v.G y with
  | false=>rfl
  | true=>
   rw[rp.G] at hg;have:=rp.I.gT y hg;rw[←rp.T,hT] at this
   cases this
 refine⟨y,hy,⟨f0.fb.b3.cell 0,hp.cells.2.1,f0.bX.cell 0⟩,oZ hp.cp,dT.mono ?_⟩;rintro e w2 ⟨rfl,k2,hN⟩;have f2:=f.bY A.L A.h0 A.Nc A.Nf k2;obtain⟨z7,-,-⟩:=hN w2 (bV _ _);obtain⟨-,dB,dM⟩:=hN w2.drew (bd (bV _ _));refine⟨rfl,⟨f2.fb.b3.cell 0,z7,f2.bX.cell 0⟩,bU ⟨⟨f2.fb.b3.cell 0,z7,f2.bX⟩,dB.mono (fun e w' ⟨e1,e2⟩=>⟨e1,e2.symm⟩),dM.mono ?_⟩⟩;rintro e w3 ⟨rfl,k3,Uv,dK⟩;have f3:=(f2.bY A.L A.h0 A.Nc A.Nf (cu.cD (bd (bV _ _)))).bY A.L A.h0 A.Nc A.Nf k3;refine⟨rfl,bU ⟨⟨f3.fb.b3.cell 0,Uv⟩,dK.mono ?_⟩⟩;rintro e w4 ⟨rfl,Wt,t⟩;exact⟨rfl,bU (Us A (Al.jP A f a1 t) hyn (by show cP x1.v.T y true y=true;unfold cP;rw[if_pos rfl]) hG hf)⟩
end Hp
end Go.Proofs.YtgblmelijlgimaaGreatDoor
