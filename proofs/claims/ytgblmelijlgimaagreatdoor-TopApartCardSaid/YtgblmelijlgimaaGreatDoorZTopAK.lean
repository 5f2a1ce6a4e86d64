/- Parts of the proof of TopApart. -/
import Derived.Test.YtgblmelijlgimaaGreatDoorZTopAJ
set_option maxRecDepth 100000
namespace Go.Proofs.YtgblmelijlgimaaGreatDoor
open Go.Proofs.Tryz
namespace Fd
open Go.RowKit Go.bZ
def mT(ws:List Nat)(i:Nat):Nat:=(ws.take i).sum
theorem kB(ws:List Nat)(i:Nat)(h:i<ws.length):mT ws (i+1)=mT ws i+ws.getD i 0:=by
 unfold mT;rw[bB h,List.sum_append,ao,aq h];simp
theorem qe(ws:List Nat)(i:Nat):mT ws i<=ws.sum:=by
 unfold mT;have h:ws.sum=(ws.take i).sum+(ws.drop i).sum:=by rw[←List.sum_append,List.take_append_drop]
 omega
theorem Ff(ws:List Nat):mT ws ws.length=ws.sum:=by unfold mT;rw[bK]
theorem qT(g:Nat)(cb:Array Value)(b o cap:Nat)(ws:List Nat)(w:World)(hl:ws.length<=100)(hs:ws.sum<=64)(J:Nat→World→Prop)(h0:J 0 w)
 (hc:∀i W,J i W→∀j,j<ws.length→W.cell? (aj b (o+j))=some (U (ws.getD j 0:Nat)))
 (hdo:∀(W:World) (i:Nat),i<ws.length→J i W→ak g (#[U i,U (mT ws i:Nat),U (ws.getD i 0:Nat)]++cb) W fun e W'=>e=ae (U 0)/\J (i+1) W')
 (eg:∀args w,(callFunc g args).run prog w=.ok (.enter g args) w):
  ak 205 #[ai (aj b o) ws.length cap,.func (.func g) #[] cb] w fun e w'=>e=ae (.tuple #[U ws.sum,U 0])/\J ws.length w':=by
 have HD:=bU hdo;have HC:=bU hc;have HO:=bU (qe ws);have HA:=bU (Ff ws);clear hdo hc;go_enter func205,ntmps205;go_wp2_with fail
 go_loopw [6,12] (fun s i wr=>∃(k:Nat),k<=ws.length/\i=U k/\s=U (mT ws k:Nat)/\J k wr) (fun _ i _=>ws.length-(intOf i).toNat)
 case atStart=>exact⟨0,by omega,rfl,rfl,h0⟩
 case round=>
  obtain⟨k,hk,rfl,rfl,hj⟩:=hrel;have HJ:=bU hj;clear hj h0;by_cases hlt:k<ws.length
  .have hcl:=HD.out wr k hlt HJ.out
   have ck:=HC.out k wr HJ.out k hlt;have H3:=bU (kB ws k hlt);have h4:=HO.out k;have h5:=HO.out (k+1);rw[kB ws k hlt] at h5;obtain⟨z,hz⟩:=al (mT ws k);obtain⟨y,hy⟩:=al (ws.getD k 0);rw[hy] at hcl h5 H3 ck;rw[hz] at h4 H3 hcl h5 ⊢;clear hz hy;go_wp2_with (go_at_fn g;refine hcl.mono ?_;rintro e w' ⟨rfl,IM⟩)
   go_roundw
   case rel=>exact⟨k+1,by omega,by go_num,by rw[H3.out];first|rfl|go_num,IM⟩
   case measure=>simp[intOf];omega
  .obtain rfl:k=ws.length:=by omega
   have ha:=HA.out;go_wp2_with fail
   go_ret2
   exact⟨by simp[ha],HJ.out⟩
theorem Fg(w:World)(i:Int)(a n:Nat)(h1:1<=n)(h2:a+n<=64):ak 255 #[U i,U a,U n] w fun e w'=>e=ae (U 0)/\w=w':=by
 have dm:=xL w a n h1 h2;go_enter func255,ntmps255;go_wp2_with (go_at_call 256;(with_reducible refine dm.mono ?_);rintro e w' ⟨rfl,rfl⟩)
 go_ret;exact⟨rfl,rfl⟩
theorem xM{ws:List Nat}(h:∀x∈ws,1<=x){i:Nat}(hi:i<ws.length):1<=ws.getD i 0:=h _ (by rw[ao,aq hi];exact aF _)
theorem zq(w:World)(b o cap:Nat)(ws:List Nat)(hl:ws.length<=100)(PS:0<ws.length)(hs:ws.sum<=64)(hp:∀x∈ws,1<=x)(hc:∀j,j<ws.length→w.cell? (aj b (o+j))=some (U (ws.getD j 0:Nat))):
  ak 203 #[ai (aj b o) ws.length cap] w fun e w'=>e=ae (.tuple #[U ws.sum,U 0])/\w=w':=by
 have d:=qT 255 #[] b o cap ws w hl hs (fun _ W=>w=W) rfl (fun i W hW j hj=>hW▸hc j hj) (fun W i hi hW=>by
  subst hW;have h5:=qe ws (i+1);rw[kB ws i hi] at h5;exact(Fg w i (mT ws i) (ws.getD i 0) (xM hp hi) (by omega)).mono (fun e w' h=>h)) (fun _ _=>by kernel_rfl)
 have hz:((ws.length:Int)==0)=false:=by rw[aA];omega
 clear hc hp;go_enter func203,ntmps203;go_wp2_with (go_at_call 205;refine d.mono ?_;rintro e w' ⟨rfl,rfl⟩)
 go_ret2
 exact⟨rfl,rfl⟩
end Fd
namespace Fd
open Go.RowKit Go.bZ
theorem Js:(prog.info? 36).map (fun i=>(i.zero,i.size,i.bytes))=some (some (aa 0),1,8):=by kernel_rfl
def LG(ws:List Nat)(x i:Nat):List Value:=(List.range i).map fun j=>.int .u64 (dy x (mT ws j) (ws.getD j 0):Nat)
theorem Fh(ws:List Nat)(x i:Nat):LG ws x (i+1)=LG ws x i++[aa (dy x (mT ws i) (ws.getD i 0):Nat)]:=by simp[LG,List.range_succ]
theorem Jt(ws:List Nat)(x i:Nat):(LG ws x i).length=i:=by simp[LG]
theorem Ju(w:World)(o:Obj)(C:Array Value)(t:TypeId):cj ((w.alloc o).alloc (.cells C t)) (w.heap.size+1) C t:=by
 have:=cj.new (w.alloc o) C t;rw[World.size_alloc] at this;exact this
theorem vy(w:World)(B bw bo x a n i:Nat)(v:Value)(xs:List Value)(hx:x<18446744073709551616)(h1:1<=n)(h2:a+n<=64)(hi:i<=100)
 (c0:w.cell? (aj bw)=some (aa x))(b1:cj w bo #[v] 108)(hown:w.ownsRow B 36 1 v i xs)(hbo:bo<B)(hB:B<=w.heap.size)(hl:xs.length=i):
  ak 206 #[U i,U a,U n,af (aj bw),af (aj bo)] w fun e w'=>e=ae (U 0)/\∃v',cj w' bo #[v'] 108/\w'.ownsRow B 36 1 v' (i+1) (xs++[aa (dy x a n:Nat)])/\cu (fun k=>k=bo\/B<=k) w w':=by
 have dg:=fun W=>Mu W x a n hx h1 h2
 have c1:w.cell? (aj bo)=some v:=b1.cell 0;have f1:=b1.cE 0;obtain⟨i0,uN,iX,jm,nQ⟩:=info_parts Js;have HO:=bU hown;have xv:=bU b1;generalize dy x a n=r at *;clear hown b1 hx;go_enter func206,ntmps206;go_wp2_with (first|(go_at_call 207;refine(dg _).mono ?_;rintro e w2 ⟨rfl,k,rfl⟩;have ow:=bU (show(w.drewN k).ownsRow B 36 1 v i xs from HO.out))|(at_builtin;refine wpList_append_own _ rfl _ _ 108 rfl B 36 i0 (aa 0) 1 8 underlying108 uN iX jm nQ rfl (by decide) v i xs rfl (ow.out.alloc _) ⟨w.heap.size,0,none⟩ 1 1 [aa r] rfl rfl ?c1 ?c2 ?c3 ?c4 ?c5 ?_))
 case c1=>
  intro j u hj
  match j,hj with
  | 0,hj=>simp at hj;subst hj;simp only[Addr.add];exact eX (w.drewN k) _ _ 0
 case c2=>intro u hu;simp at hu;subst hu;rfl
 case c3=>unfold maxLen;omega
 case c4=>omega
 case c5=>simp;omega
 intro v' w1 fN hgrow _;have hch:cu (fun k=>k=bo\/B<=k) w w1:=⟨hgrow.os,hgrow.tape,hgrow.output,aE (by simp) hgrow.size,fun j hj hn=>by
  have h5:=hgrow.block j (by simp;show j<w.heap.size+1;omega) (by intro e;have:=(HO.out.lt j e.symm).1;exact hn (.inr this));exact h5.trans ((bA (jh (bV w.heap.size w) k) (av _) (.cells #[aa r] 36)).block j hj)⟩
 have hbk:cj w1 bo #[v] 108:=by
  have hlt:=xv.out.lt;have h5:=hgrow.block bo (by simp;show bo<w.heap.size+1;omega) (by intro e;have:=(HO.out.lt bo e.symm).1;omega);exact h5.trans ((xv.out.drewN k).alloc _)
 obtain⟨g9,pM,rfl⟩:∃g c,v'=ai (aj g) (i+1) c:=by
  obtain⟨RT,⟨h9,h8⟩|⟨g9,pM,Mw,h9,-⟩⟩:=fN
  .omega
  .exact⟨g9,pM,h9⟩
 have f2:=hbk.cE 0;have c2:w1.cell? (aj bo)=some v:=hbk.cell 0;have R1:=bU (hbk.set 0 (ai (aj g9) (i+1) pM));have R2:=bU (hch.stored (.inl (.inl rfl)) 0 (ai (aj g9) (i+1) pM));have R3:=bU (ownsRow_setCell_below fN (a:=⟨bo,0,none⟩) hbo (ai (aj g9) (i+1) pM));clear fN hgrow hch hbk;go_wp2_with fail;go_ret;exact⟨rfl,_,R1.out,R3.out,R2.out⟩
theorem qU(w:World)(b o cap x:Nat)(ws:List Nat)(hx:x<18446744073709551616)(hl:ws.length<=100)(PS:0<ws.length)(hs:ws.sum=64)(hp:∀x∈ws,1<=x)
 (hc:∀j,j<ws.length→w.cell? (aj b (o+j))=some (U (ws.getD j 0:Nat))):
  ak 155 #[ai (aj b o) ws.length cap,aa x] w fun e w'=>∃v,e=ae (.tuple #[v,U 0])/\w'.ownsRow (w.heap.size+2) 36 1 v ws.length (LG ws x ws.length)/\Below w.heap.size w w':=by
 have dj:Below w.heap.size w ((w.alloc (.cells #[aa x] 36)).alloc (.cells #[ai none 0 0] 108)):=((bV _ w).alloc (av _) _).alloc (by simp) _;have da:=fun W hW=>zq W b o cap ws hl PS (by omega) hp (fun j hj=>(hW:Below w.heap.size w W).cell (p:=⟨b,o+j,none⟩) (World.block_lt_of_cell? w _ (hc j hj)) |>.trans (hc j hj))
 have d:=qT 206 #[af (aj w.heap.size),af (aj (w.heap.size+1))] b o cap ws ((w.alloc (.cells #[aa x] 36)).alloc (.cells #[ai none 0 0] 108)) hl (by omega)
  (fun i W=>Below w.heap.size w W/\w.heap.size+2<=W.heap.size/\cj W w.heap.size #[aa x] 36/\∃v,cj W (w.heap.size+1) #[v] 108/\W.ownsRow (w.heap.size+2) 36 1 v i (LG ws x i))
  ⟨dj,by simp,(cj.new w _ _).alloc _,_,Ju w _ _ _,⟨rfl,.inl ⟨rfl,rfl⟩⟩⟩
  (fun i W hW j hj=>(hW.1.cell (p:=⟨b,o+j,none⟩) (World.block_lt_of_cell? w _ (hc j hj))).trans (hc j hj))
  (fun W i hi hW=>by
   obtain⟨w1,w2,w3,v,w4,w5⟩:=hW;have h5:=qe ws (i+1);rw[kB ws i hi] at h5;refine(vy W (w.heap.size+2) w.heap.size (w.heap.size+1) x (mT ws i) (ws.getD i 0) i v (LG ws x i) hx (xM hp hi) (by omega) (by omega) (w3.cell 0) w4 w5 (by omega) w2 (Jt ws x i)).mono ?_;rintro e W' ⟨he,v',h1,h2,hch⟩;refine⟨he,w1.trans (hch.below w1.size (fun k hk=>by rcases hk with hk|hk <;> omega)),aE w2 hch.size,w3.bY hch (by rintro (h|h) <;> omega),v',h1,?_⟩;rw[Fh];exact h2) (fun _ _=>by kernel_rfl)
 have DA:=bU da;have dl:=fun W=>gX x W hx
 have hbl:=bitLen_le 64 x hx;clear hc da hx;rw[hs] at *;generalize Lib.bitLen x=bl at *;go_enter func155,ntmps155;go_wp2_with (first|(go_at_call 203;refine(DA.out _ (bA (bV _ _) (av _) _)).mono ?_;rintro e w' ⟨rfl,rfl⟩)|(go_at_call 204;refine(dl _).mono ?_;rintro e w' ⟨rfl,rfl⟩)|(go_at_call 205;refine d.mono ?_;rintro e w2 ⟨rfl,QC,IM,Tz,v,TA,QD⟩;have c9:w2.cell? (aj (w.heap.size+1))=some v:=TA.cell 0))
 go_ret2
 exact⟨_,rfl,QD,QC⟩
end Fd
namespace Fd
open Go.RowKit Go.bZ
theorem iI(w:World)(o:Obj)(C:Array Value)(t:TypeId):cj ((w.alloc o).alloc (.cells C t)) (w.heap.size+1) C t:=by
 have:=cj.new (w.alloc o) C t;rw[World.size_alloc] at this;exact this
theorem BB(w:World)(bw bv g o cap len i x a n v:Nat)(hx:x<18446744073709551616)(h1:1<=n)(h2:a+n<=64)(hv:v<2^n)(hi:i<len)(_hlen:len<=1000)
 (b0:cj w bw #[aa x] 36)(c1:w.cell? (aj bv)=some (ai (aj g o) len cap))(c2:w.cell? (aj g (o+i))=some (aa v)):
  ak 301 #[U i,U a,U n,af (aj bw),af (aj bv)] w fun e w'=>e=ae (U 0)/\cj w' bw #[aa (gu x a n v:Nat)] 36/\cu (· =bw) w w':=by
 have ds:=fun W=>Mv W x a n v hx h1 h2 hv
 have c0:w.cell? (aj bw)=some (aa x):=b0.cell 0;have f0:=b0.cE 0;have HB:Hid (∀k,cj ((w.drewN k).setCell (aj bw) (aa (gu x a n v:Nat))) bw #[aa (gu x a n v:Nat)] 36):=bU (fun k=>(b0.drewN k).set 0 _);have HC:Hid (∀k,cu (· =bw) w ((w.drewN k).setCell (aj bw) (aa (gu x a n v:Nat)))):=bU (fun k=>((cu.refl (· =bw) w).drewN k).stored (.inl rfl) _ _);have i0:(0:Int)<=(i:Int):=by omega
 have i1:(i:Int)<(len:Int):=by omega
 generalize gu x a n v=r at *;clear b0 hv;go_enter func301,ntmps301;go_wp2_with fail
 go_region_with (go_at_call 302;refine(ds _).mono ?_;rintro e w2 ⟨rfl,k,rfl⟩)
 all_goals
  go_wp2_with fail;go_ret;exact⟨rfl,HB.out _,HC.out _⟩
def pk(ws vs:List Nat):Nat→Nat
 | 0=>0
 | i+1=>gu (pk ws vs i) (mT ws i) (ws.getD i 0) (vs.getD i 0)
theorem Fi(ws vs:List Nat):∀i,pk ws vs i<18446744073709551616
 | 0=>by unfold pk;omega
 | i+1=>Jr _ _ _ _ (Fi ws vs i)
theorem qV(w:World)(b o cap g o2 mR:Nat)(ws vs:List Nat)(hl:ws.length<=100)(PS:0<ws.length)(hs:ws.sum<=64)(hp:∀x∈ws,1<=x)(_hlen:vs.length=ws.length)(hv:∀i,i<ws.length→vs.getD i 0<2^(ws.getD i 0))
 (hc:∀j,j<ws.length→w.cell? (aj b (o+j))=some (U (ws.getD j 0:Nat)))(jT:∀j,j<ws.length→w.cell? (aj g (o2+j))=some (aa (vs.getD j 0:Nat))):
  ak 280 #[ai (aj b o) ws.length cap,ai (aj g o2) ws.length mR] w fun e w'=>e=ae (.tuple #[aa (pk ws vs ws.length:Nat),U 0])/\Below w.heap.size w w':=by
 have dj:Below w.heap.size w ((w.alloc (.cells #[ai (aj g o2) ws.length mR] 108)).alloc (.cells #[aa 0] 36)):=((bV _ w).alloc (av _) _).alloc (by simp) _;have da:=fun W hW=>zq W b o cap ws hl PS hs hp (fun j hj=>(hW:Below w.heap.size w W).cell (p:=⟨b,o+j,none⟩) (World.block_lt_of_cell? w _ (hc j hj)) |>.trans (hc j hj))
 have d:=qT 301 #[af (aj (w.heap.size+1)),af (aj w.heap.size)] b o cap ws ((w.alloc (.cells #[ai (aj g o2) ws.length mR] 108)).alloc (.cells #[aa 0] 36)) hl hs
  (fun i W=>Below w.heap.size w W/\cj W (w.heap.size+1) #[aa (pk ws vs i:Nat)] 36/\cj W w.heap.size #[ai (aj g o2) ws.length mR] 108)
  ⟨dj,iI w _ _ _,(cj.new w _ _).alloc _⟩
  (fun i W hW j hj=>(hW.1.cell (p:=⟨b,o+j,none⟩) (World.block_lt_of_cell? w _ (hc j hj))).trans (hc j hj))
  (fun W i hi hW=>by
   obtain⟨w1,w2,w3⟩:=hW;have h5:=qe ws (i+1);rw[kB ws i hi] at h5;refine(BB W (w.heap.size+1) w.heap.size g o2 mR ws.length i (pk ws vs i) (mT ws i) (ws.getD i 0) (vs.getD i 0) (Fi ws vs i) (xM hp hi) (by omega) (hv i hi) hi (by omega) w2 (w3.cell 0) ((w1.cell (p:=⟨g,o2+i,none⟩) (World.block_lt_of_cell? w _ (jT i hi))).trans (jT i hi))).mono ?_;rintro e W' ⟨he,hb,hch⟩;exact⟨he,w1.trans (hch.below w1.size (fun k hk=>by have hk:k=w.heap.size+1:=hk;omega)),hb,w3.bY hch (by show ¬w.heap.size=w.heap.size+1;omega)⟩) (fun _ _=>by kernel_rfl)
 have DA:=bU da;have hvl:ws.length<=1000:=by omega
 clear hc jT hv da;generalize pk ws vs ws.length=r at *;go_enter func280,ntmps280;go_wp2_with (first|(go_at_call 203;refine(DA.out _ (bA (bV _ _) (av _) _)).mono ?_;rintro e w' ⟨rfl,rfl⟩)|(go_at_call 205;refine d.mono ?_;rintro e w2 ⟨rfl,QC,IM,Tz⟩;have c9:w2.cell? (aj (w.heap.size+1))=some (aa r):=IM.cell 0))
 go_ret2
 exact⟨rfl,QC⟩
end Fd
namespace Hd
open Go.RowKit Go.bZ Go.Proofs.YtgblmelijlgimaaGreatDoor.Fd
structure Gw(w:World):Prop where
 c0:w.cell? (aj 0)=some (U 16)
 c1:w.cell? (aj 0 1)=some (U 16)
 c2:w.cell? (aj 0 2)=some (U 16)
 c3:w.cell? (aj 0 3)=some (U 8)
 c4:w.cell? (aj 0 4)=some (U 8)
theorem Gw.pos{w:World}(h:Gw w):0<w.heap.size:=World.block_lt_of_cell? w _ h.c0
theorem Gw.bY{S:Nat→Prop}{w w':World}(h:Gw w)(hc:cu S w w')(h0:¬S 0):Gw w':=by
 have e:∀i,w'.cell? (aj 0 i)=w.cell? (aj 0 i):=fun i=>World.cell?_of_block (w:=w) (hc.block 0 h.pos h0)
 exact⟨(e 0).trans h.c0,(e 1).trans h.c1,(e 2).trans h.c2,(e 3).trans h.c3,(e 4).trans h.c4⟩
theorem Gw.cA{w w':World}(h:Gw w)(hb:Below w.heap.size w w'):Gw w':=h.bY (cu.cD hb) (S:=fun _=>False) id
theorem BC(w:World)(hg:Gw w)(g o mR:Nat)(x0 x1 x2 x3 x4:Nat)(h0:x0<65536)(h1:x1<65536)(h2:x2<65536)(h3:x3<256)(h4:x4<256)
 (c0:w.cell? (aj g o)=some (aa x0))(c1:w.cell? (aj g (o+1))=some (aa x1))(c2:w.cell? (aj g (o+2))=some (aa x2))(c3:w.cell? (aj g (o+3))=some (aa x3))(c4:w.cell? (aj g (o+4))=some (aa x4)):
  ak 274 #[ai (aj g o) 5 mR] w fun e w'=>e=ae (aa (pk [16,16,16,8,8] [x0,x1,x2,x3,x4] 5:Nat))/\Below w.heap.size w w':=by
 have dj:Below w.heap.size w (w.alloc (.cells #[U 16,U 16,U 16,U 8,U 8] 255)):=(bV _ w).alloc (av _) _;have d:ak 280 #[ai (aj w.heap.size) 5 5,ai (aj g o) 5 mR] (w.alloc (.cells #[U 16,U 16,U 16,U 8,U 8] 255)) fun e w'=>e=ae (.tuple #[aa (pk [16,16,16,8,8] [x0,x1,x2,x3,x4] 5:Nat),U 0])/\Below (w.alloc (.cells #[U 16,U 16,U 16,U 8,U 8] 255)).heap.size (w.alloc (.cells #[U 16,U 16,U 16,U 8,U 8] 255)) w':=
  qV _ w.heap.size 0 5 g o mR [16,16,16,8,8] [x0,x1,x2,x3,x4] (by decide) (by decide) (by decide) (by decide) rfl (fun i hi=>by
   match i,hi with
   | 0,_=>exact h0
   | 1,_=>exact h1
   | 2,_=>exact h2
   | 3,_=>exact h3
   | 4,_=>exact h4) (fun j hj=>by
   match j,hj with
   | 0,_|1,_|2,_|3,_|4,_=>exact eX w _ _ _) (fun j hj=>by
   match j,hj with
   | 0,_=>exact fq c0 _
   | 1,_=>exact fq c1 _
   | 2,_=>exact fq c2 _
   | 3,_=>exact fq c3 _
   | 4,_=>exact fq c4 _)
 obtain⟨w0,w1,w2,w3,w4⟩:=hg;generalize pk [16,16,16,8,8] [x0,x1,x2,x3,x4] 5=r at *;clear c0 c1 c2 c3 c4;have HB:=bU dj;clear dj;go_enter func274,ntmps274;go_wp2_with (go_at_call 280;refine d.mono ?_;rintro e w9 ⟨rfl,cN⟩)
 go_ret;exact⟨rfl,bT HB.out cN (by simp)⟩
def vz(c r s:Nat):Nat:=pk [16,16,16,8,8] [0,s,r,c,199] 5
theorem xN(w:World)(hg:Gw w)(c r s:Nat)(hc:c<8)(hr:r+s<=63):
  ak 233 #[.agg #[U c,U r,U s]] w fun e w'=>e=ae (.tuple #[aa (vz c r s:Nat),U 0])/\Below w.heap.size w w':=by
 have dj:Below w.heap.size w (w.alloc (.cells #[U c,U r,U s] 195)):=(bV _ w).alloc (av _) _;have dm:=jL (w.alloc (.cells #[U c,U r,U s] 195)) (c:Int) r s (by omega) (by omega) (by omega);rw[show jK (c:Int) r s=true from aw (by omega)] at dm;have HP:Hid (∀W,Below w.heap.size w W→ak 274 #[ai (aj W.heap.size) 5 5] (W.alloc (.cells #[aa 0,aa s,aa r,aa c,aa 199] 36)) fun e w'=>e=ae (aa (vz c r s:Nat))/\Below (W.alloc (.cells #[aa 0,aa s,aa r,aa c,aa 199] 36)).heap.size (W.alloc (.cells #[aa 0,aa s,aa r,aa c,aa 199] 36)) w'):=
  bU (fun W hW=>BC _ ((hg.cA hW).cA ((bV _ _).alloc (av _) _)) W.heap.size 0 5 0 s r c 199 (by omega) (by omega) (by omega) (by omega) (by omega) (eX W _ _ 0) (eX W _ _ 1) (eX W _ _ 2) (eX W _ _ 3) (eX W _ _ 4))
 have HX:Hid (∀W,Below (w.alloc (.cells #[U c,U r,U s] 195)).heap.size (w.alloc (.cells #[U c,U r,U s] 195)) W→W.cell? (aj w.heap.size)=some (U c)/\W.cell? (aj w.heap.size 1)=some (U r)/\W.cell? (aj w.heap.size 2)=some (U s)):=bU (fun W hW=>⟨fR w _ _ 0 hW,fR w _ _ 1 hW,fR w _ _ 2 hW⟩);generalize vz c r s=x at *;have HB:=bU dj;clear dj hg;go_enter func233,ntmps233;go_wp2_with (first|(go_at_call 156;refine dm.mono ?_;rintro e w2 ⟨rfl,cN⟩;obtain⟨y0,y1,y2⟩:=HX.out _ cN)|(go_at_call 274;refine(HP.out _ (bT HB.out cN (by simp))).mono ?_;rintro e w3 ⟨rfl,dJ⟩))
 go_ret2
 exact⟨rfl,fj (bT HB.out cN (by simp)) ((bA (bV _ _) (av _) _).trans (dJ.mono (by simp)))⟩
end Hd
namespace Hd
open Go.RowKit Go.bZ Go.Proofs.YtgblmelijlgimaaGreatDoor.Fd
def zt(x:Nat):Option (Nat×Nat×Nat):=if dy x 0 16=0/\dy x 56 8=199/\dy x 48 8<8/\dy x 32 16+dy x 16 16<=63 then some (dy x 48 8,dy x 32 16,dy x 16 16) else none
theorem QE{w:World}{B:Nat}{v:Value}{x0 x1 x2 x3 x4:Nat}(h:w.ownsRow B 36 1 v 5 [aa x0,aa x1,aa x2,aa x3,aa x4]):∃g cap,v=ai (aj g) 5 cap/\w.cell? (aj g)=some (aa x0)/\w.cell? (aj g 1)=some (aa x1)/\w.cell? (aj g 2)=some (aa x2)/\w.cell? (aj g 3)=some (aa x3)/\w.cell? (aj g 4)=some (aa x4):=by
 obtain⟨hl,⟨rfl,h⟩|⟨g,cap,cur,rfl,hb,hg,hc,hm,hs,ht⟩⟩:=h
 .cases h
 .have hh:∀j u,([aa x0,aa x1,aa x2,aa x3,aa x4]:List Value)[j]?=some u→w.cell? (aj g j)=some u:=fun j u hj=>by
   rw[cell_of_row w g j cur _ _ hg];have h1:(cur.toList.take (5*1))[j]?=some u:=by rw[ht];exact hj
   have QD:j<5:=by have:=(au.1 hj).1;simpa using this
   rw[List.getElem?_take_of_lt (by omega)] at h1;rw[←bJ];exact h1
  exact⟨g,cap,rfl,hh 0 _ rfl,hh 1 _ rfl,hh 2 _ rfl,hh 3 _ rfl,hh 4 _ rfl⟩
theorem iI(w:World)(o:Obj)(C:Array Value)(t:TypeId):cj ((w.alloc o).alloc (.cells C t)) (w.heap.size+1) C t:=by
 have:=cj.new (w.alloc o) C t;rw[World.size_alloc] at this;exact this
theorem gm(x a n:Nat):dy x a n<2^n:=Nat.mod_lt _ (Nat.two_pow_pos _)
theorem qf(w:World)(x:Nat)(hx:x<18446744073709551616):
  ak 155 #[ai (aj (w.heap.size+1)) 5 5,aa x] ((w.alloc (.cells #[U 0,U 0,U 0] 195)).alloc (.cells #[U 16,U 16,U 16,U 8,U 8] 255)) fun e w'=>∃g cap,e=ae (.tuple #[ai (aj g) 5 cap,U 0])/\w'.cell? (aj g)=some (aa (dy x 0 16:Nat))/\w'.cell? (aj g 1)=some (aa (dy x 16 16:Nat))/\w'.cell? (aj g 2)=some (aa (dy x 32 16:Nat))/\w'.cell? (aj g 3)=some (aa (dy x 48 8:Nat))/\w'.cell? (aj g 4)=some (aa (dy x 56 8:Nat))/\Below (w.heap.size+1+1) ((w.alloc (.cells #[U 0,U 0,U 0] 195)).alloc (.cells #[U 16,U 16,U 16,U 8,U 8] 255)) w':=by
 have d:=qU ((w.alloc (.cells #[U 0,U 0,U 0] 195)).alloc (.cells #[U 16,U 16,U 16,U 8,U 8] 255)) (w.heap.size+1) 0 5 x [16,16,16,8,8] hx (by decide) (by decide) (by decide) (by decide) (fun j hj=>by
  match j,hj with
  | 0,_|1,_|2,_|3,_|4,_=>exact(iI w _ _ _).cell _)
 refine d.mono ?_;rintro e w' ⟨v,rfl,ho,hb⟩;obtain⟨g,cap,rfl,h0,h1,h2,h3,h4⟩:=QE ho;exact⟨g,cap,rfl,h0,h1,h2,h3,h4,hb.mono (by simp)⟩
theorem get_some(w:World)(hg:Gw w)(x:Nat)(hx:x<18446744073709551616)(c r s:Nat)(hd:zt x=some (c,r,s)):
  ak 120 #[aa x] w fun e w'=>e=ae (.tuple #[.agg #[U c,U r,U s],U 0])/\Below w.heap.size w w':=by
 have dj:Below w.heap.size w ((w.alloc (.cells #[U 0,U 0,U 0] 195)).alloc (.cells #[U 16,U 16,U 16,U 8,U 8] 255)):=((bV _ w).alloc (av _) _).alloc (by simp) _;have d:=qf w x hx;obtain⟨w0,w1,w2,w3,w4⟩:=hg.cA ((bV _ w).alloc (av _) (.cells #[U 0,U 0,U 0] 195));unfold zt at hd
 split at hd
 .rename_i hc
  obtain⟨e0,e4,e3,e2⟩:=hc;injection hd with hd;injection hd with mX hd;injection hd with jT Mx;subst mX;subst jT;subst Mx;have l1:=gm x 16 16;have l2:=gm x 32 16;rw[e0,e4] at d;generalize dy x 48 8=c at *;generalize dy x 32 16=r at *;generalize dy x 16 16=s at *;have HM:Hid (∀W,ak 156 #[.agg #[U c,U r,U s]] W fun e w'=>e=ae (.bool true)/\Below W.heap.size W w'):=bU (fun W=>by
   have dm:=jL W (c:Int) r s (by omega) (by omega) (by omega)
   rwa [show jK (c:Int) r s=true from aw (by omega)] at dm)
  have HB:=bU dj;clear dj hg;go_enter func120,ntmps120;go_wp2_with (first|(go_at_call 155;refine d.mono ?_;rintro e w5 ⟨g,cap,rfl,q0,q1,q2,q3,q4,cN⟩)|(go_at_call 156;refine(HM.out _).mono ?_;rintro e w6 ⟨rfl,dJ⟩))
  have n1:=World.new_ne w5 _ q1;have n2:=World.new_ne w5 _ q2;have n3:=World.new_ne w5 _ q3;have hcc:(c:Int)<8:=by omega
  go_region_held3 (fun w'=>w'.cell? (aj g 1)=some (aa s)/\w'.cell? (aj g 2)=some (aa r)/\w'.cell? (aj g 3)=some (aa c)) (go_keep) (fail)
  have v1:IntKind.i64.wrap (c:Int)=c:=IntWalk.i64_in _ (by omega);have v2:IntKind.i64.wrap (r:Int)=r:=IntWalk.i64_in _ (by omega);have v3:IntKind.i64.wrap (s:Int)=s:=IntWalk.i64_in _ (by omega);rw[v1,v2,v3];clear v1 v2 v3 n1 n2 n3 w0 w1 w2 w3 w4;have p0:=fq q0 (.cells #[U c,U r,U s] 195);have p4:=fq q4 (.cells #[U c,U r,U s] 195);have BT:Hid (cj (w5.alloc (.cells #[U c,U r,U s] 195)).drew w.heap.size #[U 0,U 0,U 0] 195):=bU (((((cj.new w _ _).alloc _).below cN (by omega)).alloc _).drew);have BS:Hid (cj (w5.alloc (.cells #[U c,U r,U s] 195)).drew w5.heap.size #[U c,U r,U s] 195):=bU ((cj.new w5 _ _).drew);have H5:=bU (bd (bA (bT HB.out cN (by omega)) (av _) (.cells #[U c,U r,U s] 195)));clear q0 q1 q2 q3 q4 cN d;go_wp2_with (go_at_call 156;refine(HM.out _).mono ?_;rintro e w6 ⟨rfl,dJ⟩;have T6:=BT.out.cA dJ;have S6:=BS.out.cA dJ;have m0:w6.cell? (aj w5.heap.size)=some (U c):=S6.cell 0;have m1:w6.cell? (aj w5.heap.size 1)=some (U r):=S6.cell 1;have m2:w6.cell? (aj w5.heap.size 2)=some (U s):=S6.cell 2;have k0:w6.cell? (aj w.heap.size)=some (U 0):=T6.cell 0;have k1:w6.cell? (aj w.heap.size 1)=some (U 0):=T6.cell 1;have k2:w6.cell? (aj w.heap.size 2)=some (U 0):=T6.cell 2;have f0:=T6.cE 0;have f1:=T6.cE 1;have f2:=T6.cE 2;clear T6 S6)
  refine bodyPost_ret (v:=.tuple #[.agg #[U c,U r,U s],U 0]) (by simp[results,Tryz.results120,go_sem,k0,k1,k2]) rfl ?_;exact⟨rfl,(((fj H5.out dJ).setCell (by show w.heap.size<=w.heap.size;omega) _).setCell (by show w.heap.size<=w.heap.size;omega) _).setCell (by show w.heap.size<=w.heap.size;omega) _⟩
 .cases hd
end Hd
namespace Hd
open Go.RowKit Go.bZ Go.Proofs.YtgblmelijlgimaaGreatDoor.Fd
theorem BD(w:World)(hg:Gw w)(x:Nat)(hx:x<18446744073709551616)(h0:dy x 0 16≠0):
  ak 120 #[aa x] w fun e w'=>e=ae (.tuple #[.agg #[U 0,U 0,U 0],U 5])/\Below w.heap.size w w':=by
 have dj:Below w.heap.size w ((w.alloc (.cells #[U 0,U 0,U 0] 195)).alloc (.cells #[U 16,U 16,U 16,U 8,U 8] 255)):=((bV _ w).alloc (av _) _).alloc (by simp) _;have d:=qf w x hx;obtain⟨w0,w1,w2,w3,w4⟩:=hg.cA ((bV _ w).alloc (av _) (.cells #[U 0,U 0,U 0] 195));have l1:=gm x 16 16;have l2:=gm x 32 16;have l3:=gm x 48 8;have e0:((dy x 0 16:Int)==0)=false:=by rw[aA];omega
 have e1:((dy x 0 16:Int) != 0)=true:=by rw[bne,e0];rfl
 clear h0;generalize dy x 48 8=c at *;generalize dy x 32 16=r at *;generalize dy x 16 16=s at *;generalize dy x 0 16=z at *;generalize dy x 56 8=m at *;have HB:=bU dj;clear dj hg;go_enter func120,ntmps120;go_wp2_with (go_at_call 155;refine d.mono ?_;rintro e w5 ⟨g,cap,rfl,q0,q1,q2,q3,q4,cN⟩)
 have n1:=World.new_ne w5 _ q1;have n2:=World.new_ne w5 _ q2;have n3:=World.new_ne w5 _ q3;go_region_held3 (fun w'=>w'.cell? (aj g 1)=some (aa s)/\w'.cell? (aj g 2)=some (aa r)/\w'.cell? (aj g 3)=some (aa c)) (go_keep) (fail)
 have v1:IntKind.i64.wrap (c:Int)=c:=IntWalk.i64_in _ (by omega);have v2:IntKind.i64.wrap (r:Int)=r:=IntWalk.i64_in _ (by omega);have v3:IntKind.i64.wrap (s:Int)=s:=IntWalk.i64_in _ (by omega);rw[v1,v2,v3];clear v1 v2 v3 n1 n2 n3 w0 w1 w2 w3 w4;have p0:=fq q0 (.cells #[U c,U r,U s] 195);have p4:=fq q4 (.cells #[U c,U r,U s] 195);have BT:Hid (cj (w5.alloc (.cells #[U c,U r,U s] 195)).drew w.heap.size #[U 0,U 0,U 0] 195):=bU (((((cj.new w _ _).alloc _).below cN (by omega)).alloc _).drew);have H5:=bU (bd (bA (bT HB.out cN (by omega)) (av _) (.cells #[U c,U r,U s] 195)));clear q0 q1 q2 q3 q4 cN d;have k0:(w5.alloc (.cells #[U c,U r,U s] 195)).cell? (aj w.heap.size)=some (U 0):=BT.out.cell 0;have k1:(w5.alloc (.cells #[U c,U r,U s] 195)).cell? (aj w.heap.size 1)=some (U 0):=BT.out.cell 1;have k2:(w5.alloc (.cells #[U c,U r,U s] 195)).cell? (aj w.heap.size 2)=some (U 0):=BT.out.cell 2;have f0:(w5.alloc (.cells #[U c,U r,U s] 195)).frozen? (aj w.heap.size)=false:=BT.out.cE 0;have f1:(w5.alloc (.cells #[U c,U r,U s] 195)).frozen? (aj w.heap.size 1)=false:=BT.out.cE 1;have f2:(w5.alloc (.cells #[U c,U r,U s] 195)).frozen? (aj w.heap.size 2)=false:=BT.out.cE 2;go_wp2_with fail;refine bodyPost_ret (v:=.tuple #[.agg #[U 0,U 0,U 0],U 5]) (by simp[results,Tryz.results120,go_sem,k0,k1,k2]) rfl ?_;exact⟨rfl,(((H5.out).setCell (by show w.heap.size<=w.heap.size;omega) _).setCell (by show w.heap.size<=w.heap.size;omega) _).setCell (by show w.heap.size<=w.heap.size;omega) _⟩
theorem oS(w:World)(hg:Gw w)(x:Nat)(hx:x<18446744073709551616)(h0:dy x 0 16=0)(h4:dy x 56 8≠199):
  ak 120 #[aa x] w fun e w'=>e=ae (.tuple #[.agg #[U 0,U 0,U 0],U 5])/\Below w.heap.size w w':=by
 have dj:Below w.heap.size w ((w.alloc (.cells #[U 0,U 0,U 0] 195)).alloc (.cells #[U 16,U 16,U 16,U 8,U 8] 255)):=((bV _ w).alloc (av _) _).alloc (by simp) _;have d:=qf w x hx;obtain⟨w0,w1,w2,w3,w4⟩:=hg.cA ((bV _ w).alloc (av _) (.cells #[U 0,U 0,U 0] 195));have l1:=gm x 16 16;have l2:=gm x 32 16;have l3:=gm x 48 8;have e0:((dy x 56 8:Int)==199)=false:=by rw[aA];omega
 have e1:((dy x 56 8:Int) != 199)=true:=by rw[bne,e0];rfl
 clear h4;rw[h0] at d;generalize dy x 48 8=c at *;generalize dy x 32 16=r at *;generalize dy x 16 16=s at *;generalize dy x 0 16=z at *;generalize dy x 56 8=m at *;have HB:=bU dj;clear dj hg;go_enter func120,ntmps120;go_wp2_with (go_at_call 155;refine d.mono ?_;rintro e w5 ⟨g,cap,rfl,q0,q1,q2,q3,q4,cN⟩)
 have n1:=World.new_ne w5 _ q1;have n2:=World.new_ne w5 _ q2;have n3:=World.new_ne w5 _ q3;go_region_held3 (fun w'=>w'.cell? (aj g 1)=some (aa s)/\w'.cell? (aj g 2)=some (aa r)/\w'.cell? (aj g 3)=some (aa c)) (go_keep) (fail)
 have v1:IntKind.i64.wrap (c:Int)=c:=IntWalk.i64_in _ (by omega);have v2:IntKind.i64.wrap (r:Int)=r:=IntWalk.i64_in _ (by omega);have v3:IntKind.i64.wrap (s:Int)=s:=IntWalk.i64_in _ (by omega);rw[v1,v2,v3];clear v1 v2 v3 n1 n2 n3 w0 w1 w2 w3 w4;have p0:=fq q0 (.cells #[U c,U r,U s] 195);have p4:=fq q4 (.cells #[U c,U r,U s] 195);have BT:Hid (cj (w5.alloc (.cells #[U c,U r,U s] 195)).drew w.heap.size #[U 0,U 0,U 0] 195):=bU (((((cj.new w _ _).alloc _).below cN (by omega)).alloc _).drew);have H5:=bU (bd (bA (bT HB.out cN (by omega)) (av _) (.cells #[U c,U r,U s] 195)));clear q0 q1 q2 q3 q4 cN d;have k0:(w5.alloc (.cells #[U c,U r,U s] 195)).cell? (aj w.heap.size)=some (U 0):=BT.out.cell 0;have k1:(w5.alloc (.cells #[U c,U r,U s] 195)).cell? (aj w.heap.size 1)=some (U 0):=BT.out.cell 1;have k2:(w5.alloc (.cells #[U c,U r,U s] 195)).cell? (aj w.heap.size 2)=some (U 0):=BT.out.cell 2;have f0:(w5.alloc (.cells #[U c,U r,U s] 195)).frozen? (aj w.heap.size)=false:=BT.out.cE 0;have f1:(w5.alloc (.cells #[U c,U r,U s] 195)).frozen? (aj w.heap.size 1)=false:=BT.out.cE 1;have f2:(w5.alloc (.cells #[U c,U r,U s] 195)).frozen? (aj w.heap.size 2)=false:=BT.out.cE 2;go_wp2_with fail;refine bodyPost_ret (v:=.tuple #[.agg #[U 0,U 0,U 0],U 5]) (by simp[results,Tryz.results120,go_sem,k0,k1,k2]) rfl ?_;exact⟨rfl,(((H5.out).setCell (by show w.heap.size<=w.heap.size;omega) _).setCell (by show w.heap.size<=w.heap.size;omega) _).setCell (by show w.heap.size<=w.heap.size;omega) _⟩
theorem kC(w:World)(hg:Gw w)(x:Nat)(hx:x<18446744073709551616)(h0:dy x 0 16=0)(h4:dy x 56 8=199)(hm:¬(dy x 48 8<8/\dy x 32 16+dy x 16 16<=63)):
  ak 120 #[aa x] w fun e w'=>e=ae (.tuple #[.agg #[U 0,U 0,U 0],U 5])/\Below w.heap.size w w':=by
 have dj:Below w.heap.size w ((w.alloc (.cells #[U 0,U 0,U 0] 195)).alloc (.cells #[U 16,U 16,U 16,U 8,U 8] 255)):=((bV _ w).alloc (av _) _).alloc (by simp) _;have d:=qf w x hx;obtain⟨w0,w1,w2,w3,w4⟩:=hg.cA ((bV _ w).alloc (av _) (.cells #[U 0,U 0,U 0] 195));have l1:=gm x 16 16;have l2:=gm x 32 16;have l3:=gm x 48 8;rw[h0,h4] at d;generalize dy x 48 8=c at *;generalize dy x 32 16=r at *;generalize dy x 16 16=s at *;generalize dy x 0 16=z at *;generalize dy x 56 8=m at *;have HM:Hid (∀W,ak 156 #[.agg #[U c,U r,U s]] W fun e w'=>e=ae (.bool false)/\Below W.heap.size W w'):=bU (fun W=>by
  have dm:=jL W (c:Int) r s (by omega) (by omega) (by omega)
  rwa [show jK (c:Int) r s=false from az (by omega)] at dm)
 clear hm;have HB:=bU dj;clear dj hg;go_enter func120,ntmps120;go_wp2_with (go_at_call 155;refine d.mono ?_;rintro e w5 ⟨g,cap,rfl,q0,q1,q2,q3,q4,cN⟩)
 have n1:=World.new_ne w5 _ q1;have n2:=World.new_ne w5 _ q2;have n3:=World.new_ne w5 _ q3;go_region_held3 (fun w'=>w'.cell? (aj g 1)=some (aa s)/\w'.cell? (aj g 2)=some (aa r)/\w'.cell? (aj g 3)=some (aa c)) (go_keep) (fail)
 have v1:IntKind.i64.wrap (c:Int)=c:=IntWalk.i64_in _ (by omega);have v2:IntKind.i64.wrap (r:Int)=r:=IntWalk.i64_in _ (by omega);have v3:IntKind.i64.wrap (s:Int)=s:=IntWalk.i64_in _ (by omega);rw[v1,v2,v3];clear v1 v2 v3 n1 n2 n3 w0 w1 w2 w3 w4;have p0:=fq q0 (.cells #[U c,U r,U s] 195);have p4:=fq q4 (.cells #[U c,U r,U s] 195);have BT:Hid (cj (w5.alloc (.cells #[U c,U r,U s] 195)).drew w.heap.size #[U 0,U 0,U 0] 195):=bU (((((cj.new w _ _).alloc _).below cN (by omega)).alloc _).drew);have H5:=bU (bd (bA (bT HB.out cN (by omega)) (av _) (.cells #[U c,U r,U s] 195)));clear q0 q1 q2 q3 q4 cN d;go_wp2_with (go_at_call 156;refine(HM.out _).mono ?_;rintro e w6 ⟨rfl,dJ⟩;have T6:=BT.out.cA dJ;have k0:w6.cell? (aj w.heap.size)=some (U 0):=T6.cell 0;have k1:w6.cell? (aj w.heap.size 1)=some (U 0):=T6.cell 1;have k2:w6.cell? (aj w.heap.size 2)=some (U 0):=T6.cell 2;have f0:=T6.cE 0;have f1:=T6.cE 1;have f2:=T6.cE 2;clear T6)
 refine bodyPost_ret (v:=.tuple #[.agg #[U 0,U 0,U 0],U 5]) (by simp[results,Tryz.results120,go_sem,k0,k1,k2]) rfl ?_;exact⟨rfl,(((fj H5.out dJ).setCell (by show w.heap.size<=w.heap.size;omega) _).setCell (by show w.heap.size<=w.heap.size;omega) _).setCell (by show w.heap.size<=w.heap.size;omega) _⟩
theorem get_none(w:World)(hg:Gw w)(x:Nat)(hx:x<18446744073709551616)(hd:zt x=none):
  ak 120 #[aa x] w fun e w'=>e=ae (.tuple #[.agg #[U 0,U 0,U 0],U 5])/\Below w.heap.size w w':=by
 unfold zt at hd
 split at hd
 .cases hd
 .rename_i hc
  by_cases h0:dy x 0 16=0
  .by_cases h4:dy x 56 8=199
   .exact kC w hg x hx h0 h4 (fun h=>hc ⟨h0,h4,h⟩)
   .exact oS w hg x hx h0 h4
  .exact BD w hg x hx h0
end Hd
namespace Bd
open Go.RowKit Go.bZ Go.Gc Sl
def xO(w:World)(b mp tn p:Nat):Prop:=cj w b #[af (aj mp),U tn,af (aj p)] 178
theorem cC{w:World}{b mp tn p:Nat}(h:xO w b mp tn p):ak 151 #[af (aj b)] w fun e w'=>e=ae (.bool false)/\w=w':=by
 have c0:w.cell? (aj b)=some (af (aj mp)):=cj.cell h 0;clear h;go_enter func151,ntmps151;go_wp2_with fail;go_ret;exact⟨rfl,rfl⟩
theorem jZ{w:World}{b mp tn p g cap:Nat}{rs:List Rec}{n pg pw:Nat}(hb:xO w b mp tn p)(h:ff w p g cap rs n pg pw){x k:Nat}{r:Rec}(hs:eJ pw rs n pg x k r)(hx:x<n):
  ak 118 #[af (aj b),U x] w fun e w'=>e=ae (.tuple #[U (addrOf pw rs x:Int),U r.size,U 0])/\Below w.heap.size w w':=by
 have d:=cC hb;have c2:w.cell? (aj b 2)=some (af (aj p)):=cj.cell hb 2;have da:=jC w h hs hx;have DS:Hid (∀W,Below w.heap.size w W→ak 152 #[af (aj p),U x] W fun e w'=>e=ae (.tuple #[U r.size,U 0])/\Below W.heap.size W w'):=bU (fun W hW=>qI W (h.cA hW) hs hx);have HB:=bU hb;generalize addrOf pw rs x=ad at *;clear h hs hb;go_enter func118,ntmps118;go_wp2_with (first|(go_at_call 151;(with_reducible refine d.mono ?_);rintro e w' ⟨rfl,rfl⟩)|(go_at_call 110;(with_reducible refine da.mono ?_);rintro e w2 ⟨rfl,cN⟩;have e2:w2.cell? (aj b 2)=some (af (aj p)):=(cj.cA HB.out cN).cell 2)|(go_at_call 152;refine(DS.out _ cN).mono ?_;rintro e w3 ⟨rfl,dJ⟩))
 go_ret3
 exact⟨rfl,fj cN dJ⟩
end Bd
end Go.Proofs.YtgblmelijlgimaaGreatDoor
