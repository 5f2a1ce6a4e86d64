/- Parts of the proof of TopApart. -/
import Derived.Test.YtgblmelijlgimaaGreatDoorZTopAY
import Derived.Deep.DeepCutAuto
import Derived.Test.YtgblmelijlgimaaGreatDoorZTopAK
set_option maxRecDepth 100000
namespace Go.Proofs.YtgblmelijlgimaaGreatDoor
open Go.Proofs.Tryz
namespace Cn
open Go.RowKit Go.bZ Go.Cf Mm
theorem MU{w:World}{c:cF}(h:gN w c)(se:c.cl.length<=8):
  ak 44 #[ai (aj c.gc c.oc) c.cl.length c.cc] w fun e w'=>∃v,e=ae v/\w'.ownsRow w.heap.size 3 1 v c.cl.length (IV c.cl)/\Below w.heap.size w w':=by
 have hq:∀w,(binOp .eql 22 (ai (aj c.gc c.oc) c.cl.length c.cc) (ai none 0 0)).run prog w=.ok (.bool false) w:=fun w=>by
  have he:=run_equal_slice_nil (P:=prog) w 22 3 (some ⟨c.gc,c.oc,none⟩) c.cl.length c.cc underlying22;simp[binOp,go_sem,he]
 obtain⟨i0,hi,iX,jm,nQ⟩:=info_parts E9;have OW:=bU (World.ownsRow_made (base:=w.heap.size) (e:=3) (size:=1) w #[] 0 (av _) (by unfold maxLen;omega) rfl);have B1:=bU ((bV w.heap.size w).alloc (av _) (.cells #[] 3));have X1:Hid (Src prog 1 22 (ai (aj c.gc c.oc) c.cl.length c.cc) c.cl.length (IV c.cl) (w.alloc (.cells #[] 3))):=bU (Src.ofSlice _ underlying22 ⟨c.gc,c.oc,none⟩ c.cl.length c.cc _ (by unfold IV;rw[List.length_map,bP]) (fun j u hj=>by
  have hadd:(⟨c.gc,c.oc,none⟩:Addr).add j=⟨c.gc,c.oc+j,none⟩:=by unfold Addr.add;split <;> simp_all
  rw[hadd];have hjl:j<c.cl.length:=by have:=(au.1 hj).1;simpa[IV] using this
  refine fq ((h.cls j hjl).trans ?_) _;unfold IV at hj;rw[aR,aq hjl] at hj;rw[ao,aq hjl];exact hj) (fun u hu=>by obtain⟨x,_,rfl⟩:=List.mem_map.1 hu;rfl))
 generalize IV c.cl=L at *;generalize c.cl.length=n at *;generalize c.gc=g at *;generalize c.oc=o at *;generalize c.cc=cap at *;clear h;go_enter func44,ntmps44;go_wp2_with (at_builtin;refine fA _ rfl _ _ 22 22 rfl w.heap.size 3 i0 (U 0) 1 8 underlying22 hi iX jm nQ rfl _ 0 [] rfl OW.out (ai (aj g o) n cap) n _ rfl X1.out (show Value.slice (some ⟨w.heap.size,0,none⟩) 0 0≠.slice none 0 0 from by simp) ?c1 ?c2 ?c3 ?_)
 case c1=>unfold maxLen;omega
 case c2=>omega
 case c3=>simp
 intro v1 w1 hown hgrow _;have hb:=B1.out.grown hgrow (by simp) (fun j hj=>(OW.out.lt j hj).1);have HB:=bU hb;have fN:w1.ownsRow w.heap.size 3 1 v1 n L:=by first|exact hown|simpa using hown
 have HO:=bU fN;clear hown fN hgrow hb;go_wp2_with fail;go_ret;exact⟨_,rfl,HO.out,HB.out⟩
def CR(t:zm):List Value:=[U t.q,U t.tr,U t.ca,U t.zas]
def um(l:List zm):List Value:=l.flatMap CR
theorem uo:∀l:List zm,(um l).length=l.length*4
 | []=>rfl
 | t::l=>by
   have:=uo l;unfold um at this ⊢;rw[List.flatMap_cons,aJ,this];simp[CR];omega
theorem yh:∀(l:List zm) (i:Nat) (hi:i<l.length),(um l)[i*4]?=some (U l[i].q)/\(um l)[i*4+1]?=some (U l[i].tr)/\(um l)[i*4+2]?=some (U l[i].ca)/\(um l)[i*4+3]?=some (U l[i].zas)
 | [],_,hi=>absurd hi (by simp)
 | t::l,0,_=>by simp[um,CR]
 | t::l,i+1,hi=>by
   have h:=yh l i (by simpa using hi);have h1:∀k,(um (t::l))[(i+1)*4+k]?=(um l)[i*4+k]?:=fun k=>by
    unfold um;rw[List.flatMap_cons,aS (by simp[CR];omega)]
    congr 1
    simp[CR];omega
   have h0:=h1 0;simp only[bN] at h0;rw[h0,h1 1,h1 2,h1 3];exact h
theorem Gz{w:World}{g o:Nat}{l:List zm}(h:∀t,(ht:t<l.length)→w.cell? (aj g (o+t*4))=some (U l[t].q)/\w.cell? (aj g (o+t*4+1))=some (U l[t].tr)/\w.cell? (aj g (o+t*4+2))=some (U l[t].ca)/\w.cell? (aj g (o+t*4+3))=some (U l[t].zas))(j:Nat)(u:Value)(hj:(um l)[j]?=some u):w.cell? (aj g (o+j))=some u:=by
 have hjl:j<l.length*4:=by have:=(au.1 hj).1;rwa [uo] at this
 have hi:j/4<l.length:=by omega
 obtain⟨h0,h1,h2,h3⟩:=h (j/4) hi;obtain⟨a0,a1,a2,a3⟩:=yh l (j/4) hi;have hm:j%4<4:=Nat.mod_lt _ (by omega);have e:j=j/4*4+j%4:=by omega
 generalize j%4=m at *;generalize j/4=i at *;subst e
 match m,hm with
 | 0,_=>rw[bN] at hj ⊢;rw[h0,←hj,a0]
 | 1,_=>rw[←Nat.add_assoc,h1,←hj,a1]
 | 2,_=>rw[←Nat.add_assoc,h2,←hj,a2]
 | 3,_=>rw[←Nat.add_assoc,h3,←hj,a3]
theorem OU:(prog.info? 50).map (fun i=>(i.zero,i.size,i.bytes))=some (some (.agg #[U 0,U 0,U 0,U 0]),4,32):=by kernel_rfl
theorem MV{w:World}{c:cF}(h:gN w c)(se:c.ts.length<=8):
  ak 45 #[ai (aj c.gt c.ot) c.ts.length c.ct] w fun e w'=>∃v,e=ae v/\w'.ownsRow w.heap.size 50 4 v c.ts.length (um c.ts)/\Below w.heap.size w w':=by
 have hq:∀w,(binOp .eql 23 (ai (aj c.gt c.ot) c.ts.length c.ct) (ai none 0 0)).run prog w=.ok (.bool false) w:=fun w=>by
  have he:=run_equal_slice_nil (P:=prog) w 23 50 (some ⟨c.gt,c.ot,none⟩) c.ts.length c.ct underlying23;simp[binOp,go_sem,he]
 obtain⟨i0,hi,iX,jm,nQ⟩:=info_parts OU;have OW:=bU (World.ownsRow_made (base:=w.heap.size) (e:=50) (size:=4) w #[] 0 (av _) (by unfold maxLen;omega) rfl);have B1:=bU ((bV w.heap.size w).alloc (av _) (.cells #[] 50));have X1:Hid (Src prog 4 23 (ai (aj c.gt c.ot) c.ts.length c.ct) c.ts.length (um c.ts) (w.alloc (.cells #[] 50))):=bU (Src.ofSlice _ underlying23 ⟨c.gt,c.ot,none⟩ c.ts.length c.ct _ (by rw[uo]) (fun j u hj=>by
  have hadd:(⟨c.gt,c.ot,none⟩:Addr).add j=⟨c.gt,c.ot+j,none⟩:=by unfold Addr.add;split <;> simp_all
  rw[hadd];exact fq (Gz h.LD j u hj) _) (fun u hu=>by
   obtain⟨x,_,hx⟩:=List.mem_flatMap.1 hu;simp[CR] at hx;rcases hx with rfl|rfl|rfl|rfl <;> rfl))
 generalize um c.ts=L at *;generalize c.ts.length=n at *;generalize c.gt=g at *;generalize c.ot=o at *;generalize c.ct=cap at *;clear h;go_enter func45,ntmps45;go_wp2_with (at_builtin;refine fA _ rfl _ _ 23 23 rfl w.heap.size 50 i0 (.agg #[U 0,U 0,U 0,U 0]) 4 32 underlying23 hi iX jm nQ rfl _ 0 [] rfl OW.out (ai (aj g o) n cap) n _ rfl X1.out (show Value.slice (some ⟨w.heap.size,0,none⟩) 0 0≠.slice none 0 0 from by simp) ?c1 ?c2 ?c3 ?_)
 case c1=>unfold maxLen;omega
 case c2=>omega
 case c3=>simp
 intro v1 w1 hown hgrow _;have hb:=B1.out.grown hgrow (by simp) (fun j hj=>(OW.out.lt j hj).1);have HB:=bU hb;have fN:w1.ownsRow w.heap.size 50 4 v1 n L:=by first|exact hown|simpa using hown
 have HO:=bU fN;clear hown fN hgrow hb;go_wp2_with fail;go_ret;exact⟨_,rfl,HO.out,HB.out⟩
end Cn
namespace Cn
open Go.RowKit Go.bZ Go.Cf Mm
def qp(c:cF)(w:World)(e:Ending)(w':World):Prop:=∃c':cF,e=ae (cF.val c')/\gN w' c'/\c'.cl=c.cl/\c'.ts=c.ts/\c'.cB=c.cB/\c'.wk=c.wk/\c'.gy=c.gy/\c'.gn=c.gn/\Below w.heap.size w w'/\w.heap.size<=c'.gc/\w.heap.size<=c'.gt/\c'.gc≠c'.gt
theorem tA{w:World}{B n s:Nat}{t:TypeId}{v:Value}{xs:List Value}(h:w.ownsRow B t s v n xs)(hn:0<n):∃g cap,v=ai (aj g) n cap/\B<=g/\g<w.heap.size/\∀j u,xs[j]?=some u→w.cell? (aj g j)=some u:=by
 obtain⟨hl,⟨rfl,rfl⟩|⟨g,cap,cur,rfl,hb,hg,hc,hm,hs,ht⟩⟩:=h
 .omega
 .refine⟨g,cap,rfl,hb,(aD.1 hg).1,fun j u hj=>?_⟩
  rw[cell_of_row w g j cur _ _ hg];have IM:=(au.1 hj).1;rw[←ht,List.getElem?_take_of_lt (by omega)] at hj;rw[←bJ];exact hj
theorem Ki{w w3:World}{c:cF}{g1 c1 g2 c2:Nat}(h1:∀j u,(IV c.cl)[j]?=some u→w3.cell? (aj g1 j)=some u)(h2:∀j u,(um c.ts)[j]?=some u→w3.cell? (aj g2 j)=some u)(hb:Below w.heap.size w w3)(b1:w.heap.size<=g1)(b2:w.heap.size<=g2)(ne:g1≠g2):
  qp c w (ae (.agg #[ai (aj g1) c.cl.length c1,U c.cB,ai (aj g2) c.ts.length c2,U c.wk,U c.gy,U c.gn])) w3:=by
 refine⟨⟨g1,0,c1,g2,0,c2,c.cl,c.cB,c.ts,c.wk,c.gy,c.gn⟩,rfl,⟨fun i hi=>?_,fun t ht=>?_⟩,rfl,rfl,rfl,rfl,rfl,rfl,hb,b1,b2,ne⟩
 .have hi:i<c.cl.length:=hi
  show w3.cell? (aj g1 (0+i))=some (U (c.cl.getD i 0:Nat));rw[bM];refine h1 i _ ?_;unfold IV;rw[aR,ao,aq hi];rfl
 .have ht:t<c.ts.length:=ht
  obtain⟨a0,a1,a2,a3⟩:=yh c.ts t ht;show w3.cell? (aj g2 (0+t*4))=_/\w3.cell? (aj g2 (0+t*4+1))=_/\w3.cell? (aj g2 (0+t*4+2))=_/\w3.cell? (aj g2 (0+t*4+3))=_;rw[bM];exact⟨h2 _ _ a0,h2 _ _ a1,h2 _ _ a2,h2 _ _ a3⟩
def GA(c:cF)(w wx:World):Prop:=∃g1 c1 g2 c2,cj wx w.heap.size #[ai (aj g1) c.cl.length c1,U c.cB,ai (aj g2) c.ts.length c2,U c.wk,U c.gy,U c.gn] 25/\cj wx (w.heap.size+1) #[ai none 0 0,U 0,ai none 0 0,U 0,U 0,U 0] 25/\
 (∀j u,(IV c.cl)[j]?=some u→wx.cell? (aj g1 j)=some u)/\(∀j u,(um c.ts)[j]?=some u→wx.cell? (aj g2 j)=some u)/\Below w.heap.size w wx/\w.heap.size+1<g1/\w.heap.size+1<g2/\g1≠g2
def jE(c:cF)(w V:World):Prop:=Below ((w.alloc (.cells #[ai (aj c.gc c.oc) c.cl.length c.cc,U c.cB,ai (aj c.gt c.ot) c.ts.length c.ct,U c.wk,U c.gy,U c.gn] 25)).alloc (.cells #[ai none 0 0,U 0,ai none 0 0,U 0,U 0,U 0] 25)).heap.size ((w.alloc (.cells #[ai (aj c.gc c.oc) c.cl.length c.cc,U c.cB,ai (aj c.gt c.ot) c.ts.length c.ct,U c.wk,U c.gy,U c.gn] 25)).alloc (.cells #[ai none 0 0,U 0,ai none 0 0,U 0,U 0,U 0] 25)) V
theorem jE.next{c:cF}{w V V':World}(h:jE c w V)(hb:Below V.heap.size V V'):jE c w V':=fj h hb
theorem jE.drew{c:cF}{w V:World}(h:jE c w V):jE c w V.drew:=bd h
theorem jE.size{c:cF}{w V:World}(h:jE c w V):w.heap.size+1<V.heap.size:=by have:=Below.size h;simp at this;omega
theorem Aa{c:cF}{w V:World}{g1 c1 g2 c2:Nat}(h:jE c w V)(h1:∀j u,(IV c.cl)[j]?=some u→V.cell? (aj g1 j)=some u)(h2:∀j u,(um c.ts)[j]?=some u→V.cell? (aj g2 j)=some u)(b1:w.heap.size+1<g1)(b2:w.heap.size+1<g2)(ne:g1≠g2):
  GA c w ((V.setCell (aj w.heap.size) (ai (aj g1) c.cl.length c1)).setCell (aj w.heap.size 2) (ai (aj g2) c.ts.length c2)):=by
 have hb:Below w.heap.size w V:=bT (bA (bA (bV _ _) (av _) _) (av _) _) h (by simp;omega);have o0:=(cj.gR w #[ai (aj c.gc c.oc) c.cl.length c.cc,U c.cB,ai (aj c.gt c.ot) c.ts.length c.ct,U c.wk,U c.gy,U c.gn] #[ai none 0 0,U 0,ai none 0 0,U 0,U 0,U 0] 25 25).cA h;have o1:=(cj.jf w #[ai (aj c.gc c.oc) c.cl.length c.cc,U c.cB,ai (aj c.gt c.ot) c.ts.length c.ct,U c.wk,U c.gy,U c.gn] #[ai none 0 0,U 0,ai none 0 0,U 0,U 0,U 0] 25 25).cA h;have kc:cu (fun k=>k=w.heap.size) V ((V.setCell (aj w.heap.size) (ai (aj g1) c.cl.length c1)).setCell (aj w.heap.size 2) (ai (aj g2) c.ts.length c2)):=cu.stored (S:=fun k=>k=w.heap.size) (cu.stored (S:=fun k=>k=w.heap.size) (cu.refl (fun k=>k=w.heap.size) V) (p:=w.heap.size) (.inl rfl) _ _) (p:=w.heap.size) (.inl rfl) _ _;refine⟨g1,c1,g2,c2,((o0.set 0 _).set 2 _),o1.bY kc (by omega),fun j u hj=>?_,fun j u hj=>?_,?_,b1,b2,ne⟩
 .have:=h1 j u hj
  exact(World.cell?_of_block (w:=V) (kc.block g1 (World.block_lt_of_cell? V ⟨g1,j,none⟩ this) (by omega))).trans this
 .have:=h2 j u hj
  exact(World.cell?_of_block (w:=V) (kc.block g2 (World.block_lt_of_cell? V ⟨g2,j,none⟩ this) (by omega))).trans this
 .exact(hb.setCell (by show w.heap.size<=w.heap.size;omega) _).setCell (by show w.heap.size<=w.heap.size;omega) _
theorem CS{c:cF}{w wc wf:World}{g1 c1 g2 c2:Nat}(h:(∀j u,(IV c.cl)[j]?=some u→wc.cell? (aj g1 j)=some u)/\(∀j u,(um c.ts)[j]?=some u→wc.cell? (aj g2 j)=some u)/\Below w.heap.size w wc/\w.heap.size+1<g1/\w.heap.size+1<g2/\g1≠g2)(kf:cu (fun k=>k=w.heap.size+1) wc wf):
  qp c w (ae (.agg #[ai (aj g1) c.cl.length c1,U c.cB,ai (aj g2) c.ts.length c2,U c.wk,U c.gy,U c.gn])) wf:=by
 obtain⟨h1,h2,hb,b1,b2,ne⟩:=h;refine Ki (fun j u hj=>?_) (fun j u hj=>?_) ?_ (by omega) (by omega) ne
 .have:=h1 j u hj
  exact(World.cell?_of_block (w:=wc) (kf.block g1 (World.block_lt_of_cell? wc ⟨g1,j,none⟩ this) (by omega))).trans this
 .have:=h2 j u hj
  exact(World.cell?_of_block (w:=wc) (kf.block g2 (World.block_lt_of_cell? wc ⟨g2,j,none⟩ this) (by omega))).trans this
 .exact hb.trans (kf.below hb.size (fun k hk=>by have hk:k=w.heap.size+1:=hk;omega))
set_option maxHeartbeats 8000000 in
theorem GB{w:World}{c:cF}(h:gN w c)(k:Ok c):ak 26 #[cF.val c] w (qp c w):=by
 have hB:Below w.heap.size w ((w.alloc (.cells #[ai (aj c.gc c.oc) c.cl.length c.cc,U c.cB,ai (aj c.gt c.ot) c.ts.length c.ct,U c.wk,U c.gy,U c.gn] 25)).alloc (.cells #[ai none 0 0,U 0,ai none 0 0,U 0,U 0,U 0] 25)):=bA (bA (bV _ _) (av _) _) (av _) _;have hW:=h.cA k hB;have DI:Hid (∀V,jE c w V→V.cell? (aj w.heap.size)=some (ai (aj c.gc c.oc) c.cl.length c.cc)/\V.cell? (aj w.heap.size 2)=some (ai (aj c.gt c.ot) c.ts.length c.ct)/\V.frozen? (aj w.heap.size)=false/\V.frozen? (aj w.heap.size 2)=false/\
   (ak 44 #[ai (aj c.gc c.oc) c.cl.length c.cc] V fun e w'=>∃g cap,e=ae (ai (aj g) c.cl.length cap)/\Hid (V.heap.size<=g/\g<w'.heap.size/\(∀j u,(IV c.cl)[j]?=some u→w'.cell? (aj g j)=some u)/\Below V.heap.size V w'))/\
   (ak 45 #[ai (aj c.gt c.ot) c.ts.length c.ct] V fun e w'=>∃g cap,e=ae (ai (aj g) c.ts.length cap)/\Hid (V.heap.size<=g/\g<w'.heap.size/\(∀j u,(um c.ts)[j]?=some u→w'.cell? (aj g j)=some u)/\Below V.heap.size V w'))):=bU (fun V hV=>by
  have B0:=(cj.gR w #[ai (aj c.gc c.oc) c.cl.length c.cc,U c.cB,ai (aj c.gt c.ot) c.ts.length c.ct,U c.wk,U c.gy,U c.gn] #[ai none 0 0,U 0,ai none 0 0,U 0,U 0,U 0] 25 25).cA hV;refine⟨B0.cell 0,B0.cell 2,B0.cE 0,B0.cE 2,(MU (hW.cA k hV) k.c8).mono ?_,(MV (hW.cA k hV) k.t8).mono ?_⟩
  .rintro e w' ⟨v,rfl,ho,hb⟩
   obtain⟨g,cap,rfl,h1,h2,h3⟩:=tA ho (by have:=k.c1;omega);exact⟨g,cap,rfl,bU ⟨h1,h2,h3,hb⟩⟩
  .rintro e w' ⟨v,rfl,ho,hb⟩
   obtain⟨g,cap,rfl,h1,h2,h3⟩:=tA ho (by have:=k.t1;omega);exact⟨g,cap,rfl,bU ⟨h1,h2,h3,hb⟩⟩)
 have HB:=bU hB;clear h hW hB k;unfold cF.val;have H0:Hid (jE c w ((w.alloc (.cells #[ai (aj c.gc c.oc) c.cl.length c.cc,U c.cB,ai (aj c.gt c.ot) c.ts.length c.ct,U c.wk,U c.gy,U c.gn] 25)).alloc (.cells #[ai none 0 0,U 0,ai none 0 0,U 0,U 0,U 0] 25))):=bU (bV _ _);obtain⟨x0,x2,f0,f2,-,-⟩:=DI.out _ H0.out;go_enter func26,ntmps26
 go_upto_region 1 with fail
 go_cut [] (fun wx=>GA c w wx)
 case first=>
  go_region_with (first|(go_at_call 44;refine((DI.out _ (by first|exact HT.out|exact H0.out.drew)).2.2.2.2.1).mono ?_;rintro e w2 ⟨g1,Uh,rfl,mX⟩;have G1:w.heap.size+1<g1:=aB (jE.size (by first|exact HT.out|exact H0.out.drew)) mX.out.1;have HI:Hid (jE c w w2):=bU (jE.next (by first|exact HT.out|exact H0.out.drew) mX.out.2.2.2);obtain⟨y0,y2,f0,f2,-,-⟩:=DI.out _ HI.out)|(go_at_call 45;refine((DI.out _ (by first|exact HI.out|exact H0.out.drew)).2.2.2.2.2).mono ?_;rintro e w3 ⟨g2,mR,rfl,jT⟩;have G2:w.heap.size+1<g2:=aB (jE.size (by first|exact HI.out|exact H0.out.drew)) jT.out.1;have HT:Hid (jE c w w3):=bU (jE.next (by first|exact HI.out|exact H0.out.drew) jT.out.2.2.2);obtain⟨y0,y2,f0,f2,-,-⟩:=DI.out _ HT.out))
  all_goals
   go_wp2_with fail
   go_meet
   first
    | exact Aa HT.out (fun j u hj=>(jT.out.2.2.2.cell (p:=⟨g1,j,none⟩) mX.out.2.1).trans (mX.out.2.2.1 j u hj)) jT.out.2.2.1 G1 G2 (by have a1:=mX.out.2.1;have a2:=jT.out.1;omega)
    | exact Aa HI.out mX.out.2.2.1 (fun j u hj=>(mX.out.2.2.2.cell (p:=⟨g2,j,none⟩) jT.out.2.1).trans (jT.out.2.2.1 j u hj)) G1 G2 (by have a1:=jT.out.2.1;have a2:=mX.out.1;omega)
    | trace_state
 case rest=>
  obtain⟨g1,c1,g2,c2,B0,B1,h1,h2,hb,b1,b2,ne⟩:=hcut;have a0:wc.cell? (aj w.heap.size)=some (ai (aj g1) c.cl.length c1):=B0.cell 0;have a1:wc.cell? (aj w.heap.size 1)=some (U c.cB):=B0.cell 1;have a2:wc.cell? (aj w.heap.size 2)=some (ai (aj g2) c.ts.length c2):=B0.cell 2;have a3:wc.cell? (aj w.heap.size 3)=some (U c.wk):=B0.cell 3;have a4:wc.cell? (aj w.heap.size 4)=some (U c.gy):=B0.cell 4;have a5:wc.cell? (aj w.heap.size 5)=some (U c.gn):=B0.cell 5;have e0:wc.cell? (aj (w.heap.size+1))=some (ai none 0 0):=B1.cell 0;have e1:wc.cell? (aj (w.heap.size+1) 1)=some (U 0):=B1.cell 1;have e2:wc.cell? (aj (w.heap.size+1) 2)=some (ai none 0 0):=B1.cell 2;have e3:wc.cell? (aj (w.heap.size+1) 3)=some (U 0):=B1.cell 3;have e4:wc.cell? (aj (w.heap.size+1) 4)=some (U 0):=B1.cell 4;have e5:wc.cell? (aj (w.heap.size+1) 5)=some (U 0):=B1.cell 5;have q0:=B1.cE 0;have q1:=B1.cE 1;have q2:=B1.cE 2;have q3:=B1.cE 3;have q4:=B1.cE 4;have q5:=B1.cE 5;have HX:=bU (And.intro h1 (And.intro h2 (And.intro hb (And.intro b1 (And.intro b2 ne)))));clear B0 B1 h1 h2 hb x0 x2 f0 f2;have kf:Hid (cu (fun k=>k=w.heap.size+1) wc ((((((wc.setCell (aj (w.heap.size+1)) (ai (aj g1) c.cl.length c1)).setCell (aj (w.heap.size+1) 1) (U c.cB)).setCell (aj (w.heap.size+1) 2) (ai (aj g2) c.ts.length c2)).setCell (aj (w.heap.size+1) 3) (U c.wk)).setCell (aj (w.heap.size+1) 4) (U c.gy)).setCell (aj (w.heap.size+1) 5) (U c.gn))):=bU (cu.stored (S:=fun k=>k=w.heap.size+1) (cu.stored (S:=fun k=>k=w.heap.size+1) (cu.stored (S:=fun k=>k=w.heap.size+1) (cu.stored (S:=fun k=>k=w.heap.size+1) (cu.stored (S:=fun k=>k=w.heap.size+1) (cu.stored (S:=fun k=>k=w.heap.size+1) (cu.refl (fun k=>k=w.heap.size+1) wc) (p:=w.heap.size+1) (.inl rfl) 0 (ai (aj g1) c.cl.length c1)) (p:=w.heap.size+1) (.inl rfl) 1 (U c.cB)) (p:=w.heap.size+1) (.inl rfl) 2 (ai (aj g2) c.ts.length c2)) (p:=w.heap.size+1) (.inl rfl) 3 (U c.wk)) (p:=w.heap.size+1) (.inl rfl) 4 (U c.gy)) (p:=w.heap.size+1) (.inl rfl) 5 (U c.gn))
  go_wp2_with fail;refine bodyPost_ret (v:=.agg #[ai (aj g1) c.cl.length c1,U c.cB,ai (aj g2) c.ts.length c2,U c.wk,U c.gy,U c.gn]) (by simp[results,Tryz.results26,go_sem,e0,e1,e2,e3,e4,e5]) rfl ?_;exact CS HX.out kf.out
end Cn
namespace Cn
open Go.RowKit Go.bZ Go.Cf Sl
def kh:List Nat→Nat→Nat
 | [],_=>0
 | x::l,n=>if x<n then kh l n+1 else 0
theorem uq:∀(l:List Nat) (n:Nat),kh l n<=l.length
 | [],_=>av _
 | x::l,n=>by
   unfold kh;have:=uq l n
   split
   .simp;omega
   .exact aW _
theorem rI:∀(l:List Nat) (n:Nat),(∀i j,i<=j→j<l.length→l.getD i 0<=l.getD j 0)→∀i,i<l.length→(kh l n<=i↔n<=l.getD i 0)
 | [],_,_,i,h=>by simp at h
 | x::l,n,hup,i,h=>by
   unfold kh;have h0:=hup 0 i (aW _) h;simp only[List.getD_cons_zero] at h0
   split
   .rename_i hx
    cases i with
    | zero=>simp;omega
    | succ i=>
     have:=rI l n (fun a b hab hb=>by have:=hup (a+1) (b+1) (by omega) (by simpa using hb);simpa using this) i (by simpa using h);simp only[List.getD_cons_succ];omega
   .constructor
    .intro _;omega
    .intro _;exact aW _
theorem ur(w:World)(c:cF)(h:gN w c)(k:Ok c)(bl bn i n:Nat)(hi:i<c.cl.length)
 (c0:w.cell? (aj bl)=some (ai (aj c.gc c.oc) c.cl.length c.cc))(c1:w.cell? (aj bn)=some (U n)):
  ak 225 #[U i,af (aj bl),af (aj bn)] w fun e w'=>e=ae (.bool (decide (n<=c.cl.getD i 0)))/\Below w.heap.size w w':=by
 have cx:=h.cls i hi;have c8:=k.c8;have i0:(0:Int)<=(i:Int):=by omega
 have i1:(i:Int)<(c.cl.length:Int):=by omega
 generalize c.cl.getD i 0=x at *;clear h k;go_enter func225,ntmps225;go_wp2_with fail
 go_quiet (fail)
 go_wp2_with fail;go_ret;exact⟨by first|rfl|simp,jh (bV _ _) _⟩
theorem oA{w:World}{c:cF}(h:gN w c)(k:Ok c)(n:Nat)(hn:1<=n)(sh:n<=1000):
  ak 174 #[ai (aj c.gc c.oc) c.cl.length c.cc,U n] w fun e w'=>e=ae (if kh c.cl n=c.cl.length then .tuple #[U 0,U 50] else .tuple #[U (kh c.cl n:Nat),U 0])/\Below w.heap.size w w':=by
 have dj:Below w.heap.size w ((w.alloc (.cells #[ai (aj c.gc c.oc) c.cl.length c.cc] 22)).alloc (.cells #[U n] 3)):=((bV _ w).alloc (av _) _).alloc (by simp) _;have h1:=h.cA k dj;have dc:=vr h1 k;have c8:=k.c8;have hle:=uq c.cl n;have B0:=(cj.new w #[ai (aj c.gc c.oc) c.cl.length c.cc] 22).alloc (.cells #[U n] 3);have B1:cj ((w.alloc (.cells #[ai (aj c.gc c.oc) c.cl.length c.cc] 22)).alloc (.cells #[U n] 3)) (w.heap.size+1) #[U n] 3:=by
  have:=cj.new (w.alloc (.cells #[ai (aj c.gc c.oc) c.cl.length c.cc] 22)) #[U n] 3;rw[World.size_alloc] at this;exact this
 have S:=qH 225 #[af (aj w.heap.size),af (aj (w.heap.size+1))] c.cl.length (kh c.cl n) _ hle (by omega) (fun W i hi hW=>by
  have e:=rI c.cl n (fun a b hab hb=>k.up a b hab hb) i hi;refine(ur W c (h1.cA k hW) k _ _ i n hi ((B0.cA hW).cell 0) ((B1.cA hW).cell 0)).mono ?_;rintro e w2 ⟨rfl,cN⟩;refine⟨?_,fj hW cN⟩
  congr 2
  exact decide_eq_decide.2 e.symm) (fun _ _=>by kernel_rfl)
 have HB:=bU dj;have HX:Hid (∀W,Below ((w.alloc (.cells #[ai (aj c.gc c.oc) c.cl.length c.cc] 22)).alloc (.cells #[U n] 3)).heap.size ((w.alloc (.cells #[ai (aj c.gc c.oc) c.cl.length c.cc] 22)).alloc (.cells #[U n] 3)) W→W.cell? (aj w.heap.size)=some (ai (aj c.gc c.oc) c.cl.length c.cc)/\W.cell? (aj (w.heap.size+1))=some (U n)):=bU (fun W hW=>⟨(B0.cA hW).cell 0,(B1.cA hW).cell 0⟩);clear h k h1 B0 B1 dj;generalize kh c.cl n=q at *;by_cases hq:q=c.cl.length
 .rw[if_pos hq]
  subst hq;go_enter func174,ntmps174;go_wp2_with (first|(go_at_call 83;(with_reducible refine dc.mono ?_);rintro e w' ⟨rfl,rfl⟩)|(go_at_call 224;(with_reducible refine S.mono ?_);rintro e w2 ⟨rfl,cN⟩;obtain⟨x0,x1⟩:=HX.out w2 cN))
  go_ret2
  exact⟨rfl,bT HB.out cN (by simp;omega)⟩
 .rw[if_neg hq]
  have Ow:q<c.cl.length:=by omega
  have e1:((q:Int)==(c.cl.length:Int))=false:=by rw[aA];omega
  have e2:(q==c.cl.length)=false:=by rw[aA];omega
  have e3:decide (q=c.cl.length)=false:=az (by omega);clear hle;go_enter func174,ntmps174;go_wp2_with (first|(go_at_call 83;(with_reducible refine dc.mono ?_);rintro e w' ⟨rfl,rfl⟩)|(go_at_call 224;(with_reducible refine S.mono ?_);rintro e w2 ⟨rfl,cN⟩;obtain⟨x0,x1⟩:=HX.out w2 cN))
  go_ret2
  exact⟨rfl,bT HB.out cN (by simp;omega)⟩
end Cn
namespace Ca
open Go.RowKit Go.bZ Go.Proofs.YtgblmelijlgimaaGreatDoor.Fd
theorem j7(w:World):ak 198 #[] w fun e w'=>e=ae (ai (aj w.heap.size) 3 3)/\w'=w.alloc (.cells #[U 32,U 24,U 8] 3):=by
 go_enter func198,ntmps198;go_wp2_with fail;go_ret;exact⟨rfl,rfl⟩
theorem MW(w:World)(g t i:Nat)(ty:TypeId)(ht:t<256)(hi:i<16777216)(hb:cj w g #[U t,U 8,U i,U 24] ty):
  ak 279 #[ai (aj g) 4 4] w fun e w'=>e=ae (.bool true)/\Below w.heap.size w w':=by
 have HC:Hid (∀W,Below w.heap.size w W→W.cell? (aj g)=some (U t)/\W.cell? (aj g 1)=some (U 8)/\W.cell? (aj g 2)=some (U i)/\W.cell? (aj g 3)=some (U 24)):=bU (fun W hW=>⟨(hb.cA hW).cell 0,(hb.cA hW).cell 1,(hb.cA hW).cell 2,(hb.cA hW).cell 3⟩);clear hb;go_enter func279,ntmps279;go_wp2_with fail
 go_loopw [3] (fun j wr=>∃(k:Nat),k<=2/\j=U (2*k:Nat)/\Below w.heap.size w wr) (fun j _=>4-(intOf j).toNat)
 case atStart=>exact⟨0,by omega,rfl,bV _ _⟩
 case round=>
  obtain⟨k,hk,rfl,hbr⟩:=hrel;obtain⟨c0,c1,c2,c3⟩:=HC.out wr hbr;have HB:=bU hbr;clear hbr
  match k,hk with
  | 0,_=>
   have e1:decide ((t:Int)<0)=false:=az (by omega);have e2:(t:Int)/2^8=0:=by omega
   have e3:(t:Int)/256=0:=by omega
   clear ht hi;go_wp2_with fail
   go_quiet (fail)
   go_wp2_with fail
   go_roundw
   case rel=>exact⟨1,by omega,rfl,jh HB.out _⟩
   case measure=>simp[intOf]
  | 1,_=>
   have e1:decide ((i:Int)<0)=false:=az (by omega);have e2:(i:Int)/2^24=0:=by omega
   have e3:(i:Int)/16777216=0:=by omega
   clear ht hi;go_wp2_with fail
   go_quiet (fail)
   go_wp2_with fail
   go_roundw
   case rel=>exact⟨2,by omega,rfl,jh HB.out _⟩
   case measure=>simp[intOf]
  | 2,_=>
   go_wp2_with fail;go_ret;exact⟨rfl,HB.out⟩
def v7(t i g:Nat):Nat:=pk [32,24,8] [g,i,t] 3
end Ca
namespace Ca
open Go.RowKit Go.bZ Go.Proofs.YtgblmelijlgimaaGreatDoor.Fd
theorem oC(w:World)(bl g o n cap:Nat)(x:Nat)(hn:1<=n)(sh:n<=1000)(hc:2<=cap)(Mx:cap<=9223372036854775807)(b0:cj w bl #[ai (aj g o) n cap] 108)(c1:w.cell? (aj g o)=some (aa x)):
  ak 199 #[af (aj bl)] w fun e w'=>e=ae (aa x)/\w'=w.setCell (aj bl) (ai (aj g (o+1)) (n-1) (cap-1)):=by
 have c0:w.cell? (aj bl)=some (ai (aj g o) n cap):=b0.cell 0;have f0:=b0.cE 0;clear b0;go_enter func199,ntmps199;go_wp2_with fail;go_ret;exact⟨rfl,rfl⟩
theorem MX{w:World}{B:Nat}{v:Value}{x0 x1 x2:Nat}(h:w.ownsRow B 36 1 v 3 [aa x0,aa x1,aa x2]):∃g cap,v=ai (aj g) 3 cap/\w.cell? (aj g)=some (aa x0)/\w.cell? (aj g 1)=some (aa x1)/\w.cell? (aj g 2)=some (aa x2)/\B<=g/\3<=cap/\cap<=9223372036854775807:=by
 obtain⟨hl,⟨rfl,h⟩|⟨g,cap,cur,rfl,hb,hg,hc,hm,hs,ht⟩⟩:=h
 .cases h
 .have hh:∀j u,([aa x0,aa x1,aa x2]:List Value)[j]?=some u→w.cell? (aj g j)=some u:=fun j u hj=>by
   rw[cell_of_row w g j cur _ _ hg];have h1:(cur.toList.take (3*1))[j]?=some u:=by rw[ht];exact hj
   have QD:j<3:=by have:=(au.1 hj).1;simpa using this
   rw[List.getElem?_take_of_lt (by omega)] at h1;rw[←bJ];exact h1
  exact⟨g,cap,rfl,hh 0 _ rfl,hh 1 _ rfl,hh 2 _ rfl,hb,hc,by unfold maxLen at hm;omega⟩
theorem Ab(w:World)(x:Nat)(hx:x<18446744073709551616):
  ak 155 #[ai (aj (w.heap.size+1)) 3 3,aa x] ((w.alloc (.cells #[U 0,U 0,.int .u32 0] 245)).alloc (.cells #[U 32,U 24,U 8] 3)) fun e w'=>∃g cap,e=ae (.tuple #[ai (aj g) 3 cap,U 0])/\w'.cell? (aj g)=some (aa (dy x 0 32:Nat))/\w'.cell? (aj g 1)=some (aa (dy x 32 24:Nat))/\w'.cell? (aj g 2)=some (aa (dy x 56 8:Nat))/\w.heap.size+2<=g/\(3<=cap/\cap<=9223372036854775807)/\Below (w.heap.size+1+1) ((w.alloc (.cells #[U 0,U 0,.int .u32 0] 245)).alloc (.cells #[U 32,U 24,U 8] 3)) w':=by
 have d:=qU ((w.alloc (.cells #[U 0,U 0,.int .u32 0] 245)).alloc (.cells #[U 32,U 24,U 8] 3)) (w.heap.size+1) 0 3 x [32,24,8] hx (by decide) (by decide) (by decide) (by decide) (fun j hj=>by
  match j,hj with
  | 0,_|1,_|2,_=>exact(iI w _ _ _).cell _)
 refine d.mono ?_;rintro e w' ⟨v,rfl,ho,hb⟩;obtain⟨g,cap,rfl,h0,h1,h2,h3,h4⟩:=MX ho;exact⟨g,cap,rfl,h0,h1,h2,by simp at h3;omega,h4,hb.mono (by simp)⟩
end Ca
namespace Ca
open Go.RowKit Go.bZ Go.Proofs.YtgblmelijlgimaaGreatDoor.Fd
theorem lS(w:World)(bl g o cap:Nat)(x:Nat)(hc:1<=cap)(Mx:cap<=9223372036854775807)(b0:cj w bl #[ai (aj g o) 1 cap] 108)(c1:w.cell? (aj g o)=some (aa x)):
  ak 199 #[af (aj bl)] w fun e w'=>e=ae (aa x)/\cu (· =bl) w w':=by
 have c0:w.cell? (aj bl)=some (ai (aj g o) 1 cap):=b0.cell 0;have f0:=b0.cE 0;clear b0;by_cases h1:cap=1
 .subst h1
  go_enter func199,ntmps199;go_wp2_with fail;go_ret;exact⟨rfl,(cu.refl (· =bl) w).stored (.inl rfl) _ _⟩
 .have h2:2<=cap:=by omega
  go_enter func199,ntmps199;go_wp2_with fail;go_ret;exact⟨rfl,(cu.refl (· =bl) w).stored (.inl rfl) _ _⟩
set_option maxHeartbeats 1000000 in
theorem get_some(w:World)(x:Nat)(hx:x<18446744073709551616)(h0:dy x 0 32≠0):
  ak 144 #[aa x] w fun e w'=>e=ae (.tuple #[.agg #[U (dy x 56 8:Nat),U (dy x 32 24:Nat),.int .u32 (dy x 0 32:Nat)],U 0])/\Below w.heap.size w w':=by
 have dj:Below w.heap.size w ((w.alloc (.cells #[U 0,U 0,.int .u32 0] 245)).alloc (.cells #[U 32,U 24,U 8] 3)):=((bV _ w).alloc (av _) _).alloc (by simp) _;have d:=Ab w x hx;have l0:=Hd.gm x 0 32;have l1:=Hd.gm x 32 24;have l2:=Hd.gm x 56 8;have z0:((dy x 0 32:Int)==0)=false:=by rw[aA];omega
 clear h0;generalize dy x 0 32=c at *;generalize dy x 32 24=i at *;generalize dy x 56 8=t at *;have HB:=bU dj;clear dj;go_enter func144,ntmps144;go_wp2_with (first|(go_at_call 198;refine(j7 _).mono ?_;rintro e w' ⟨rfl,rfl⟩)|(go_at_call 155;refine d.mono ?_;rintro e w3 ⟨g,cap,rfl,q0,q1,q2,hg,⟨hcap,hcs⟩,cN⟩))
 have y0:(w3.alloc (.cells #[ai (aj g) 3 cap] 108)).cell? (aj w3.heap.size)=some (ai (aj g) 3 cap):=eX w3 _ _ 0;have y1:=fun o=>fq y0 o
 have BL:Hid (cj ((w3.alloc (.cells #[ai (aj g) 3 cap] 108)).alloc (.cells #[U 32,U 24,U 8] 3)).drew w3.heap.size #[ai (aj g) 3 cap] 108):=bU (((cj.new w3 _ _).alloc _).drew);have Q0:Hid (((w3.alloc (.cells #[ai (aj g) 3 cap] 108)).alloc (.cells #[U 32,U 24,U 8] 3)).drew.cell? (aj g)=some (aa c)):=bU (lL q0 _ _);have Q1:Hid (((w3.alloc (.cells #[ai (aj g) 3 cap] 108)).alloc (.cells #[U 32,U 24,U 8] 3)).drew.cell? (aj g 1)=some (aa i)):=bU (lL q1 _ _);have Q2:Hid (((w3.alloc (.cells #[ai (aj g) 3 cap] 108)).alloc (.cells #[U 32,U 24,U 8] 3)).drew.cell? (aj g 2)=some (aa t)):=bU (lL q2 _ _);have BZ:Hid (cj ((w3.alloc (.cells #[ai (aj g) 3 cap] 108)).alloc (.cells #[U 32,U 24,U 8] 3)).drew w.heap.size #[U 0,U 0,.int .u32 0] 245):=bU ((((((cj.new w _ _).alloc _).below cN (by omega)).alloc _).alloc _).drew);have H5:Hid (Below w.heap.size w ((w3.alloc (.cells #[ai (aj g) 3 cap] 108)).alloc (.cells #[U 32,U 24,U 8] 3)).drew):=bU (bd ((bA (bA (bT HB.out cN (by omega)) (av _) _) (av _) _)));have hgl:g<w3.heap.size:=World.block_lt_of_cell? w3 _ q0;have hws:w.heap.size+2<=w3.heap.size:=by have:=cN.size;simp at this;omega
 clear q0 q1 q2 cN d
 go_region_with (go_at_call 198;refine(j7 _).mono ?_;rintro e w' ⟨rfl,rfl⟩)
 all_goals
  clear y0 y1;generalize ((w3.alloc (.cells #[ai (aj g) 3 cap] 108)).alloc (.cells #[U 32,U 24,U 8] 3)).drew=W at *;obtain⟨bl,hbl⟩:=al (w3.heap.size);rw[hbl] at BL hgl hws ⊢;have d0:=oC W bl g 0 3 cap c (by omega) (by omega) (by omega) hcs BL.out Q0.out;have d1:=oC (W.setCell (aj bl) (ai (aj g (0+1)) (3-1) (cap-1))) bl g (0+1) (3-1) (cap-1) i (by omega) (by omega) (by omega) (by omega) (BL.out.set 0 _) ((World.cell?_setCell_other _ _ _ _ (by intro h;injection h;omega)).trans Q1.out);have d2:=lS ((W.setCell (aj bl) (ai (aj g (0+1)) (3-1) (cap-1))).setCell (aj bl) (ai (aj g (0+1+1)) (3-1-1) (cap-1-1))) bl g (0+1+1) (cap-1-1) t (by omega) (by omega) ((BL.out.set 0 _).set 0 _) ((World.cell?_setCell_other _ _ _ _ (by intro h;injection h;omega)).trans ((World.cell?_setCell_other _ _ _ _ (by intro h;injection h;omega)).trans Q2.out));have HC:Hid (Below w.heap.size w ((W.setCell (aj bl) (ai (aj g (0+1)) (3-1) (cap-1))).setCell (aj bl) (ai (aj g (0+1+1)) (3-1-1) (cap-1-1)))):=bU ((H5.out.setCell (by show w.heap.size<=bl;omega) _).setCell (by show w.heap.size<=bl;omega) _);have QZ:Hid (cj ((W.setCell (aj bl) (ai (aj g (0+1)) (3-1) (cap-1))).setCell (aj bl) (ai (aj g (0+1+1)) (3-1-1) (cap-1-1))) w.heap.size #[U 0,U 0,.int .u32 0] 245):=bU ((BZ.out.other (by omega) 0 _).other (by omega) 0 _);clear BZ BL Q0 Q1 Q2;have ho:w.heap.size≠bl:=by omega
  go_wp2_with (go_at_call 199;first|((with_reducible refine d0.mono ?_);rintro e w' ⟨rfl,rfl⟩)|((with_reducible refine d1.mono ?_);rintro e w' ⟨rfl,rfl⟩)|((with_reducible refine d2.mono ?_);rintro e w8 ⟨rfl,hch⟩;have T9:=(QZ.out.bY hch ho).alloc (.cells #[U t,U i,.int .u32 c] 245);have k0:(w8.alloc (.cells #[U t,U i,.int .u32 c] 245)).cell? (aj w.heap.size)=some (U 0):=T9.cell 0;have f0:=T9.cE 0;have k1:(w8.alloc (.cells #[U t,U i,.int .u32 c] 245)).cell? (aj w.heap.size 1)=some (U 0):=T9.cell 1;have f1:=T9.cE 1;have k2:(w8.alloc (.cells #[U t,U i,.int .u32 c] 245)).cell? (aj w.heap.size 2)=some (.int .u32 0):=T9.cell 2;have f2:=T9.cE 2;clear T9))
  refine bodyPost_ret (v:=.tuple #[.agg #[U t,U i,.int .u32 c],U 0]) (by simp[results,Tryz.results144,go_sem,k0,k1,k2]) rfl ?_;exact⟨rfl,(((bA (HC.out.trans (hch.below HC.out.size (fun k hk=>by have hk:k=bl:=hk;omega))) (av _) _).setCell (by show w.heap.size<=w.heap.size;omega) _).setCell (by show w.heap.size<=w.heap.size;omega) _).setCell (by show w.heap.size<=w.heap.size;omega) _⟩
end Ca
end Go.Proofs.YtgblmelijlgimaaGreatDoor
