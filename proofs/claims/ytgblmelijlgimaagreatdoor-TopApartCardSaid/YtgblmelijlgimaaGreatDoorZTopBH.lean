/- Parts of the proof of TopApart. -/
import Derived.Test.YtgblmelijlgimaaGreatDoorZTopBG
set_option maxRecDepth 100000
namespace Go.Proofs.YtgblmelijlgimaaGreatDoor
open Go.Proofs.Tryz
namespace Hp
open Go.RowKit Go.bZ Go.Gc Go.Cf Cn Go.Proofs.YtgblmelijlgimaaGreatDoor.Fd Sl Bd Ca Hd Tb Mm Mk Sw Cy
structure Oh(w w3:World)(E:Env)(c:cF)(k r u sz:Nat):Prop where
 hB:Below w.heap.size w w3
 l:w.heap.size+4<=w3.heap.size
 b3:cj w3 w.heap.size #[af (aj (E.A 26))] 82
 bS:cj w3 (w.heap.size+2) eY 38
 bX:cj w3 (w.heap.size+3) #[U k,U r,U u] 195
 c0:w3.cell? (aj (E.A 26))=some (ai (aj c.gc c.oc) c.cl.length c.cc)
 ck:w3.cell? (aj c.gc (c.oc+k))=some (U sz)
theorem Oh.fr{w w3 W4:World}{E:Env}{c:cF}{k r u sz:Nat}(R:Oh w w3 E c k r u sz)(h4:((w3.alloc (.cells #[U sz] 3)).alloc (.cells #[.func (.func 175) #[] #[af (aj w.heap.size),af (aj w3.heap.size)]] 31)).drew=W4):Fr w W4 E ⟨k,r,u,sz,w3.heap.size,w3.heap.size+1⟩/\Below w.heap.size w W4:=by
 subst h4;have h1:=bA (bV w3.heap.size w3) (av _) (.cells #[U sz] 3);have h2:=bd (bA h1 (av _) (.cells #[.func (.func 175) #[] #[af (aj w.heap.size),af (aj w3.heap.size)]] 31));have f1:=(cj.new w3 #[U sz] 3).alloc (.cells #[.func (.func 175) #[] #[af (aj w.heap.size),af (aj w3.heap.size)]] 31);have f2:=cj.new (w3.alloc (.cells #[U sz] 3)) #[.func (.func 175) #[] #[af (aj w.heap.size),af (aj w3.heap.size)]] 31;rw[World.size_alloc] at f2;exact⟨⟨R.bS.cA h2,R.bX.cA h2,⟨R.b3.cA h2,f1.cA (bd (bV _ _)),f2.cA (bd (bV _ _))⟩⟩,R.hB.trans (h2.mono R.hB.size)⟩
attribute [local irreducible] wpStill in
set_option maxHeartbeats 1000000 in
theorem Hc{z:Int}{w:World}{C:cV}{E:Env}{c:cF}{ws:List Int}{N:Int}{x:V}(L:Lk C E c)(h:Hv w C E c ws N x)(q:iJ){r u:Nat}(ha:q.a=r)(hb:q.b=u)(hru:r+u<=63)(hf:kh c.cl (r+u+1)<c.cl.length)(hN:N<999990):ak 137 #[af (aj (E.A 26)),.agg #[ab q.code,aa q.h,U q.a,U q.b,aa q.x],U z] w (j9 C E c ws N (jr C x r u) 2 w):=by
 have hft:r+u+1<=c.cl.getD (kh c.cl (r+u+1)) 0:=(rI c.cl (r+u+1) (fun a b hab hb=>L.k.up a b hab hb) _ hf).1 (av _);have eA:jr C x r u=(let y:=room C (GZ C (c.cl.getD (kh c.cl (r+u+1)) 0)) x
  if ¬(y.v.used+(c.cl.getD (kh c.cl (r+u+1)) 0:Nat)<=(C.fV:Int)) then(y,Sn.told 100)
  else if ¬(0<ek y.v.es) then(y,Sn.told 131)
  else match lZ y.v.T (C.first (kh c.cl (r+u+1))) (C.many (kh c.cl (r+u+1))) with
   | some s=>(iO C (ia C (jI C y s (kh c.cl (r+u+1)) r u) s) (c.cl.getD (kh c.cl (r+u+1)) 0:Nat),{Sn.told 0 with h:=iC C y,addr:=(C.K.addr s:Nat)})
   | none=>(y,Sn.told 0)):=by
  unfold jr;rw[L.cf,L.cc];simp only[];rw[if_pos hf]
  rfl
 generalize jr C x r u=res at *;obtain⟨W,hW⟩:=al ((((w.alloc (.cells #[af (aj (E.A 26))] 82)).alloc (.cells #[ab q.code,aa q.h,U q.a,U q.b,aa q.x] 54)).alloc (.cells #[U 0,aa 0,aa 0,U 0,U 0,U 0,U 0,.bool false] 38)).alloc (.cells #[U 0,U q.a,U q.b] 195));obtain⟨hB,bH,bS,bX⟩:=(Ha w E q q.a q.b).out W hW;have dN:=uw W q.a q.b true (by unfold jK;exact aw (by omega)) (by omega) (by omega);have hn:q.a+q.b+1=((r+u+1:Nat):Int):=by omega
 rw[hn] at dN;have HT:=bU (fun w1 z=>fD w1 z);generalize hk:kh c.cl (r+u+1)=k at *;generalize hsz:c.cl.getD k 0=sz at *;have Rk:c.cl.length<=8:=L.k.c8;have hlW:w.heap.size+4<=W.heap.size:=by have:=bX.lt;omega
 have HF:Hid (∀w1,Below W.heap.size W w1→(w1.cell? (aj w.heap.size)=some (af (aj (E.A 26)))/\w1.cell? (aj (E.A 26))=some (ai (aj c.gc c.oc) c.cl.length c.cc))/\ak 174 #[ai (aj c.gc c.oc) c.cl.length c.cc,U (r+u+1:Nat)] w1 fun e w2=>e=ae (.tuple #[U k,U 0])/\w2.cell? (aj (w.heap.size+3))=some (U 0)/\w2.frozen? (aj (w.heap.size+3))=false/\∃w3,w2.setCell (aj (w.heap.size+3)) (U k)=w3/\Hid (Oh w w3 E c k r u sz)):=bU (fun w1 h1=>by
  obtain⟨s,G,hp,rp,gn⟩:=h.cA L (hB.trans (h1.mono hB.size));obtain⟨zz,b⟩:=hp.b;refine⟨⟨(bH.cA h1).cell 0,b.cell 0⟩,(oA hp.cf L.k (r+u+1) (by omega) (by omega)).mono ?_⟩;rintro e w2 ⟨rfl,cN⟩;have h2:=fj h1 cN;have x2:=bX.cA h2;rw[hk,if_neg (by omega)];refine⟨rfl,x2.cell 0,x2.cE 0,_,rfl,bU ?_⟩;have hc:=(cu.refl (fun k=>k=w.heap.size+3) w2).stored (.inl rfl) 0 (U k);have hS:Below w.heap.size w2 (w2.setCell (aj (w.heap.size+3)) (U k)):=hc.below (by have:=h2.size;have:=hB.size;omega) (fun k hk=>by have hk:k=w.heap.size+3:=hk;omega);have h3:=(hB.trans (h2.mono hB.size)).trans hS;obtain⟨s3,G3,SE,-,-⟩:=h.cA L h3;obtain⟨z3,b3⟩:=SE.b;have hck:=SE.cf.cls k hf;rw[hsz] at hck;refine⟨h3,?_,(bH.cA h2).bY hc (fun hk=>by have hk:w.heap.size=w.heap.size+3:=hk;omega),(bS.cA h2).bY hc (fun hk=>by have hk:w.heap.size+2=w.heap.size+3:=hk;omega),?_,b3.cell 0,hck⟩
  .have:=hc.size;have:=h2.size;omega
  .have:=x2.set 0 (U k)
   rw[ha,hb] at this;exact this)
 have HR:Hid (∀w3,Oh w w3 E c k r u sz→(w3.cell? (aj w.heap.size)=some (af (aj (E.A 26)))/\w3.cell? (aj (E.A 26))=some (ai (aj c.gc c.oc) c.cl.length c.cc)/\w3.cell? (aj (w.heap.size+3))=some (U k)/\w3.cell? (aj c.gc (c.oc+k))=some (U sz))):=bU (fun w3 R=>⟨R.b3.cell 0,R.c0,R.bX.cell 0,R.ck⟩);have HA:Hid (∀ky kX,w.heap.size<=ky→w.heap.size<=kX→IU w C E c ws N x ⟨k,r,u,sz,ky,kX⟩):=bU (fun ky kX l1 l2=>⟨L,h,l1,l2,hN,hf,hru,by show r+u+1<=c.cl.getD k 0;rw[hsz];exact hft,hsz.symm⟩);have JO:sz<=64:=by have:=wj L.k hf;omega
 generalize hy:room C (GZ C sz) x=y at *;have H4:Hid (∀w3,Oh w w3 E c k r u sz→∀W4,((w3.alloc (.cells #[U sz] 3)).alloc (.cells #[.func (.func 175) #[] #[af (aj w.heap.size),af (aj w3.heap.size)]] 31)).drew=W4→W4.cell? (aj w.heap.size)=some (af (aj (E.A 26)))/\ak 176 #[af (aj (E.A 26)),.func (.func 177) #[] #[af (aj (w3.heap.size+1)),af (aj w.heap.size)]] W4 fun e w5=>e=ae (.tuple #[])/\Hid (Al w C E c ws N y 1 ⟨k,r,u,sz,w3.heap.size,w3.heap.size+1⟩ w5)):=bU (fun w3 R W4 h4=>by
  obtain⟨f4,b4⟩:=R.fr h4;have hl:=R.l;have A:=HA.out w3.heap.size (w3.heap.size+1) (by omega) (by omega);have Uw:=h.cA L b4;have a0:=fF.none L h b4;refine⟨f4.fb.b3.cell 0,(yu L Uw (by omega) (Nb (w:=w) L h JO f4.fb (av _) (by show w.heap.size<=w3.heap.size;omega) (by show w.heap.size<=w3.heap.size+1;omega))).mono ?_⟩;rintro e w5 ⟨rfl,Ux,t⟩;rw[hy] at t;exact⟨rfl,bU (Al.jP A f4 a0 (by rw[Int.add_zero];exact t))⟩)
 have Uy:Hid (∀ky kX w5,w.heap.size<=ky→w.heap.size<=kX→Al w C E c ws N y 1 ⟨k,r,u,sz,ky,kX⟩ w5→w5.cell? (aj kX)=some (.func (.func 175) #[] #[af (aj w.heap.size),af (aj ky)])/\ak 175 #[af (aj w.heap.size),af (aj ky)] w5 fun e w6=>∃b1,e=ae (.bool b1)/\Hid (b1=decide (y.v.used+(sz:Int)<=(C.fV:Int)))/\w6.cell? (aj w.heap.size)=some (af (aj (E.A 26)))/\Hid (Al w C E c ws N y 1 ⟨k,r,u,sz,ky,kX⟩ w6)):=bU (fun ky kX w5 l1 l2 a=>by
  obtain⟨f,Ux,t⟩:=id a;refine⟨f.fb.Jc.cell 0,(wu L t.hv JO f.fb).mono ?_⟩;rintro e w6 ⟨rfl,mm,rfl⟩;have a6:=a.cA (HA.out ky kX l1 l2) (jh (bV _ _) mm);exact⟨_,rfl,bU rfl,a6.1.fb.b3.cell 0,bU a6⟩)
 have Uz:Hid (∀m w6,Al w C E c ws N y 1 m w6→ak 178 #[af (aj (E.A 26))] w6 fun e w7=>∃b2,e=ae (.bool b2)/\Hid (b2=decide (0<ek y.v.es))/\w6=w7):=bU (fun m w6 a=>by
  obtain⟨f,LM,t⟩:=a;obtain⟨s,G,hp,rp,gn⟩:=t.hv;refine(kE hp).mono ?_;rintro e w7 ⟨rfl,rfl⟩;exact⟨_,rfl,bU (by rw[rp.es]),rfl⟩)
 have HM:Hid (∀ky kX w6 w7,w.heap.size<=ky→w.heap.size<=kX→Al w C E c ws N y 1 ⟨k,r,u,sz,ky,kX⟩ w6→Below w6.heap.size w6 w7→AF w C E c ws N y 2 w7):=bU (fun ky kX w6 w7 l1 l2 a hb=>a.fin (HA.out ky kX l1 l2) (by omega) hb);have UA:=bU (fun ky kX w6 (l1:w.heap.size<=ky) (l2:w.heap.size<=kX) (a:Al w C E c ws N y 1 ⟨k,r,u,sz,ky,kX⟩ w6) (e1:y.v.used+(sz:Int)<=(C.fV:Int)) e2=>Uu (HA.out ky kX l1 l2) a (by show y.v.used+((c.cl.getD k 0:Nat):Int)<=_;rw[hsz];exact e1) e2);have HL:=bU (fun w3 (R:Oh w w3 E c k r u sz)=>R.l);have hki:(k:Int)<(c.cl.length:Int):=by omega
 have E1:Hid ((C.fV:Int)<y.v.used+(sz:Int)→res=(y,Sn.told 100)):=bU (fun n1=>by rw[eA];simp only[];rw[if_pos (by omega)]);have E2:Hid (y.v.used+(sz:Int)<=(C.fV:Int)→ek y.v.es=0→res=(y,Sn.told 131)):=bU (fun n1 n2=>by rw[eA];simp only[];rw[if_neg (not_not_intro n1),if_pos (by omega)]);have E3:Hid (∀s,y.v.used+(sz:Int)<=(C.fV:Int)→0<ek y.v.es→lZ y.v.T (C.first k) (C.many k)=some s→res=(iO C (ia C (jI C y s k r u) s) (sz:Nat),{Sn.told 0 with h:=iC C y,addr:=(C.K.addr s:Nat)})):=bU (fun s n1 n2 n3=>by rw[eA];simp only[];rw[if_neg (not_not_intro n1),if_neg (not_not_intro n2),n3]);clear h L bH bS hB ha hb hf hn hru hft hk hsz HA JO hy eA hlW hN;generalize r+u+1=nw at *;go_enter func137,ntmps137;go_wp2_with (first
  | (refine wpList_load_row rfl _ _ rfl (w.heap.size+3) rfl 195 #[U 0,U q.a,U q.b] (0,0) _ bX underlying195 rfl uv ?_)
  | (go_at_call 157;(with_reducible refine dN.mono ?_);rintro e w1 ⟨rfl,hb⟩;obtain⟨⟨y0,y1⟩,dF⟩:=HF.out w1 hb;clear hb)
  | (go_at_call 174;(with_reducible refine dF.mono ?_);rintro e w2 ⟨rfl,z3,f3,w3,Sz,R⟩;clear y0 y1))
 clear z3 f3 Sz hW bX dN HF dF;obtain⟨y3,y0,yk,ys⟩:=HR.out w3 R.out
 go_cut [10] (fun UB wx=>UB=af (aj w3.heap.size)/\wx=(w3.alloc (.cells #[U sz] 3)).drew)
 case first=>
  go_region_held3 (fun w'=>w'.cell? (aj w.heap.size)=some (af (aj (E.A 26)))/\w'.cell? (aj (E.A 26))=some (ai (aj c.gc c.oc) c.cl.length c.cc)/\w'.cell? (aj (w.heap.size+3))=some (U k)/\w'.cell? (aj c.gc (c.oc+k))=some (U sz)) (first|exact⟨y3,y0,yk,ys⟩|go_keep) ((fail))
  all_goals
   go_wp2_with fail
   go_meet
   exact⟨rfl,rfl⟩
 case rest=>
 obtain⟨rfl,rfl⟩:=hcut;obtain⟨W4,Kg⟩:=al (((w3.alloc (.cells #[U sz] 3)).alloc (.cells #[.func (.func 175) #[] #[af (aj w.heap.size),af (aj w3.heap.size)]] 31)).drew);obtain⟨y4,dR⟩:=H4.out w3 R.out W4 Kg;clear y3 y0 yk ys HR;have hl:=HL.out w3 R.out;have l1:w.heap.size<=w3.heap.size:=by omega
 have l2:w.heap.size<=w3.heap.size+1:=by omega
 have KC:=bU l1;have KD:=bU l2;clear hl l1 l2 HL;go_wp2_with (first
  | (go_at_call 176;(with_reducible refine dR.mono ?_);rintro e w5 ⟨rfl,hA⟩;clear dR Kg;obtain⟨Wu,d11⟩:=Uy.out _ _ w5 KC.out KD.out hA.out)
  | (go_at_call 175;(with_reducible refine d11.mono ?_);rintro e w6 ⟨b1,rfl,e1,y3,Ef⟩;have d13:=Uz.out _ w6 Ef.out;cases b1))
 .go_wp2_with (first
   | (go_at_call 75;(with_reducible refine(HT.out _ _).mono ?_);rintro e w7 ⟨rfl,hb⟩;obtain⟨bz,hZ⟩:=HM.out _ _ w6 w7 KC.out KD.out Ef.out hb;clear hb)
   | (refine wpList_store_row rfl _ _ _ rfl (w.heap.size+2) (cX (Sn.told 100)) rfl rfl 38 eY bz cG rfl (eE _) ?_))
  refine bodyPost_ret (results_cell_row rfl _ _ (w.heap.size+2) 38 (cX (Sn.told 100)) (0,0) _ rfl (hZ.out _).1 underlying38 rfl cG) rfl ?_;have e1:=e1.out;have n1:¬(y.v.used+(sz:Int)<=(C.fV:Int)):=fun hc=>by rw[aw hc] at e1;cases e1
  rw[E1.out (by omega)];exact⟨rfl,(hZ.out _).2⟩
 .have f1:Hid (y.v.used+(sz:Int)<=(C.fV:Int)):=bU (of_decide_eq_true e1.out.symm)
  clear e1;go_wp2_with (go_at_call 178;(with_reducible refine d13.mono ?_);rintro e w7 ⟨b2,rfl,e2,rfl⟩;cases b2)
  .go_wp2_with (first
    | (go_at_call 75;(with_reducible refine(HT.out _ _).mono ?_);rintro e w7 ⟨rfl,hb⟩;obtain⟨bz,hZ⟩:=HM.out _ _ w6 w7 KC.out KD.out Ef.out hb;clear hb)
    | (refine wpList_store_row rfl _ _ _ rfl (w.heap.size+2) (cX (Sn.told 131)) rfl rfl 38 eY bz cG rfl (eE _) ?_))
   refine bodyPost_ret (results_cell_row rfl _ _ (w.heap.size+2) 38 (cX (Sn.told 131)) (0,0) _ rfl (hZ.out _).1 underlying38 rfl cG) rfl ?_;have e2:=e2.out;have n2:¬(0<ek y.v.es):=fun hc=>by rw[aw hc] at e2;cases e2
   rw[E2.out f1.out (by omega)];exact⟨rfl,(hZ.out _).2⟩
  .have f2:Hid (0<ek y.v.es):=bU (of_decide_eq_true e2.out.symm)
   clear e2;go_wp2_with fail;obtain⟨s,es,⟨z3,z7,zx⟩,dA,dT⟩:=UA.out _ _ w6 KC.out KD.out Ef.out f1.out f2.out;have hres:=bU (E3.out s f1.out f2.out es);clear es E1 E2 E3
   go_cut [12,13] (fun SF UC wx=>SF=U s/\UC=U 0/\Hid (SD w C E c ws N (iO C (ia C (jI C y s k r u) s) (sz:Nat)) (iC C y) s ⟨k,r,u,sz,w3.heap.size,w3.heap.size+1⟩ wx))
   case first=>
    go_region_held3 (fun w'=>w'.cell? (aj w.heap.size)=some (af (aj (E.A 26)))/\w'.cell? (aj (E.A 26) 7)=some (af (aj (E.A 25)))/\w'.cell? (aj (w.heap.size+3))=some (U k)) (first|exact⟨z3,z7,zx⟩|exact⟨x3,x7,xx⟩|go_keep)
     ((first|(go_at_call 77;refine dA.mono ?_;rintro e w8 ⟨rfl,rfl⟩)|(go_at_call 179;refine dT.mono ?_;rintro e w8 ⟨rfl,⟨x3,x7,xx⟩,hQ⟩)))
    all_goals
     go_wp2_with fail
     go_meet
     exact⟨rfl,rfl,hQ⟩
   case rest=>
   obtain⟨rfl,rfl,hQ⟩:=hcut;obtain⟨⟨y3,y7,yX⟩,dB,dM⟩:=hQ.out;clear z3 z7 zx dA dT;go_wp2_with fail;refine wp_region_still_tail 7 (by kernel_rfl) (by kernel_rfl) ?_;simp only[List.take_succ_cons,List.take_zero,List.drop_succ_cons,List.drop_zero]
   repeat (first|still_step|still_call dB|(refine o8 rfl _ _ rfl (w.heap.size+3) rfl 195 #[U k,U r,U u] (0,0) _ yX underlying195 rfl uv ?_))
   refine wpStill_nil ?_
   change wpList _ _ _ _ _ wc.drew
   clear y3 y7 yX dB;go_wp2_with (first
    | (go_at_call 181;(with_reducible refine dM.mono ?_);rintro e w8 ⟨rfl,SG⟩;obtain⟨⟨z3,z7⟩,dK⟩:=SG.out)
    | (go_at_call 182;(with_reducible refine dK.mono ?_);rintro e w9 ⟨rfl,SH⟩;clear z3 z7;obtain⟨z3,dI⟩:=SH.out)
    | (go_at_call 183;(with_reducible refine dI.mono ?_);rintro e Oi ⟨rfl,UD⟩;clear z3;obtain⟨⟨z3,zs⟩,dP⟩:=UD.out)
    | (go_at_call 184;(with_reducible refine dP.mono ?_);rintro e Wv ⟨rfl,UE⟩;clear z3 zs;obtain⟨⟨z3,z7⟩,dL,dD⟩:=UE.out)
    | (go_at_call 109;(with_reducible refine dL.mono ?_);rintro e Ng ⟨rfl,rfl⟩)
    | (go_at_call 110;(with_reducible refine dD.mono ?_);rintro e Ng ⟨rfl,bz,hZ⟩;clear z3 z7)
    | (refine wpList_store_row rfl _ _ _ rfl (w.heap.size+2) (cX {Sn.told 0 with h:=iC C y,addr:=(C.K.addr s:Nat)}) rfl rfl 38 eY bz cG rfl (eE _) ?_))
   refine bodyPost_ret (results_cell_row rfl _ _ (w.heap.size+2) 38 (cX {Sn.told 0 with h:=iC C y,addr:=(C.K.addr s:Nat)}) (0,0) _ rfl (hZ.out _).1 underlying38 rfl cG) rfl ?_;rw[hres.out];exact⟨rfl,(hZ.out _).2⟩
end Hp
namespace Bd
open Go.RowKit Go.bZ Go.Gc Sl Mm Hd
theorem O5{w wx w1:World}{B n:Nat}{e:TypeId}{v:Value}{xs:List Value}(hb:Below B w wx)(ho:wx.ownsRow B e 1 v n xs)(hg:wx.grownBy w1 v.ownBlock)(hB:B<=w.heap.size):Below B w w1:=
 hb.trans ⟨hg.os,hg.tape,hg.output,hg.size,fun k hk=>hg.block k (by have:=hb.size;omega) (fun e=>by have:=(ho.lt k e.symm).1;omega)⟩
def fy(c:Bc)(ws:List Int)(x v u:Nat):List Int:=(List.range u).map fun j=>at' c.bs c.tn ws (addrOf c.pw c.rs x+1+(v+j))
theorem ux(c:Bc)(ws:List Int)(x v u:Nat):fy c ws x v (u+1)=fy c ws x v u++[at' c.bs c.tn ws (addrOf c.pw c.rs x+1+(v+u))]:=by simp[fy,List.range_succ]
def qq(L:List Int)(w:World)(e:Ending)(w':World):Prop:=∃val,e=ae (.tuple #[val,U 0])/\w'.ownsRow w.heap.size 36 1 val L.length (L.map (Value.int .u64))/\Below w.heap.size w w'
set_option maxHeartbeats 1000000 in
theorem yf{w:World}{c:Bc}{ws:List Int}(h:Cx w c ws){x k v u:Nat}{r:Rec}{X:Nat}(o:Ob c ws x k v u r X):
  ak 250 #[U x,U v,U u,.func (.func 186) #[af (aj c.b)] #[]] w (qq (fy c ws x v u) w):=by
 have hf:=o.jU;have DW:Hid (∀W j,Below w.heap.size w W→j<u→ak 186 #[af (aj c.b),U x,U ((v:Int)+(j:Int))] W fun e w'=>e=ae (.tuple #[aa (at' c.bs c.tn ws (addrOf c.pw c.rs x+1+(v+j))),U 0])/\Below W.heap.size W w'):=bU (fun W j hW hj=>by
  have:=zv (h.cA hW) o (i:=v+j) (by omega) (by omega)
  rwa [aY] at this)
 obtain⟨i0,uN,iX,jm,nQ⟩:=info_parts Bt.qB;have HS:=bU (ux c ws x v);have HZ:Hid (fy c ws x v 0=[]):=bU rfl;have HLn:Hid (∀j,(fy c ws x v j).length=j):=bU (fun j=>by simp[fy]);have hR:=HLn.out u;obtain⟨gv,hgv⟩:∃gv:Nat→Int,gv=fun j=>at' c.bs c.tn ws (addrOf c.pw c.rs x+1+(v+j)):=⟨_,rfl⟩
 have UF:Hid (∀W j,Below w.heap.size w W→j<u→ak 186 #[af (aj c.b),U x,U ((v:Int)+(j:Int))] W fun e w'=>e=ae (.tuple #[aa (gv j),U 0])/\Below W.heap.size W w'):=by rw[hgv];exact DW
 have UG:Hid (∀j,fy c ws x v (j+1)=fy c ws x v j++[gv j]):=by rw[hgv];exact HS
 clear DW HS hgv;generalize fy c ws x v=wo at *;unfold qq;rw[hR];clear h o hR;generalize c.b=b at *;go_enter func250,ntmps250;go_wp2_with fail
 go_loopw [10,15] (fun out i wr=>∃j:Nat,j<=u/\i=U j/\Hid (wr.ownsRow w.heap.size 36 1 out j ((wo j).map (Value.int .u64)))/\Hid (Below w.heap.size w wr)) (fun _ i _=>u-(intOf i).toNat)
 case atStart=>exact⟨0,by omega,rfl,by rw[HZ.out];exact bU ⟨rfl,.inl ⟨rfl,rfl⟩⟩,bU (bV _ _)⟩
 case round=>
  obtain⟨j,hj,rfl,hO,hB⟩:=hrel;by_cases hlt:j<u
  .have d:=UF.out wr j hB.out hlt
   go_wp2_with (first|(go_at_call 186;(with_reducible refine d.mono ?_);rintro e w3 ⟨rfl,dJ⟩;have H3:=bU (bA (bT hB.out dJ hB.out.size) (av _) (.cells #[aa (gv j)] 36));have ow:Hid ((w3.alloc (.cells #[aa (gv j)] 36)).ownsRow w.heap.size 36 1 u10 j ((wo j).map (Value.int .u64))):=bU ((Gv hO.out dJ).alloc _);have MT:w.heap.size<=w3.heap.size:=aE hB.out.size dJ.size;clear dJ)|(at_builtin;refine wpList_append_own _ rfl _ _ 108 rfl w.heap.size 36 i0 (aa 0) 1 8 underlying108 uN iX jm nQ rfl (by decide) u10 j _ rfl ow.out ⟨w3.heap.size,0,none⟩ 1 1 [aa (gv j)] rfl rfl ?c1 ?c2 ?c3 ?c4 ?c5 ?_))
   case c1=>
    intro n u hn
    match n,hn with
    | 0,hn=>simp at hn;subst hn;simp only[Addr.add];exact eX w3 _ _ 0
   case c2=>intro u hu;simp at hu;subst hu;rfl
   case c3=>unfold maxLen;omega
   case c4=>omega
   case c5=>simp;omega
   intro v' w1 fN hgrow _;have kM:=bU (O5 H3.out ow.out hgrow (av _));have O6:Hid (w1.ownsRow w.heap.size 36 1 v' (j+1) ((wo (j+1)).map (Value.int .u64))):=bU (by rw[UG.out,List.map_append];exact fN);clear fN hgrow;go_wp2_with fail
   go_roundw
   case rel=>exact⟨j+1,by omega,by go_num,O6,kM⟩
   case measure=>simp[intOf];omega
  .obtain rfl:j=u:=by omega
   go_wp2_with fail
   go_ret2
   exact⟨_,rfl,hO.out,hB.out⟩
end Bd
namespace Mm
open Go.RowKit Go.bZ
theorem rO{w:World}{mp mw mb cap:Nat}{bs:List Nat}{ws:List Int}(h:fI w mp mw mb cap bs ws)(t:Nat)(ht:t+1<bs.length):
  ak 92 #[af (aj mp),U t] w fun e w'=>(∃g cap,e=ae (.tuple #[ai (aj g) (bs.getD (t+1) 0-bs.getD t 0) cap,U 0]))/\Below w.heap.size w w':=by
 obtain⟨W,hW⟩:=al (((w.alloc (.cells #[af (aj mp)] 75)).alloc (.cells #[U t] 3)).alloc (.cells #[ai none 0 0] 108));have s:W.heap.size=w.heap.size+1+1+1:=by rw[←hW];simp
 have dj:Below w.heap.size w W:=by rw[←hW];exact(((bV _ w).alloc (av _) _).alloc (by simp) _).alloc (by simp;omega) _
 have B0:cj W w.heap.size #[af (aj mp)] 75:=by rw[←hW];exact((cj.new w _ _).alloc _).alloc _
 have B1:cj W (w.heap.size+1) #[U t] 3:=by rw[←hW];exact(by have:=cj.new (w.alloc (.cells #[af (aj mp)] 75)) #[U t] 3;rw[World.size_alloc] at this;exact this.alloc _)
 have B3:cj W (w.heap.size+1+1) #[ai none 0 0] 108:=by rw[←hW];exact(by have:=cj.new ((w.alloc (.cells #[af (aj mp)] 75)).alloc (.cells #[U t] 3)) #[ai none 0 0] 108;rw[World.size_alloc,World.size_alloc] at this;exact this)
 have hbo:=(bV W.heap.size W).alloc (av _) (.cells #[U 0] 33);have don:=tU 115 #[af (aj w.heap.size),af (aj (w.heap.size+1)),af (aj (w.heap.size+1+1))] W (fun w'=>(∃g cap,cj w' (w.heap.size+1+1) #[ai (aj g) (bs.getD (t+1) 0-bs.getD t 0) cap] 108)/\Below w.heap.size w w')
  ((yg ((h.cA dj).cA hbo) w.heap.size (w.heap.size+1) (w.heap.size+1+1) t ht ((B0.cA hbo).cell 0) ((B1.cA hbo).cell 0) (B3.cA hbo)).mono (by
   rintro e w' ⟨rfl,hb,hc⟩;refine⟨rfl,⟨hb,(dj.trans (hbo.mono dj.size)).trans (hc.below (by simp;omega) (fun k hk=>by have hk:k=w.heap.size+1+1:=hk;omega))⟩,hc.mono (fun k _ hk=>by have hk:k=w.heap.size+1+1:=hk;show k≠W.heap.size;omega)⟩)) (fun _ _=>by kernel_rfl)
 have HD:Hid (∀w2,((∃g cap,cj w2 (w.heap.size+1+1) #[ai (aj g) (bs.getD (t+1) 0-bs.getD t 0) cap] 108)/\Below w.heap.size w w2)→(∃g cap,cj (w2.setCell (aj W.heap.size) (U 0)) (w.heap.size+1+1) #[ai (aj g) (bs.getD (t+1) 0-bs.getD t 0) cap] 108)/\Below w.heap.size w (w2.setCell (aj W.heap.size) (U 0))):=bU (fun w2 ⟨⟨g,cap,p1⟩,p2⟩=>⟨⟨g,cap,p1.other (by omega) 0 _⟩,p2.setCell (by show w.heap.size<=W.heap.size;omega) _⟩);clear h dj B0 B1 B3 hbo;rw[s] at don HD;clear s;subst hW;generalize bs.getD (t+1) 0-bs.getD t 0=n at *;go_enter func92,ntmps92;go_wp2_with (go_at_call 114;refine don.mono ?_;rintro e w3 ⟨rfl,w2,hq,rfl⟩;obtain⟨⟨g,cap,p1⟩,p2⟩:=HD.out w2 hq;have k0:(w2.setCell (aj (w.heap.size+1+1+1)) (U 0)).cell? (aj (w.heap.size+1+1))=some (ai (aj g) n cap):=p1.cell 0;have f0:=p1.cE 0;have HP:=bU p2;clear p1 p2)
 refine bodyPost_ret (v:=.tuple #[ai (aj g) n cap,U 0]) (by simp[results,Tryz.results92,go_sem,k0]) rfl ?_;exact⟨⟨g,cap,rfl⟩,HP.out.setCell (by show w.heap.size<=w.heap.size+1+1;omega) _⟩
end Mm
namespace Bd
open Go.RowKit Go.bZ Go.Gc Sl Mm Hd
theorem rO{w:World}{c:Bc}{ws:List Int}(h:Cx w c ws){x k v u:Nat}{r:Rec}{X:Nat}(o:Ob c ws x k v u r X):
  ak 196 #[af (aj c.b),U x] w (qq (fy c ws x v u) w):=by
 have dh:=mJ h o;have DA:Hid (∀W,Below w.heap.size w W→ak 250 #[U x,U v,U u,.func (.func 186) #[af (aj c.b)] #[]] W (qq (fy c ws x v u) W)):=bU (fun W hW=>yf (h.cA hW) o);generalize fy c ws x v u=L at *;clear h o;generalize c.b=b at *;go_enter func196,ntmps196;go_wp2_with (first|(go_at_call 97;(with_reducible refine dh.mono ?_);rintro e w2 ⟨rfl,cN⟩;have H2:Hid (Below w.heap.size w (w2.alloc (.cells #[U k,U v,U u] 195))):=bU (bA cN (av _) _);clear cN)|(go_at_call 250;refine(DA.out _ H2.out).mono ?_;rintro e w3 ⟨val,rfl,ho,dJ⟩;have H3:=bU (bT H2.out dJ H2.out.size);have HO:=bU ho;clear ho dJ))
 go_ret2
 refine⟨val,rfl,?_,H3.out⟩;obtain⟨hl,h|⟨g,cap,cur,h1,h2,h3,h4⟩⟩:=HO.out
 .exact⟨hl,.inl h⟩
 .exact⟨hl,.inr ⟨g,cap,cur,h1,aE H2.out.size h2,h3,h4⟩⟩
theorem fQ{w:World}{mp tn p g cap:Nat}{rs:List Rec}{n pg pw mw mb cO:Nat}{bs:List Nat}{ws:List Int}(hm:fI w mp mw mb cO bs ws)(hp:ff w p g cap rs n pg pw)(ht:tn+1<bs.length)(hr:bs.getD (tn+1) 0=bs.getD tn 0+pg*pw)(hn:0<n):
  ak 64 #[af (aj mp),U tn,af (aj p)] w fun e w'=>∃b,e=ae (.tuple #[af (aj b),U 0])/\xO w' b mp tn p/\Below w.heap.size w w'/\w.heap.size<=b:=by
 have dw:=Mm.rO hm tn ht;have DS:Hid (∀W,Below w.heap.size w W→(ak 68 #[af (aj p)] W fun e w'=>e=ae (U n)/\W=w')/\(ak 93 #[af (aj p)] W fun e w'=>e=ae (U ((pg*pw:Nat):Int))/\cu (fun _=>False) W w')):=bU (fun W hW=>⟨ik (hp.cA hW),A8 (hp.cA hW)⟩);have hsm:=hp.small;have e0:bs.getD (tn+1) 0-bs.getD tn 0=pg*pw:=by omega
 rw[e0] at dw;have e1:((n:Int)==0)=false:=by rw[aA];omega
 clear hm hp e0 hr;generalize pg*pw=z at *;go_enter func64,ntmps64;go_wp2_with (first|(go_at_call 92;(with_reducible refine dw.mono ?_);rintro e w2 ⟨⟨g2,mR,rfl⟩,cN⟩;obtain⟨ds,dz⟩:=DS.out w2 cN;have H2:=bU cN;clear cN)|(go_at_call 68;(with_reducible refine ds.mono ?_);rintro e w3 ⟨rfl,rfl⟩)|(go_at_call 93;(with_reducible refine dz.mono ?_);rintro e w4 ⟨rfl,NZ⟩;have H4:Hid (Below w.heap.size w w4):=bU (H2.out.trans (NZ.below H2.out.size (fun _ h=>h.elim)));clear NZ))
 go_ret2
 exact⟨_,rfl,cj.new w4 _ _,bA H4.out (av _) _,H4.out.size⟩
end Bd
end Go.Proofs.YtgblmelijlgimaaGreatDoor
namespace gK
open Ieee
def E(N d:Nat):Nat:=N/2^d+if 2^d<2*(N%2^d)\/(2^d=2*(N%2^d)/\N/2^d%2=1) then 1 else 0
theorem two_pow_pos(d:Nat):0<2^d:=Nat.two_pow_pos d
theorem wy(N d:Nat)(h:d<=N.log2+2)(neg:Bool):Toward.even.cut neg N d=E N d:=by
 unfold Toward.cut E;simp only[Nat.min_eq_left h,Nat.one_shiftLeft]
 congr 1
 by_cases h1:2^d<2*(N%2^d)
 .simp[h1]
 .by_cases h2:2^d=2*(N%2^d)/\N/2^d%2=1
  .rw[if_pos (.inr h2)]
   obtain⟨a,b⟩:=h2;simp[←a,b]
  .rw[if_neg (by rintro (h|h);exact h1 h;exact h2 h)]
   have:(2^d==2*(N%2^d)&&N/2^d%2==1)=false:=by
    rw[Bool.eq_false_iff];intro hb;rw[Bool.and_eq_true,beq_iff_eq,beq_iff_eq] at hb;exact h2 hb
   simp[h1,this]
theorem Nh(N:Nat):E N 0=N:=by unfold E;simp[Nat.mod_one]
theorem KE(q d:Nat):E (q*2^d) d=q:=by
 have:=two_pow_pos d;unfold E;rw[Nat.mul_div_cancel _ this,Nat.mul_mod_left];simp
theorem KF(m k d:Nat)(h:k<=d):E (m*2^k) d=E m (d-k):=by
 obtain⟨j,rfl⟩:∃j,d=j+k:=⟨d-k,by omega⟩;rw[Nat.add_sub_cancel];have hk:=two_pow_pos k;have e1:m*2^k/2^(j+k)=m/2^j:=by rw[Nat.pow_add];exact Nat.mul_div_mul_right _ _ hk
 have e2:m*2^k%2^(j+k)=m%2^j*2^k:=by rw[Nat.pow_add];exact Nat.mul_mod_mul_right _ _ _
 unfold E;rw[e1,e2]
 congr 1
 have c1:(2^(j+k)<2*(m%2^j*2^k))↔2^j<2*(m%2^j):=by
  rw[Nat.pow_add,←Nat.mul_assoc];exact Nat.mul_lt_mul_right hk
 have c2:(2^(j+k)=2*(m%2^j*2^k))↔2^j=2*(m%2^j):=by
  rw[Nat.pow_add,←Nat.mul_assoc];exact Nat.mul_left_inj (by omega)
 simp only[c1,c2]
theorem O7(m k d:Nat)(h:d<=k):E (m*2^k) d=m*2^(k-d):=by
 obtain⟨j,rfl⟩:∃j,k=j+d:=⟨k-d,by omega⟩;rw[Nat.add_sub_cancel,Nat.pow_add,←Nat.mul_assoc,KE]
theorem yB(m k:Nat)(h:m≠0):(m*2^k).log2=m.log2+k:=by
 have hm:=Nat.log2_self_le h;have QK:=@Nat.lt_log2_self m;have hk:=two_pow_pos k;rw[Nat.log2_eq_iff (by have:=Nat.mul_pos (Nat.pos_of_ne_zero h) hk;omega)];constructor
 .rw[Nat.pow_add];exact Nat.mul_le_mul_right _ hm
 .rw[show m.log2+k+1=(m.log2+1)+k from by omega,Nat.pow_add];exact Nat.mul_lt_mul_of_pos_right QK hk
def R(N:Nat):Nat:=(N.log2-52)*2^52+E N (N.log2-52)
theorem Ni:R 0=0:=by decide
theorem yD(neg:Bool)(rP k:Nat):double.nearest neg rP (-1074+(k:Int))=double.word neg (min (R (rP*2^k)) double.infRung):=by
 by_cases h:rP=0
 .subst h
  rw[Nat.zero_mul,Ni];simp[Format.nearest]
 .unfold Format.nearest
  rw[if_neg h];have hl:double.leastPlace= -1074:=rfl;have hf:(double.fractionBits:Int)=52:=rfl;have hb:double.binade=2^52:=rfl;simp only[hl,hf,hb,Nat.shiftLeft_eq];refine congrArg (fun t=>double.word neg (min t double.infRung)) ?_;unfold R;rw[yB _ _ h];have hlast:max (-1074+(k:Int)+(rP.log2:Int)-52) (-1074)= -1074+((rP.log2+k-52:Nat):Int):=by omega
  rw[hlast];generalize hL:rP.log2+k-52=L;have e1:((-1074+(L:Int))-(-1074)).toNat=L:=by omega
  have e2:(-1074+(k:Int)-(-1074+(L:Int))).toNat=k-L:=by omega
  have e3:((-1074+(L:Int))-(-1074+(k:Int))).toNat=L-k:=by omega
  rw[e1,e2,e3]
  congr 1
  rcases Nat.le_total L k with hle|hle
  .rw[show L-k=0 from by omega,wy _ _ (by omega),Nh,O7 _ _ _ hle]
  .rw[show k-L=0 from by omega,Nat.pow_zero,Nat.mul_one,wy _ _ (by omega),KF _ _ _ hle]
def rP(r:Nat):Nat:=if r<2^52 then r else 2^52+r%2^52
def up(r:Nat):Nat:=if r<2^52 then 0 else r/2^52-1
def V(r:Nat):Nat:=rP r*2^up r
def inf:Nat:=2047*2^52
theorem kY:double.infRung=inf:=rfl
def cW(w:Nat):Nat:=w%2^63
def o9(w:Nat):Bool:=w/2^63%2==1
def sv(w:Nat):Int:=if o9 w then-(V (cW w):Int) else(V (cW w):Int)
def word(neg:Bool)(r:Nat):Nat:=if neg then 2^63+r else r
theorem KG(neg:Bool)(r:Nat):double.word neg r=word neg r:=rfl
theorem Db(neg:Bool){r:Nat}(h:r<2^63):cW (word neg r)=r:=by unfold cW word;split <;> omega
theorem word_lt(neg:Bool){r:Nat}(h:r<2^63):word neg r<2^64:=by unfold word;split <;> omega
theorem kJ{w:Nat}(h:cW w<inf):double.read w=.number (o9 w) (rP (cW w)) (-1074+(up (cW w):Int)):=by
 unfold Format.read;have e1:double.signWeight=2^63:=rfl;have e2:double.binade=2^52:=rfl;have e3:double.leastPlace= -1074:=rfl;simp only[e1,e2,e3,kY];show(if cW w<2^52 then _ else if cW w<inf then _ else _)=_;unfold rP up;by_cases h1:cW w<2^52
 .rw[if_pos h1,if_pos h1,if_pos h1];rfl
 .rw[if_neg h1,if_neg h1,if_neg h1,if_pos h];rfl
theorem kK{w:Nat}(h:cW w=inf):double.read w=.infinity (o9 w):=by
 unfold Format.read;have e1:double.signWeight=2^63:=rfl;have e2:double.binade=2^52:=rfl;simp only[e1,e2,kY];show(if cW w<2^52 then _ else if cW w<inf then _ else if cW w=inf then _ else _)=_;rw[if_neg (by rw[h];decide),if_neg (by omega),if_pos h];rfl
theorem rQ{w:Nat}(h:inf<cW w):double.read w=.nan (o9 w) (cW w-inf):=by
 unfold Format.read;have e1:double.signWeight=2^63:=rfl;have e2:double.binade=2^52:=rfl;simp only[e1,e2,kY];show(if cW w<2^52 then _ else if cW w<inf then _ else if cW w=inf then _ else _)=_;rw[if_neg (by unfold inf at h;omega),if_neg (by omega),if_neg (by omega)];rfl
theorem pa(neg:Bool)(m k:Nat):signed neg m k=if neg then-((m*2^k:Nat):Int) else((m*2^k:Nat):Int):=by
 unfold signed;rw[Nat.shiftLeft_eq]
theorem jQ(neg:Bool)(m a b:Nat):signed neg m (a+b)=signed neg m a*((2^b:Nat):Int):=by
 rw[pa,pa,Nat.pow_add,←Nat.mul_assoc]
 cases neg
 .simp
 .simp[Int.neg_mul]
theorem mP(w:Nat):sv w=signed (o9 w) (rP (cW w)) (up (cW w)):=by rw[pa];rfl
def O8(neg:Bool)(T:Int):Nat:=word (if T=0 then neg else decide (T<0)) (min (R T.natAbs) inf)
theorem Ah(a b:Nat):(-1074+(a:Int)-min (-1074+(a:Int)) (-1074+(b:Int))).toNat=a-min a b:=by omega
theorem wz(a b:Nat):(-1074+(b:Int)-min (-1074+(a:Int)) (-1074+(b:Int))).toNat=b-min a b:=by omega
theorem KH{x y:Nat}(hx:cW x<inf)(hy:cW y<inf):double.add x y=some (O8 (o9 x&&o9 y) (sv x+sv y)):=by
 unfold Format.add;rw[kJ hx,kJ hy];simp only[Datum.sum,Option.map_some,Ah,wz];rw[mP,mP];generalize hm:min (up (cW x)) (up (cW y))=m;have hmi:min (-1074+(up (cW x):Int)) (-1074+(up (cW y):Int))= -1074+(m:Int):=by omega
 have ea:up (cW x)=(up (cW x)-m)+m:=by omega
 have eb:up (cW y)=(up (cW y)-m)+m:=by omega
 have hs:signed (o9 x) (rP (cW x)) (up (cW x))+signed (o9 y) (rP (cW y)) (up (cW y))=
   (signed (o9 x) (rP (cW x)) (up (cW x)-m)+signed (o9 y) (rP (cW y)) (up (cW y)-m))*((2^m:Nat):Int):=by
  rw[Int.add_mul,←jQ,←jQ,←ea,←eb]
 rw[hs,hmi];generalize signed (o9 x) (rP (cW x)) (up (cW x)-m)+signed (o9 y) (rP (cW y)) (up (cW y)-m)=T;have hp:(0:Int)<((2^m:Nat):Int):=by have:=two_pow_pos m;omega
 unfold Format.write O8;simp only;rw[yD,Int.natAbs_mul,Int.natAbs_natCast,KG,kY];have h0:(T*((2^m:Nat):Int)=0)↔T=0:=by
  constructor
  .intro h
   rcases Int.mul_eq_zero.1 h with h|h
   .exact h
   .omega
  .intro h;rw[h,Int.zero_mul]
 have h1:(T*((2^m:Nat):Int)<0)↔T<0:=by
  constructor
  .intro h
   rcases Int.lt_or_le T 0 with h'|h'
   .exact h'
   .have:=Int.mul_nonneg h' (Int.le_of_lt hp);omega
  .intro h;exact Int.mul_neg_of_neg_of_pos h hp
 simp only[h0,h1]
theorem Dc{x y:Nat}(hx:cW x<inf)(hy:cW y<inf):double.order x y=some (compare (sv x) (sv y)):=by
 unfold Format.order;rw[kJ hx,kJ hy];simp only[Datum.order,Ah,wz];rw[mP,mP];generalize hm:min (up (cW x)) (up (cW y))=m;have ea:up (cW x)=(up (cW x)-m)+m:=by omega
 have eb:up (cW y)=(up (cW y)-m)+m:=by omega
 have h1:signed (o9 x) (rP (cW x)) (up (cW x))=signed (o9 x) (rP (cW x)) (up (cW x)-m)*((2^m:Nat):Int):=by rw[←jQ,←ea]
 have h2:signed (o9 y) (rP (cW y)) (up (cW y))=signed (o9 y) (rP (cW y)) (up (cW y)-m)*((2^m:Nat):Int):=by rw[←jQ,←eb]
 rw[h1,h2];generalize signed (o9 x) (rP (cW x)) (up (cW x)-m)=a;generalize signed (o9 y) (rP (cW y)) (up (cW y)-m)=b;have hp:(0:Int)<((2^m:Nat):Int):=by have:=two_pow_pos m;omega
 congr 1
 simp only[compare,compareOfLessAndEq];have c1:(a*((2^m:Nat):Int)<b*((2^m:Nat):Int))↔a<b:=Int.mul_lt_mul_right hp;have c2:(a*((2^m:Nat):Int)=b*((2^m:Nat):Int))↔a=b:=Int.mul_eq_mul_right_iff (by omega);simp only[c1,c2]
def isNaN(w:Nat):Bool:=decide (inf<cW w)
theorem kZ(w:Nat):cW w<inf\/cW w=inf\/inf<cW w:=by omega
theorem pH{x:Nat}(y:Nat)(h:inf<cW x):double.order x y=none:=by
 unfold Format.order;rw[rQ h];rfl
theorem sC{x y:Nat}(hx:cW x=inf)(hy:cW y=inf):double.order x y=some (compare (o9 y).toNat (o9 x).toNat):=by
 unfold Format.order;rw[kK hx,kK hy];rfl
theorem tB{x:Nat}(y:Nat)(h:inf<cW x):double.add x y=none:=by
 unfold Format.add;rw[rQ h];rfl
theorem tC(x:Nat){y:Nat}(h:inf<cW y):double.add x y=none:=by
 unfold Format.add;rw[rQ h];cases double.read x <;> rfl
theorem wD{x y:Nat}(hx:cW x=inf)(hy:cW y=inf):double.add x y=if o9 x=o9 y then some (word (o9 x) inf) else none:=by
 unfold Format.add;rw[kK hx,kK hy];simp only[Datum.sum]
 split <;> rfl
theorem wE{x y:Nat}(hx:cW x=inf)(hy:cW y<inf):double.add x y=some (word (o9 x) inf):=by
 unfold Format.add;rw[kK hx,kJ hy];rfl
theorem wG{x y:Nat}(hx:cW x<inf)(hy:cW y=inf):double.add x y=some (word (o9 y) inf):=by
 unfold Format.add;rw[kJ hx,kK hy];rfl
theorem Nj(a b:Int):(some (compare a b)==some Ordering.eq)=decide (a=b):=by
 simp only[compare,compareOfLessAndEq];by_cases h1:a<b
 .simp[h1,Int.ne_of_lt h1]
 .by_cases h2:a=b
  .simp[h2]
  .simp[h1,h2]
theorem KI(w:Nat):(double.order w w==some .eq)= !isNaN w:=by
 unfold isNaN;rcases kZ w with h|h|h
 .rw[Dc h h,Nj];simp;omega
 .rw[sC h h];cases o9 w <;> simp[h] <;> decide
 .rw[pH _ h];simp[h]
theorem Nk{x:Nat}(y:Nat)(h:inf<cW x):(double.order x y != some .eq)=true:=by rw[pH _ h];rfl
end gK
namespace gK
open Ieee
end gK
namespace gK
open Ieee
structure Left(M j s:Nat):Prop where
 pos:M≠0
 Ww:j<=52
 low:j=0\/M*2^j<2^53
 lo:2^52<=M*2^j
 hi:M*2^j/2^s<2^53
 up:s=0\/2^53<=M*2^j/2^(s-1)
end gK
