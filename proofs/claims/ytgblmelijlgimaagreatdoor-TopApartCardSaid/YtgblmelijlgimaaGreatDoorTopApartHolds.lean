/- 'commonagetop.TopApart' returns true, whatever the input, and the input reads as it did; the variables deBruijn64tab and widths read as the program's text lays them: the row and its tied card. -/
import Derived.Test.YtgblmelijlgimaaGreatDoorZTopBX
import Derived.Test.YtgblmelijlgimaaGreatDoorCards
import Derived.Test.YtgblmelijlgimaaGreatDoorTie
set_option maxRecDepth 100000
namespace Go.Proofs.YtgblmelijlgimaaGreatDoor
open Go.Proofs.Tryz
namespace Op
open Go.ChangeShapes Go.WideShapes Go.ChangeAt Go.RowKit Go.bZ Rf Lw
theorem lifted(os:Os)(started:os.Started)(H:Type)(enc:TypeId×Value→H):
  ReturnsInHanded {} Tryz.checked os 3 .any (fun w args=>(Rows.topApartSpec.pre enc prog Tryz.f3 [] false w args/\laidMetH prog vs w)/\sizedMet enc prog Tryz.f3 (OpenSpec.ofChange Rows.topApartSpec) false w args)
   (Rows.topApartSpec.post enc prog Tryz.f3 false true false false):=by
 refine returnsInHanded_of_change_and (C:=Tryz.checked) (X:=fun w _=>laidMetH prog vs w) (fun _ _ _ hh h=>h.of_heap hh) own started (by kernel_rfl) func3
  (ChangeSpec.witness_shaped (enc:=enc) (C:=Tryz.checked) (os:=os) (X:=fun w _=>laidMetH prog vs w) false (World.doorLaid prog 400 os) #[.agg #[ai none 0 0,U 0,ai none 0 0,U 0,U 0,U 0],.agg #[ai none 0 0,ai none 0 0,ab 0,ai none 0 0]] 8 rfl (World.shaped_of_RefB (by kernel_rfl) (by kernel_rfl)) (by kernel_rfl) (by kernel_rfl) (by kernel_rfl) (IK os _)) ?_
 intro W base args ds gs before L5 hW _ _ hL _;have hval:∀(j:Nat) t v,Tryz.f3.params[j]?=some t→args[j]?=some v→Value.okWide prog W .any base t v:=L5;have PY:=hW;obtain⟨p,q,ND,hV,rfl,hfz,hnd⟩:=hW;have hA:DataW.TrodAll enc prog W 0 (fun _=>true) true Tryz.f3.params.toList args.toList ds p:=ND;rw[Tryz.params3] at hA hval;obtain⟨v0,WV,d0,WW,p0,q0,hargs,rfl,rfl,h0,r0⟩:=trodAll_cons hA;obtain⟨v1,WX,d1,WY,p1,q1,rfl,rfl,rfl,h1,r1⟩:=trodAll_cons r0;obtain⟨rfl,rfl,rfl⟩:=trodAll_nil r1;obtain rfl:args=#[v0,v1]:=by cases args;simp_all
 obtain⟨rfl,rfl⟩:=trodVars_none hV;have k0:=h0;have k1:=h1;have Wc:∀x∈p0,x.block<W.heap.size:=by obtain⟨m,hm⟩:=k0;exact DataW.trod_lt m _ _ _ hm
 have Wd:∀x∈p1,x.block<W.heap.size:=by obtain⟨m,hm⟩:=k1;exact DataW.trod_lt m _ _ _ hm
 obtain⟨g,rfl,hg⟩:=NW (hval 0 25 v0 rfl rfl) h0;obtain⟨AL,nL,cL,fL,AM,nM,cM,fM,T,AT,nT,cT,fT,rfl,s1,s2,b2,hT,b3,hb,h3⟩:=NX (hval 1 29 v1 rfl rfl) h1;obtain⟨gw,de,d2⟩:=Lt hL;clear ND L5;refine(Lr (p:=⟨g,AL,nL,cL,fL,AM,nM,cM,fM,T,AT,nT,cT,fT⟩) ⟨hg,s1,s2,b2,h3,b3,hb,hT,gw,de,d2⟩).mono fun e W' ⟨he,bel⟩=>?_
 subst he;exact⟨_,rfl,_,_,_,[],_,[],PY,trodAll_mk1 (shut_bool underlying4 _),
  (trodAll_cons_mk (Below.trod laidOut (by kernel_rfl) (of_decide_eq_true (by kernel_rfl)) k0 bel Wc) (trodAll_cons_mk (Below.trod laidOut (by kernel_rfl) (of_decide_eq_true (by kernel_rfl)) k1 bel Wd) trodAll_mk0)),rfl,bel.frame _,fun h=>by cases h⟩
theorem over:Rows.topApartRow.holds Tryz.pinned (OpenSpec.ofChange Rows.topApartSpec):=
 OpenClaim.holds_of_wide 3 Tryz.f3 rfl rfl rfl rfl rfl rfl rfl ⟨rfl,rfl,rfl,rfl,rfl⟩ rfl rfl rfl rfl rfl (by kernel_rfl) func3 (by kernel_rfl)
  (of_decide_eq_true (by kernel_rfl)) (by unfold Func.isWrapper;first|(rw[if_pos (by decide+kernel)];kernel_rfl)|(rw[if_neg (by decide+kernel)];exact⟨rfl,rfl⟩))
  (fun os started H enc _=>lifted os started H enc)
end Op
theorem topApart_holds:Rows.TopApartSaid:=Op.over
theorem topApart_card_holds:Rows.TopApartCardSaid:=
 Claim7.holds_tied_plain_at .later [] [.data,.data] true (true, "909e9aaa753dda353a2fc2bccfb4f6aafda8402c3dacf1b70d04fc9c5922899f") true
  topApart_holds (fun _ h=>by cases h) (by kernel_rfl) (fun _ h=>by cases h) topApart_row_tie rfl ⟨rfl,rfl⟩ (by kernel_rfl) rfl
  (fun f fn hf hfn=>by
   obtain rfl:f=3:=Option.some.inj ((show prog.funcNamed "commonage/commonagetop.TopApart"=some 3 by kernel_rfl).symm.trans hf) |>.symm;obtain rfl:fn=Tryz.f3:=(Option.some.inj (func3.symm.trans hfn)).symm;exact⟨by kernel_rfl,fun j t ht=>by
    rw[Tryz.params3] at ht;have hm:t∈[25,29]:=by simpa using Array.mem_of_getElem? ht
    have hall:([25,29].all fun u=> !prog.wantsStandIn u)=true:=by kernel_rfl
    exact(show prog.wantsStandIn t=false by simpa using bg.1 hall t hm)⟩)
  (by kernel_rfl)
end Go.Proofs.YtgblmelijlgimaaGreatDoor
