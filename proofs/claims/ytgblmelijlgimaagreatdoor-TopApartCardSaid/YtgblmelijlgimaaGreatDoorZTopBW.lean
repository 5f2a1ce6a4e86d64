/- Parts of the proof of TopApart. -/
import Derived.Test.YtgblmelijlgimaaGreatDoorZTopBV
set_option maxRecDepth 100000
namespace Go.Proofs.YtgblmelijlgimaaGreatDoor
open Go.Proofs.Tryz
namespace Rf
open Go.RowKit Go.bZ Go.Cf Cn Fm
theorem oK{α:Type}(f:Nat→α)(d:α){n i:Nat}(h:i<n):((List.range n).map f).getD i d=f i:=by
 rw[ao,aR,List.getElem?_range h];rfl
theorem ID{w:World}{g:lI}(h:jw w g)(k:C6 g):∃c:cF,Ok c/\gN w c/\(Value.agg #[.slice g.ac g.lc g.cc,U g.cB,.slice g.ad g.lt g.ct,U g.wk,U g.gy,U g.gn]=cF.val c)/\c.ts.length=g.lt/\c.ts.length<=c.ct:=by
 obtain⟨k1,⟨k2,k3⟩,⟨k4,k5⟩,⟨k6,k7⟩,⟨k8,k9⟩,⟨WO,WQ⟩,Td⟩:=id k;obtain⟨bc,oc,ea,-,hc⟩:=h.c k1.1;obtain⟨bt,ot,ed,-,ht⟩:=h.t (by omega);have lc:((List.range g.lc).map (fun i=>(g.cl i).toNat)).length=g.lc:=by simp
 have lt:((List.range g.lt).map (fun i=>(⟨(g.q i).toNat,(g.tr i).toNat,(g.ca i).toNat,(g.sa i).toNat⟩:zm))).length=g.lt:=by simp
 have mc:∀x∈(List.range g.lc).map (fun i=>(g.cl i).toNat),2<=x/\x<=64:=fun x hx=>by
  obtain⟨i,hi,rfl⟩:=List.mem_map.1 hx;have:=k1.2.2 i (List.mem_range.1 hi);omega
 have gr:((List.range g.lc).map (fun i=>(g.cl i).toNat)).getD (((List.range g.lc).map (fun i=>(g.cl i).toNat)).length-1) 0=g.gr.toNat:=by
  rw[lc,oK _ _ (by have:=k1.1;omega)]
  rfl
 have g0:2<=g.gr:=(k1.2.2 (g.lc-1) (by have:=k1.1;omega)).1;have mt:∀x∈(List.range g.lt).map (fun i=>(⟨(g.q i).toNat,(g.tr i).toNat,(g.ca i).toNat,(g.sa i).toNat⟩:zm)),g.gr.toNat<=x.q/\x.q<=4096/\1<=x.tr/\x.tr<=1048576/\1<=x.ca/\x.ca<=1024/\x.zas<=1024:=fun x hx=>by
  obtain⟨i,hi,rfl⟩:=List.mem_map.1 hx;obtain⟨⟨a1,a2⟩,⟨a3,a4⟩,⟨a5,a6⟩,a7,a8⟩:=Td i (List.mem_range.1 hi);simp only;omega
 refine⟨⟨bc,oc,g.cc,bt,ot,g.ct,(List.range g.lc).map (fun i=>(g.cl i).toNat),g.cB.toNat,(List.range g.lt).map (fun i=>⟨(g.q i).toNat,(g.tr i).toNat,(g.ca i).toNat,(g.sa i).toNat⟩),g.wk.toNat,g.gy.toNat,g.gn.toNat⟩,?_,⟨fun i hi=>?_,fun t hl=>?_⟩,?_,lt,by rw[lt];exact h.c1⟩
 .refine⟨by rw[lc];exact k1.1,by rw[lc];exact k1.2.1,fun x hx=>(mc x hx).1,fun x hx=>(mc x hx).2,fun i hi=>?_,?_,by show g.cB.toNat<=64;omega,by rw[lt];omega,by rw[lt];omega,by show g.wk.toNat<=8;omega,by show 1<=g.gy.toNat;omega,by show g.gy.toNat<=64;omega,by show 1<=g.gn.toNat;omega,by show g.gn.toNat<=2147483648;omega,fun x hx=>?_,fun x hx=>(mt x hx).2.1,fun x hx=>(mt x hx).2.2.1,fun x hx=>(mt x hx).2.2.2.1,fun x hx=>(mt x hx).2.2.2.2.1,fun x hx=>(mt x hx).2.2.2.2.2.1,fun x hx=>(mt x hx).2.2.2.2.2.2⟩
  .have hi:i+1<((List.range g.lc).map (fun i=>(g.cl i).toNat)).length:=hi
   rw[lc] at hi;show((List.range g.lc).map (fun i=>(g.cl i).toNat)).getD i 0<((List.range g.lc).map (fun i=>(g.cl i).toNat)).getD (i+1) 0;rw[oK _ _ (by omega),oK _ _ hi];have h1:=k1.2.2 i (by omega);have h2:=(k1.2.2 (i+1) hi).2.2 (by omega);rw[show i+1-1=i by omega] at h2;omega
  .show((List.range g.lc).map (fun i=>(g.cl i).toNat)).getD (((List.range g.lc).map (fun i=>(g.cl i).toNat)).length-1) 0<=g.cB.toNat
   rw[gr];omega
  .show((List.range g.lc).map (fun i=>(g.cl i).toNat)).getD (((List.range g.lc).map (fun i=>(g.cl i).toNat)).length-1) 0<=x.q
   rw[gr];exact(mt x hx).1
 .have hi:i<((List.range g.lc).map (fun i=>(g.cl i).toNat)).length:=hi
  rw[lc] at hi;show w.cell? (aj bc (oc+i))=some (U (((List.range g.lc).map (fun i=>(g.cl i).toNat)).getD i 0:Nat));rw[oK _ _ hi,hc i hi,Int.toNat_of_nonneg (by have:=k1.2.2 i hi;omega)]
 .have hl:t<((List.range g.lt).map (fun i=>(⟨(g.q i).toNat,(g.tr i).toNat,(g.ca i).toNat,(g.sa i).toNat⟩:zm))).length:=hl
  have qd:=hl;rw[lt] at qd;obtain⟨⟨a1,a2⟩,⟨a3,a4⟩,⟨a5,a6⟩,a7,a8⟩:=Td t qd;obtain⟨c0,c1,c2,c3⟩:=ht t qd;have e:((List.range g.lt).map (fun i=>(⟨(g.q i).toNat,(g.tr i).toNat,(g.ca i).toNat,(g.sa i).toNat⟩:zm)))[t]=⟨(g.q t).toNat,(g.tr t).toNat,(g.ca t).toNat,(g.sa t).toNat⟩:=by simp
  show w.cell? (aj bt (ot+t*4))=some (U (((List.range g.lt).map (fun i=>(⟨(g.q i).toNat,(g.tr i).toNat,(g.ca i).toNat,(g.sa i).toNat⟩:zm)))[t].q:Nat))/\w.cell? (aj bt (ot+t*4+1))=some (U (((List.range g.lt).map (fun i=>(⟨(g.q i).toNat,(g.tr i).toNat,(g.ca i).toNat,(g.sa i).toNat⟩:zm)))[t].tr:Nat))/\w.cell? (aj bt (ot+t*4+2))=some (U (((List.range g.lt).map (fun i=>(⟨(g.q i).toNat,(g.tr i).toNat,(g.ca i).toNat,(g.sa i).toNat⟩:zm)))[t].ca:Nat))/\w.cell? (aj bt (ot+t*4+3))=some (U (((List.range g.lt).map (fun i=>(⟨(g.q i).toNat,(g.tr i).toNat,(g.ca i).toNat,(g.sa i).toNat⟩:zm)))[t].zas:Nat));rw[e,c0,c1,c2,c3];simp only;rw[Int.toNat_of_nonneg (by omega),Int.toNat_of_nonneg (by omega),Int.toNat_of_nonneg (by omega),Int.toNat_of_nonneg (by omega)];exact⟨rfl,rfl,rfl,rfl⟩
 .unfold cF.val
  simp only;rw[lc,lt,ea,ed,Int.toNat_of_nonneg (by omega),Int.toNat_of_nonneg (by omega),Int.toNat_of_nonneg (by omega),Int.toNat_of_nonneg (by omega)]
end Rf
end Go.Proofs.YtgblmelijlgimaaGreatDoor
namespace Go.Gc
structure Aw(C:cV):Prop where
 cl:C.cl=[2,4]
 fit:C.fit 4=1
 first:C.first 1=2
 many:C.many 1=1
 fV:C.fV=4
 ua:C.ua=100
 gens:C.gens=9
 L:C.K.L=3
 n:C.K.n=3
 addr:C.K.addr 2=8
 size:C.K.size 2=4
 h1:C.N5 0 1=1
 h2:C.N5 0 2=2
 rd:C.rd 1=some (0,1)
def pW(C:cV)(z:V):Bool:=decide (z.v.used+(C.cl.getD 1 0:Nat)<=C.fV)&&decide (0<ek z.v.es)
def NS:iJ:=⟨1,0,1,2,0⟩
theorem PA(C:cV)(x:V):iD C x NS=jr C x 1 2:=by
 unfold iD NS;rw[if_neg (by simp),if_pos rfl,if_pos (by simp)]
 rfl
theorem IE{C:cV}(A:Aw C){x y:V}(hy:room C (pW C) x=y)(hu:y.v.used=0)(hT:y.v.T 2=false)(hf:0<ek y.v.es)(hs:y.si=0):jk C x NS=(({ia C (jI C y 2 1 1 2) 2 with si:=4}:V),⟨0,iC C y,0,8,4,4,j3 y.cy,y.v.act⟩):=by
 have h1:jr C x 1 2=(({ia C (jI C y 2 1 1 2) 2 with si:=4}:V),{Sn.told 0 with h:=iC C y,addr:=8}):=by
  unfold jr;simp only[A.fit,A.cl];rw[if_pos (by decide)];have e:room C (fun z=>decide (z.v.used+(([2,4]:List Nat).getD 1 0:Nat)<=C.fV)&&decide (0<ek z.v.es)) x=y:=by
   rw[←hy];unfold pW;rw[A.cl]
  rw[e,hu,A.fV,A.first,A.many];rw[if_neg (by decide),if_neg (not_not_intro hf)];unfold lZ;rw[if_pos hT];simp only[];have e2:iO C (ia C (jI C y 2 1 1 2) 2) ((([2,4]:List Nat).getD 1 0:Nat):Int)={ia C (jI C y 2 1 1 2) 2 with si:=4}:=by
   unfold iO;have e3:jj ((ia C (jI C y 2 1 1 2) 2).si+((([2,4]:List Nat).getD 1 0:Nat):Int))=4:=by
    show jj (y.si+4)=4;rw[hs];rfl
   rw[e3,A.ua,if_pos (by decide)]
  rw[e2,A.addr]
  rfl
 unfold jk;rw[PA C,h1];simp only[];have e4:({ia C (jI C y 2 1 1 2) 2 with si:=4}:V).v.used=4:=by
  show y.v.used+(C.cl.getD 1 0:Nat)=4;rw[hu,A.cl];rfl
 rw[e4]
 rfl
theorem PB{C:cV}(A:Aw C){x y:V}(hy:room C (pW C) x=y)(hu:y.v.used=4):jk C x NS=(y,⟨100,0,0,0,4,j3 y.si,j3 y.cy,y.v.act⟩):=by
 have h1:jr C x 1 2=(y,Sn.told 100):=by
  unfold jr;simp only[A.fit,A.cl];rw[if_pos (by decide)];have e:room C (fun z=>decide (z.v.used+(([2,4]:List Nat).getD 1 0:Nat)<=C.fV)&&decide (0<ek z.v.es)) x=y:=by
   rw[←hy];unfold pW;rw[A.cl]
  rw[e,hu,A.fV,if_pos (by decide)]
 unfold jk;rw[PA C,h1];simp only[];rw[if_neg (by decide),hu]
 rfl
theorem yV{C:cV}{x:V}(h:pW C x=true):room C (pW C) x=x:=by
 unfold room;simp[h]
theorem rY{C:cV}{x:V}(h:pW C x=false)(ha:x.v.act=false):room C (pW C) x=(x.begin C).fin C:=by
 unfold room;simp[h,ha]
theorem NT{C:cV}(A:Aw C):∃x1 x2 x3 x4 s2 s3,jk C (v0 C) NS=(x1,⟨0,1,0,8,4,4,0,false⟩)/\jk C x1 NS=(x2,s2)/\s2.e=100/\s2.gY=1/\jk C x2 ⟨6,1,0,0,0⟩=(x3,s3)/\s3.e=0/\jk C x3 NS=(x4,⟨0,2,0,8,4,4,2,false⟩):=by
 have Ql:(v0 C).v.es=[⟨0,0,1⟩,⟨0,0,1⟩,⟨0,0,1⟩]:=by show List.replicate C.K.L _=_;rw[A.L];rfl
 have VM:(v0 C).v.cs=[0,0,0]:=by show List.replicate C.K.n _=_;rw[A.n];rfl
 have c4:((C.cl.getD 1 0:Nat):Int)=4:=by rw[A.cl];rfl
 have r1:room C (pW C) (v0 C)=v0 C:=yV (by unfold pW;rw[Ql,c4,A.fV];show(decide ((0:Int)+4<=4)&&decide (0<3))=true;rfl);have d1:=IE A r1 rfl rfl (by rw[Ql];decide) rfl;have m1:iC C (v0 C)=1:=by
  unfold iC;rw[Ql];show((C.N5 0 1:Nat):Int)=1;rw[A.h1];rfl
 rw[m1] at d1;generalize p7:({ia C (jI C (v0 C) 2 1 1 2) 2 with si:=4}:V)=x1 at d1;have u1:x1.v.used=4:=by rw[←p7];show(0:Int)+(C.cl.getD 1 0:Nat)=4;rw[c4];rfl
 have Og:x1.v.es=[⟨1,2,1⟩,⟨0,0,1⟩,⟨0,0,1⟩]:=by
  rw[←p7];show((v0 C).v.es.set (ir (v0 C).v.es) ⟨1,2,((v0 C).v.es.getD (ir (v0 C).v.es) ⟨0,0,0⟩).gen⟩)=_;rw[Ql];rfl
 have VN:x1.v.cs=[0,0,0]:=by rw[←p7];exact VM
 have T1:x1.v.T=cP (fun _=>false) 2 true:=by rw[←p7];rfl
 have a1:x1.v.act=false:=by rw[←p7];rfl
 have y1:x1.cy=0:=by rw[←p7];rfl
 have r2:=rY (C:=C) (x:=x1) (by unfold pW;rw[u1,c4,A.fV];rfl) a1;have hl:lost C.K x1.v.T x1.v.es x1.v.cs x1.v.M=fun _=>false:=by
  funext z
  by_cases hz:z=2
  .subst hz
   exact(kT (by rw[T1];rfl)).2 (.root 0 2 (by rw[Og];rfl))
  .unfold lost
   rw[T1,du _ _ hz];rfl
 generalize qO:(x1.begin C).fin C=x2 at r2;have T2:x2.v.T=cP (fun _=>false) 2 true:=by
  rw[←qO];show(fun x=>x1.v.T x&& !(lost C.K x1.v.T x1.v.es x1.v.cs x1.v.M x))=_;rw[hl,T1]
  funext z
  simp
 have u2:x2.v.used=4:=by
  rw[←qO];show((fE C.K.size (fun x=>x1.v.T x&& !(lost C.K x1.v.T x1.v.es x1.v.cs x1.v.M x)) C.K.n:Nat):Int)=4;rw[hl,T1,A.n];simp[fE,cP,A.size]
 have OE:x2.v.es=[⟨1,2,1⟩,⟨0,0,1⟩,⟨0,0,1⟩]:=by
  rw[←qO];show x1.v.es.map (fo C.gens)=_;rw[Og];rfl
 have VO:x2.v.cs=[0,0,0]:=by rw[←qO];exact VN
 have y2:x2.cy=1:=by rw[←qO];show jj (x1.cy+1)=1;rw[y1];rfl
 have a2:x2.v.act=false:=by rw[←qO];rfl
 have s2:x2.si=0:=by rw[←qO];rfl
 have d2:=PB A r2 u2;have d3:jk C x2 ⟨6,1,0,0,0⟩=({x2 with v:={x2.v with es:=x2.v.es.set 0 ⟨2,2,1⟩}},⟨0,0,0,8,4,j3 x2.si,j3 x2.cy,x2.v.act⟩):=by
  have e:fP C x2 1=some (0,⟨1,2,1⟩):=by
   unfold fP jD;rw[A.rd,OE]
   rfl
  unfold jk iD;simp only[e];rw[if_neg (by decide),if_neg (by decide)];simp only[];rw[if_neg (by decide),if_neg (by decide),if_neg (by decide),if_neg (by decide),if_pos trivial];unfold lh;simp only[A.addr];rw[u2]
  rfl
 generalize Oq:({x2 with v:={x2.v with es:=x2.v.es.set 0 ⟨2,2,1⟩}}:V)=x3 at d3;have u3:x3.v.used=4:=by rw[←Oq];exact u2
 have Te:x3.v.es=[⟨2,2,1⟩,⟨0,0,1⟩,⟨0,0,1⟩]:=by rw[←Oq];show x2.v.es.set 0 _=_;rw[OE];rfl
 have VP:x3.v.cs=[0,0,0]:=by rw[←Oq];exact VO
 have T3:x3.v.T=cP (fun _=>false) 2 true:=by rw[←Oq];exact T2
 have a3:x3.v.act=false:=by rw[←Oq];exact a2
 have y3:x3.cy=1:=by rw[←Oq];exact y2
 have r4:=rY (C:=C) (x:=x3) (by unfold pW;rw[u3,c4,A.fV];rfl) a3;have nr:∀r z,rootOf x3.v.es x3.v.cs r≠some z:=fun r z=>by
  rw[Te,VP];unfold rootOf;rcases r with _|_|_|r
  .simp
  .simp
  .simp
  .simp
   rcases r with _|_|_|r <;> simp
 have VQ:lost C.K x3.v.T x3.v.es x3.v.cs x3.v.M=cP (fun _=>false) 2 true:=by
  have hR:∀z,¬Reach C.K x3.v.es x3.v.cs x3.v.M z:=fun z h=>by
   induction h with
   | root r x h=>exact nr r x h
   | iY a k x _ _ ih=>exact ih
  funext z
  unfold lost;rw[T3];have:@decide (Reach C.K x3.v.es x3.v.cs x3.v.M z) (Classical.propDecidable _)=false:=@decide_eq_false _ (Classical.propDecidable _) (hR z);rw[this];simp
 generalize JM:(x3.begin C).fin C=x4 at r4;have TT:(fun x=>x3.v.T x&& !(lost C.K x3.v.T x3.v.es x3.v.cs x3.v.M x))=fun _=>false:=by
  rw[VQ,T3]
  funext z
  cases cP (fun _=>false) 2 true z <;> rfl
 have T4:x4.v.T 2=false:=by
  rw[←JM];exact congrFun TT 2
 have u4:x4.v.used=0:=by
  rw[←JM];show((fE C.K.size (fun x=>x3.v.T x&& !(lost C.K x3.v.T x3.v.es x3.v.cs x3.v.M x)) C.K.n:Nat):Int)=0;rw[TT,pb]
  rfl
 have Tf:x4.v.es=[⟨0,0,2⟩,⟨0,0,1⟩,⟨0,0,1⟩]:=by
  rw[←JM];show x3.v.es.map (fo C.gens)=_;rw[Te,A.gens];rfl
 have y4:x4.cy=2:=by rw[←JM];show jj (x3.cy+1)=2;rw[y3];rfl
 have a4:x4.v.act=false:=by rw[←JM];rfl
 have s4:x4.si=0:=by rw[←JM];rfl
 have d4:=IE A r4 u4 T4 (by rw[Tf];decide) s4;have m4:iC C x4=2:=by
  unfold iC;rw[Tf];show((C.N5 0 2:Nat):Int)=2;rw[A.h2];rfl
 rw[m4,y4,a4] at d4;refine⟨x1,x2,x3,_,_,_,d1,d2,rfl,?_,d3,rfl,d4⟩;show j3 x2.cy=1;rw[y2];rfl
end Go.Gc
namespace Go.Proofs.YtgblmelijlgimaaGreatDoor
open Go.Proofs.Tryz
namespace Aw
open Go.RowKit Go.bZ Go.Gc Go.Cf Cn Hd Hp Fm Mc Cy eK
def Lm(w:World)(d:MD)(eU n:Nat)(C:cV)(X:V)(v:Value):Prop:=∃x l,MI w d eU n x l/\cj w d.m #[af (aj d.f),v] 62/\x 0=X/\d.T.C 0=C/\0<d.hs.length
theorem IF{d:MD}{x:Nat→V}{C:cV}{X:V}{p:List UInt8}{y:E}(hC:d.T.C 0=C)(hx:x 0=X)(h0:0<d.hs.length)(hp:cH p=y)(k:y.kind=1)(t:y.cQ=0):gU d.T.C d.hs.length x p=(cP x 0 (jk C X (ix y)).1,some (0,(jk C X (ix y)).2)):=by
 unfold gU;rw[hp,if_neg (by rw[k];decide),if_pos ⟨k,by rw[t];omega⟩,t];show(cP x 0 (jk (d.T.C 0) (x 0) (ix y)).1,some ((0:Int),(jk (d.T.C 0) (x 0) (ix y)).2))=_;rw[hC,hx]
theorem Lm.Eh{w:World}{d:MD}{eU n:Nat}{C:cV}{X:V}{v:Value}(h:Lm w d eU n C X v)(hn:n<1000){y:E}{p:List UInt8}(hp:cH p=y)(k:y.kind=1)(t:y.cQ=0)(hl:p.length<=100000):ak 7 #[af (aj d.m),.string (bs p)] w fun e w'=>e=ae (.tuple #[.agg (eB 0 (jk C X (ix y)).2),.bool true])/\∃v',Lm w' d eU (n+1) C (jk C X (ix y)).1 v'/\cu (Sf d v) w w'/\∀g,v'.ownBlock=some g→v.ownBlock=some g\/w.heap.size<=g:=by
 obtain⟨x,l,h1,h2,h3,h4,h5⟩:=h;refine(Ak h1 h2 hn p hl).mono ?_;rintro e w' ⟨he,hm,hc,v',hb,ho⟩;rw[IF h4 h3 h5 hp k t] at he hm;exact⟨he,v',⟨_,_,hm,hb,by show cP x 0 _ 0=_;exact cS _ _ _,h4,h5⟩,hc,ho⟩
theorem Lm.bY{S:Nat→Prop}{w w':World}{d:MD}{eU n:Nat}{C:cV}{X:V}{v:Value}(h:Lm w d eU n C X v)(hc:cu S w w')(hS:∀k,k<w.heap.size→S k→False):Lm w' d eU n C X v:=by
 obtain⟨x,l,h1,h2,h3⟩:=h;exact⟨x,l,h1.bY hc (fun k a b=>(hS k a b).elim),h2.bY hc (fun hk=>hS _ h2.lt hk),h3⟩
theorem Lm.lt{w:World}{d:MD}{eU n:Nat}{C:cV}{X:V}{v:Value}(h:Lm w d eU n C X v):(∀g,v.ownBlock=some g→eU<=g/\g<w.heap.size)/\d.m<eU/\eU<=w.heap.size:=by
 obtain⟨x,l,h1,h2,h3⟩:=h;obtain⟨v',b,o⟩:=h1.mb;obtain rfl:v'=v:=by
  have e:=(cj.same b h2).1;injection e with e;injection e with _ e;injection e
 exact⟨o.lt,h1.ml.2,h1.lw⟩
structure As(w W:World)(d:MD)(eU n:Nat)(C:cV)(X:V)(v:Value)(B:List (Nat×Array Value)):Prop where
 i:Lm W d eU n C X v
 bl:Below w.heap.size w W
 vs:∀p∈B,cj W p.1 p.2 40/\eU<=p.1/\∀g,v.ownBlock=some g→g≠p.1
 lo:w.heap.size<=d.lo
 ml:d.lo<=d.m
theorem As.cA{w W W':World}{d:MD}{eU n:Nat}{C:cV}{X:V}{v:Value}{B:List (Nat×Array Value)}(h:As w W d eU n C X v B)(hb:Below W.heap.size W W'):As w W' d eU n C X v B:=
 ⟨h.i.bY (cu.cD (S:=fun _=>False) hb) (fun _ _ hk=>hk),h.bl.trans (hb.mono h.bl.size),fun p hp=>⟨(h.vs p hp).1.cA hb,(h.vs p hp).2⟩,h.lo,h.ml⟩
theorem As.Eh{w W:World}{d:MD}{eU n:Nat}{C:cV}{X:V}{v:Value}{B:List (Nat×Array Value)}(h:As w W d eU n C X v B)(hn:n<1000){y:E}{p:List UInt8}(hp:cH p=y)(k:y.kind=1)(t:y.cQ=0)(hl:p.length<=100000):ak 7 #[af (aj d.m),.string (bs p)] W fun e w'=>e=ae (.tuple #[.agg (eB 0 (jk C X (ix y)).2),.bool true])/\Hid (∀W6,w'.alloc (.cells #[U 0,U 0,aa 0,aa 0,U 0,U 0,U 0,U 0,.bool false] 40)=W6→cj W6 w'.heap.size (eB 0 (Sn.told 0)) 40/\∃v',As w (W6.setRow w'.heap.size (eB 0 (jk C X (ix y)).2)) d eU (n+1) C (jk C X (ix y)).1 v' (B++[(w'.heap.size,eB 0 (jk C X (ix y)).2)])):=by
 obtain⟨q1,q2,q3⟩:=h.i.lt;have ml:=h.ml;have lo:=h.lo;refine(h.i.Eh hn hp k t hl).mono ?_;rintro e w' ⟨rfl,v',hi,hc,hv⟩;refine⟨rfl,bU (fun W6 su=>?_)⟩;have b6:cj W6 w'.heap.size (eB 0 (Sn.told 0)) 40:=by rw[←su];exact cj.new _ _ _
 have c6:cu (fun k=>k=w'.heap.size) w' (W6.setRow w'.heap.size (eB 0 (jk C X (ix y)).2)):=by
  have a:cu (fun k=>k=w'.heap.size) w' W6:=by rw[←su];exact xt _ _ _
  exact a.trans ((cu.refl (fun k=>k=w'.heap.size) W6).row (p:=w'.heap.size) (.inl rfl) _)
 obtain⟨r1,r2,r3⟩:=hi.lt;have s1:=hc.size;have s6:=c6.size;have ll:w.heap.size<=W.heap.size:=h.bl.size;refine⟨b6,v',hi.bY c6 (fun k hk e=>by have e:k=w'.heap.size:=e;omega),?_,fun p hp=>?_,h.lo,h.ml⟩
 .refine(h.bl.trans (hc.below ll (fun k hk=>?_))).trans (c6.below (aE ll s1) (fun k hk=>by have hk:k=w'.heap.size:=hk;omega))
  rcases hk with hk|hk
  .omega
  .have:=(q1 k hk).1
   omega
 .rcases bu.1 hp with hp|hp
  .obtain⟨p1,p2,p3⟩:=h.vs p hp
   have pl:=p1.lt;refine⟨(p1.bY hc (fun hk=>?_)).bY c6 (fun hk=>by have hk:p.1=w'.heap.size:=hk;omega),p2,fun g hg e=>?_⟩
   .rcases hk with hk|hk
    .omega
    .exact p3 _ hk rfl
   .rcases hv g hg with k|k
    .exact p3 g k e
    .omega
  .obtain rfl:=bQ.1 hp
   refine⟨b6.setRow _,by show eU<=w'.heap.size;omega,fun g hg e=>?_⟩;have:=(r1 g hg).2;have e:g=w'.heap.size:=e;omega
def IG(a b:Nat):cF:=⟨a,0,2,b,0,2,[2,4],8,[⟨4,100,3,0⟩,⟨4,1,1,0⟩],1,1,9⟩
theorem Ln:Ok (IG 0 0):=by
 refine⟨by decide,by decide,by decide,by decide,fun i hi=>?_,by decide,by decide,by decide,by decide,by decide,by decide,by decide,by decide,by decide,?_,?_,?_,?_,?_,?_,?_⟩
 .have hi:i+1<2:=hi
  obtain rfl:i=0:=by omega
  decide
 all_goals
  intro t ht;simp[IG] at ht;rcases ht with rfl|rfl <;> decide
theorem NU(a b:Nat):Ok (IG a b):=Ok.clone Ln rfl rfl rfl rfl rfl rfl
theorem PC{W:World}{a b:Nat}(h1:cj W a #[U 2,U 4] 3)(h2:cj W b #[U 4,U 100,U 3,U 0,U 4,U 1,U 1,U 0] 50):gN W (IG a b):=by
 refine⟨fun i hi=>?_,fun t ht=>?_⟩
 .have hi:i<2:=hi
  obtain rfl|rfl:i=0\/i=1:=by omega
  .exact h1.cell 0
  .exact h1.cell 1
 .have WR:t<2:=ht
  obtain rfl|rfl:t=0\/t=1:=by omega
  .exact⟨h2.cell 0,h2.cell 1,h2.cell 2,h2.cell 3⟩
  .exact⟨h2.cell 4,h2.cell 5,h2.cell 6,h2.cell 7⟩
theorem Lo:Aw (iH (IG 0 0) 0):=
 ⟨rfl,by decide,by decide,by decide,by decide,by decide,by decide,by decide,by decide,by decide,by decide,by decide,by decide,by decide⟩
theorem NV(a b:Nat):Aw (iH (IG a b) 0):=Lo
def xA:E:=⟨1,0,1,0,1,2,0,0,0⟩
def xD:E:=⟨1,0,6,1,0,0,0,0,0⟩
theorem LX:xA.Wf:=by constructor <;> decide
theorem LY:xD.Wf:=by constructor <;> decide
theorem IH{x:E}(h:lB x):xj x=some (AI x):=by unfold xj;rw[if_pos h]
theorem xd{x:E}(hw:x.Wf)(h:lB x):cH (kL x)=x/\(kL x).length=27/\uF x=0:=by
 have hp:=IH h;have e:kL x=AI x:=by unfold kL;rw[hp];rfl
 refine⟨?_,by rw[e];exact xk x,by unfold uF;rw[hp];rfl⟩;unfold cH;rw[e,L6 hw h]
 rfl
theorem PD:lB xA:=by decide
theorem PE:lB xD:=by decide
end Aw
namespace Aw
open Go.RowKit Go.bZ Go.Gc Go.Cf Cn Hd Hp Fm Mc Cy eK
theorem mE{w:World}{b:Nat}{s:Sn}(h:cj w b (eB 0 s) 40):w.cell? (aj b 1)=some (U s.e)/\w.cell? (aj b 2)=some (aa s.h)/\w.cell? (aj b 3)=some (aa s.w)/\w.cell? (aj b 4)=some (U s.addr)/\w.cell? (aj b 5)=some (U s.used)/\w.cell? (aj b 6)=some (U s.since)/\w.cell? (aj b 7)=some (U s.gY)/\w.cell? (aj b 8)=some (.bool s.ac):=⟨h.cell 1,h.cell 2,h.cell 3,h.cell 4,h.cell 5,h.cell 6,h.cell 7,h.cell 8⟩
set_option maxHeartbeats 1000000 in
theorem DX{w:World}(gw:Gw w)(de:TabAt 2 Lib.deBruijn64tab w)(d2:2<w.heap.size):ak 5 #[] w fun e w'=>e=ae (.bool true)/\Below w.heap.size w w':=by
 obtain⟨W0,sJ⟩:=al (((w.alloc (.cells #[U 2,U 4] 3)).alloc (.cells #[U 4,U 100,U 3,U 0,U 4,U 1,U 1,U 0] 50)).alloc (.cells #[ai (aj w.heap.size) 2 2,U 8,ai (aj (w.heap.size+1)) 2 2,U 1,U 1,U 9] 25));have lO:Below w.heap.size w W0:=by rw[←sJ];exact bA (bA (bA (bV _ _) (av _) _) (av _) _) (av _) _
 have e1:(w.alloc (.cells #[U 2,U 4] 3)).heap.size=w.heap.size+1:=World.size_alloc _ _;have bI:cj W0 w.heap.size #[U 2,U 4] 3:=by rw[←sJ];exact((cj.new w _ _).alloc _).alloc _
 have bT:cj W0 (w.heap.size+1) #[U 4,U 100,U 3,U 0,U 4,U 1,U 1,U 0] 50:=by rw[←sJ];exact(cj.jf w _ _ _ _).alloc _
 have bC:cj W0 (w.heap.size+1+1) #[ai (aj w.heap.size) 2 2,U 8,ai (aj (w.heap.size+1)) 2 2,U 1,U 1,U 9] 25:=by
  have:=cj.new ((w.alloc (.cells #[U 2,U 4] 3)).alloc (.cells #[U 4,U 100,U 3,U 0,U 4,U 1,U 1,U 0] 50)) #[ai (aj w.heap.size) 2 2,U 8,ai (aj (w.heap.size+1)) 2 2,U 1,U 1,U 9] 25;rw[World.size_alloc,World.size_alloc,sJ] at this;exact this
 have hN:IY W0 (IG w.heap.size (w.heap.size+1)):=⟨PC bI bT,NU _ _,by show 2<=2;omega,gw.cA lO,Mk.iQ de d2 (cu.cD (S:=fun _=>False) lO) id,aB d2 lO.size⟩;obtain⟨C,hC⟩:=al (iH (IG w.heap.size (w.heap.size+1)) 0);have hA:=NV w.heap.size (w.heap.size+1);rw[hC] at hA;obtain⟨x1,x2,x3,x4,s2,s3,r1,r2,r2e,r2c,r3,r3e,r4⟩:=NT hA;have dN:ak 6 #[.agg #[ai (aj w.heap.size) 2 2,U 8,ai (aj (w.heap.size+1)) 2 2,U 1,U 1,U 9]] W0 fun e w1=>∃d:MD,e=ae (.tuple #[af (aj d.m),U 0])/\Hid (As w w1 d w1.heap.size 0 C (v0 C) (ai none 0 0) []):=by
  have hv:Value.agg #[ai (aj w.heap.size) 2 2,U 8,ai (aj (w.heap.size+1)) 2 2,U 1,U 1,U 9]=cF.val (IG w.heap.size (w.heap.size+1)):=by unfold cF.val IG;rfl
  rw[hv];refine(Mc.fQ hN).mono ?_;rintro e w1 ⟨d,rfl,bi,hl,hT,lo,lm,hb⟩;have hs:=lO.size;refine⟨d,rfl,bU ⟨⟨_,[],bi.mi,bi.mb,?_,?_,?_⟩,lO.trans (hb.mono hs),fun p hp=>absurd hp (by simp),by omega,lm⟩⟩
  .show v0 (iH (IG w.heap.size (w.heap.size+1)) 0)=v0 C
   rw[hC]
  .rw[hT 0 (by show 0<2;omega)]
   exact hC
  .rw[hl]
   show 0<2;omega
 obtain⟨gA,lA,nA⟩:=xd LX PD;obtain⟨gD,lD,nD⟩:=xd LY PE;have dA:Hid (∀W,ak 12 #[.agg #[ab 1,U 0,ab 1,aa 0,U 1,U 2,aa 0,U 0,ab 0]] W fun e w'=>e=ae (.tuple #[.string (bs (kL xA)),U 0])/\Below W.heap.size W w'):=bU (fun W=>by
  have:=wP xA LX W;unfold mQ at this;rw[nA] at this;exact this)
 have dD:Hid (∀W,ak 12 #[.agg #[ab 1,U 0,ab 6,aa 1,U 0,U 0,aa 0,U 0,ab 0]] W fun e w'=>e=ae (.tuple #[.string (bs (kL xD)),U 0])/\Below W.heap.size W w'):=bU (fun W=>by
  have:=wP xD LY W;unfold mQ at this;rw[nD] at this;exact this)
 have H1:Hid (∀W d eU v B,As w W d eU 0 C (v0 C) v B→ak 7 #[af (aj d.m),.string (bs (kL xA))] W fun e w'=>e=ae (.tuple #[.agg (eB 0 ⟨0,1,0,8,4,4,0,false⟩),.bool true])/\Hid (∀W6,w'.alloc (.cells #[U 0,U 0,aa 0,aa 0,U 0,U 0,U 0,U 0,.bool false] 40)=W6→cj W6 w'.heap.size #[U 0,U 0,aa 0,aa 0,U 0,U 0,U 0,U 0,.bool false] 40/\∃v',As w (W6.setRow w'.heap.size (eB 0 ⟨0,1,0,8,4,4,0,false⟩)) d eU 1 C x1 v' (B++[(w'.heap.size,eB 0 ⟨0,1,0,8,4,4,0,false⟩)]))):=bU (fun W d eU v B a=>by
  have:=a.Eh (by omega) gA rfl rfl (by omega);rw[show jk C (v0 C) (ix xA)=_ from r1] at this;exact this)
 have H2:Hid (∀W d eU v B,As w W d eU 1 C x1 v B→ak 7 #[af (aj d.m),.string (bs (kL xA))] W fun e w'=>e=ae (.tuple #[.agg (eB 0 s2),.bool true])/\Hid (∀W6,w'.alloc (.cells #[U 0,U 0,aa 0,aa 0,U 0,U 0,U 0,U 0,.bool false] 40)=W6→cj W6 w'.heap.size #[U 0,U 0,aa 0,aa 0,U 0,U 0,U 0,U 0,.bool false] 40/\∃v',As w (W6.setRow w'.heap.size (eB 0 s2)) d eU 2 C x2 v' (B++[(w'.heap.size,eB 0 s2)]))):=bU (fun W d eU v B a=>by
  have:=a.Eh (by omega) gA rfl rfl (by omega);rw[show jk C x1 (ix xA)=_ from r2] at this;exact this)
 have H3:Hid (∀W d eU v B,As w W d eU 2 C x2 v B→ak 7 #[af (aj d.m),.string (bs (kL xD))] W fun e w'=>e=ae (.tuple #[.agg (eB 0 s3),.bool true])/\Hid (∀W6,w'.alloc (.cells #[U 0,U 0,aa 0,aa 0,U 0,U 0,U 0,U 0,.bool false] 40)=W6→cj W6 w'.heap.size #[U 0,U 0,aa 0,aa 0,U 0,U 0,U 0,U 0,.bool false] 40/\∃v',As w (W6.setRow w'.heap.size (eB 0 s3)) d eU 3 C x3 v' (B++[(w'.heap.size,eB 0 s3)]))):=bU (fun W d eU v B a=>by
  have:=a.Eh (by omega) gD rfl rfl (by omega);rw[show jk C x2 (ix xD)=_ from r3] at this;exact this)
 have H4:Hid (∀W d eU v B,As w W d eU 3 C x3 v B→ak 7 #[af (aj d.m),.string (bs (kL xA))] W fun e w'=>e=ae (.tuple #[.agg (eB 0 ⟨0,2,0,8,4,4,2,false⟩),.bool true])/\Hid (∀W6,w'.alloc (.cells #[U 0,U 0,aa 0,aa 0,U 0,U 0,U 0,U 0,.bool false] 40)=W6→cj W6 w'.heap.size #[U 0,U 0,aa 0,aa 0,U 0,U 0,U 0,U 0,.bool false] 40/\∃v',As w (W6.setRow w'.heap.size (eB 0 ⟨0,2,0,8,4,4,2,false⟩)) d eU 4 C x4 v' (B++[(w'.heap.size,eB 0 ⟨0,2,0,8,4,4,2,false⟩)]))):=bU (fun W d eU v B a=>by
  have:=a.Eh (by omega) gA rfl rfl (by omega);rw[show jk C x3 (ix xA)=_ from r4] at this;exact this)
 have HO:=bU (fun W W' d eU n X v B (a:As w W d eU n C X v B) (hb:Below W.heap.size W W')=>a.cA hb);have one:=fun s=>nE 0 s
 have R2e:=bU r2e;have R2c:=bU r2c;have R3e:=bU r3e;generalize kL xA=pA at *;generalize kL xD=pD at *;clear hN bI bT lO gw de d2 hC hA r1 r2 r3 r4 gA lA nA gD lD nD r2e r2c r3e;go_enter func5,ntmps5;go_wp2_with (first
  | (refine wpList_load_row rfl _ _ rfl (w.heap.size+1+1) rfl 25 #[ai (aj w.heap.size) 2 2,U 8,ai (aj (w.heap.size+1)) 2 2,U 1,U 1,U 9] (0,0) _ bC underlying25 rfl pd ?_)
  | (go_at_call 6;(with_reducible refine dN.mono ?_);rintro e w1 ⟨d,rfl,A0⟩;clear bC;have RE:=bU (rfl:w1.heap.size=w1.heap.size);clear RE)
  | (go_at_call 12;(with_reducible refine(dA.out _).mono ?_);rintro e w2 ⟨rfl,hb⟩;have A1:=bU (HO.out _ _ _ _ _ _ _ _ A0.out hb);clear hb)
  | (go_at_call 12;(with_reducible refine(dD.out _).mono ?_);rintro e w3 ⟨rfl,hb⟩;have A2:=bU (HO.out _ _ _ _ _ _ _ _ A1.out hb);have d1:=H1.out _ _ _ _ _ A2.out;clear hb)
  | (go_at_call 7;(with_reducible refine d1.mono ?_);rintro e y1 ⟨rfl,hX⟩;obtain⟨Y1,VR⟩:=al (y1.alloc (.cells #[U 0,U 0,aa 0,aa 0,U 0,U 0,U 0,U 0,.bool false] 40));obtain⟨b1,v1,q1⟩:=hX.out Y1 VR;have a1:=bU q1;clear hX q1;have d2:=H2.out _ _ _ _ _ a1.out)
  | (refine wpList_store_row rfl _ _ _ rfl y1.heap.size (eB 0 ⟨0,1,0,8,4,4,0,false⟩) rfl rfl 40 #[U 0,U 0,aa 0,aa 0,U 0,U 0,U 0,U 0,.bool false] b1 gx rfl (one _) ?_;clear b1)
  | (go_at_call 7;(with_reducible refine d2.mono ?_);rintro e y2 ⟨rfl,hX⟩;obtain⟨Y2,VS⟩:=al (y2.alloc (.cells #[U 0,U 0,aa 0,aa 0,U 0,U 0,U 0,U 0,.bool false] 40));obtain⟨b2,v2,q2⟩:=hX.out Y2 VS;have a2:=bU q2;clear hX q2;have d3:=H3.out _ _ _ _ _ a2.out)
  | (refine wpList_store_row rfl _ _ _ rfl y2.heap.size (eB 0 s2) rfl rfl 40 #[U 0,U 0,aa 0,aa 0,U 0,U 0,U 0,U 0,.bool false] b2 gx rfl (one _) ?_;clear b2)
  | (go_at_call 7;(with_reducible refine d3.mono ?_);rintro e y3 ⟨rfl,hX⟩;obtain⟨Y3,VT⟩:=al (y3.alloc (.cells #[U 0,U 0,aa 0,aa 0,U 0,U 0,U 0,U 0,.bool false] 40));obtain⟨b3,v3,q3⟩:=hX.out Y3 VT;have a3:=bU q3;clear hX q3;have d4:=H4.out _ _ _ _ _ a3.out)
  | (refine wpList_store_row rfl _ _ _ rfl y3.heap.size (eB 0 s3) rfl rfl 40 #[U 0,U 0,aa 0,aa 0,U 0,U 0,U 0,U 0,.bool false] b3 gx rfl (one _) ?_;clear b3)
  | (go_at_call 7;(with_reducible refine d4.mono ?_);rintro e y4 ⟨rfl,hX⟩;obtain⟨Y4,VU⟩:=al (y4.alloc (.cells #[U 0,U 0,aa 0,aa 0,U 0,U 0,U 0,U 0,.bool false] 40));obtain⟨b4,v4,q4⟩:=hX.out Y4 VU;have a4:=bU q4;clear hX q4)
  | (refine wpList_store_row rfl _ _ _ rfl y4.heap.size (eB 0 ⟨0,2,0,8,4,4,2,false⟩) rfl rfl 40 #[U 0,U 0,aa 0,aa 0,U 0,U 0,U 0,U 0,.bool false] b4 gx rfl (one _) ?_;clear b4;obtain⟨k1,k2,k3,k4,k5,k6,k7,k8⟩:(Y4.setRow y4.heap.size (eB 0 ⟨0,2,0,8,4,4,2,false⟩)).cell? (aj y1.heap.size 1)=some (U 0)/\(Y4.setRow y4.heap.size (eB 0 ⟨0,2,0,8,4,4,2,false⟩)).cell? (aj y1.heap.size 2)=some (aa 1)/\(Y4.setRow y4.heap.size (eB 0 ⟨0,2,0,8,4,4,2,false⟩)).cell? (aj y1.heap.size 3)=some (aa 0)/\(Y4.setRow y4.heap.size (eB 0 ⟨0,2,0,8,4,4,2,false⟩)).cell? (aj y1.heap.size 4)=some (U 8)/\(Y4.setRow y4.heap.size (eB 0 ⟨0,2,0,8,4,4,2,false⟩)).cell? (aj y1.heap.size 5)=some (U 4)/\(Y4.setRow y4.heap.size (eB 0 ⟨0,2,0,8,4,4,2,false⟩)).cell? (aj y1.heap.size 6)=some (U 4)/\(Y4.setRow y4.heap.size (eB 0 ⟨0,2,0,8,4,4,2,false⟩)).cell? (aj y1.heap.size 7)=some (U 0)/\(Y4.setRow y4.heap.size (eB 0 ⟨0,2,0,8,4,4,2,false⟩)).cell? (aj y1.heap.size 8)=some (.bool false):=mE (a4.out.vs (y1.heap.size,eB 0 ⟨0,1,0,8,4,4,0,false⟩) (by simp)).1;obtain⟨m1,m2,m3,m4,m5,m6,m7,m8⟩:(Y4.setRow y4.heap.size (eB 0 ⟨0,2,0,8,4,4,2,false⟩)).cell? (aj y4.heap.size 1)=some (U 0)/\(Y4.setRow y4.heap.size (eB 0 ⟨0,2,0,8,4,4,2,false⟩)).cell? (aj y4.heap.size 2)=some (aa 2)/\(Y4.setRow y4.heap.size (eB 0 ⟨0,2,0,8,4,4,2,false⟩)).cell? (aj y4.heap.size 3)=some (aa 0)/\(Y4.setRow y4.heap.size (eB 0 ⟨0,2,0,8,4,4,2,false⟩)).cell? (aj y4.heap.size 4)=some (U 8)/\(Y4.setRow y4.heap.size (eB 0 ⟨0,2,0,8,4,4,2,false⟩)).cell? (aj y4.heap.size 5)=some (U 4)/\(Y4.setRow y4.heap.size (eB 0 ⟨0,2,0,8,4,4,2,false⟩)).cell? (aj y4.heap.size 6)=some (U 4)/\(Y4.setRow y4.heap.size (eB 0 ⟨0,2,0,8,4,4,2,false⟩)).cell? (aj y4.heap.size 7)=some (U 2)/\(Y4.setRow y4.heap.size (eB 0 ⟨0,2,0,8,4,4,2,false⟩)).cell? (aj y4.heap.size 8)=some (.bool false):=mE (a4.out.vs (y4.heap.size,eB 0 ⟨0,2,0,8,4,4,2,false⟩) (by simp)).1;have q1:(Y4.setRow y4.heap.size (eB 0 ⟨0,2,0,8,4,4,2,false⟩)).cell? (aj y2.heap.size 1)=some (U 100):=(by have:=(mE (a4.out.vs (y2.heap.size,eB 0 s2) (by simp)).1).1;rwa [R2e.out] at this);have q7:(Y4.setRow y4.heap.size (eB 0 ⟨0,2,0,8,4,4,2,false⟩)).cell? (aj y2.heap.size 7)=some (U 1):=(by have:=(mE (a4.out.vs (y2.heap.size,eB 0 s2) (by simp)).1).2.2.2.2.2.2.1;rwa [R2c.out] at this);have q3:(Y4.setRow y4.heap.size (eB 0 ⟨0,2,0,8,4,4,2,false⟩)).cell? (aj y3.heap.size 1)=some (U 0):=(by have:=(mE (a4.out.vs (y3.heap.size,eB 0 s3) (by simp)).1).1;rwa [R3e.out] at this))
 )
 go_ret;exact⟨rfl,a4.out.bl⟩
end Aw
end Go.Proofs.YtgblmelijlgimaaGreatDoor
