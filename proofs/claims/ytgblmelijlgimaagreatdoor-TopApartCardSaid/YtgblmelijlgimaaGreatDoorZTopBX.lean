/- Parts of the proof of TopApart. -/
import Derived.Test.YtgblmelijlgimaaGreatDoorZTopBW
import Derived.Lib.SmallJoins
import Derived.LaidMore
import Derived.Stop.LaidErr
import Derived.Stop.Joined
set_option maxRecDepth 100000
namespace Go.Proofs.YtgblmelijlgimaaGreatDoor
open Go.Proofs.Tryz
namespace Lw
open Go.RowKit Go.bZ Go.Gc Go.Cf Cn Hd Hp Fm Mc Rf eK
structure Ip where
 g:lI
 AL:Option Addr
 nL:Nat
 cL:Nat
 fL:Nat→List UInt8
 AM:Option Addr
 nM:Nat
 cM:Nat
 fM:Nat→List UInt8
 T:Nat
 AT:Option Addr
 nT:Nat
 cT:Nat
 fT:Nat→Nat
structure PF(w:World)(p:Ip):Prop where
 cg:jw w p.g
 l:pj w p.AL p.nL p.fL
 m:pj w p.AM p.nM p.fM
 mc:p.nM<=p.cM
 tr:0<p.nT→∃b o,p.AT=some ⟨b,o,none⟩/\b<w.heap.size/\∀i,i<p.nT→w.cell? (aj b (o+i))=some (ab (p.fT i:Nat))
 tn:p.nT<=9223372036854775807
 tb:∀i,p.fT i<256
 T:p.T<256
 gw:Gw w
 de:TabAt 2 Lib.deBruijn64tab w
 d2:2<w.heap.size
theorem PF.cA{w w':World}{p:Ip}(h:PF w p)(hb:Below w.heap.size w w'):PF w' p:=
 ⟨h.cg.cA hb,h.l.cA hb,h.m.cA hb,h.mc,fun hp=>by
  obtain⟨b,o,e,hl,hc⟩:=h.tr hp;exact⟨b,o,e,aB hl hb.size,fun i hi=>(hb.cell hl).trans (hc i hi)⟩,h.tn,h.tb,h.T,h.gw.cA hb,Mk.iQ h.de h.d2 (cu.cD (S:=fun _=>False) hb) id,aB h.d2 hb.size⟩
structure LZ(w W:World)(p:Ip):Prop where
 ip:PF W p
 b1:cj W w.heap.size #[.slice p.g.ac p.g.lc p.g.cc,U p.g.cB,.slice p.g.ad p.g.lt p.g.ct,U p.g.wk,U p.g.gy,U p.g.gn] 25
 b2:cj W (w.heap.size+1) #[.slice p.AL p.nL p.cL,.slice p.AM p.nM p.cM,ab p.T,.slice p.AT p.nT p.cT] 29
 bl:Below w.heap.size w W
theorem LZ.cA{w W W':World}{p:Ip}(h:LZ w W p)(hb:Below W.heap.size W W'):LZ w W' p:=⟨h.ip.cA hb,h.b1.cA hb,h.b2.cA hb,h.bl.trans (hb.mono h.bl.size)⟩
structure RF(W:World)(da db:MD)(eU:Nat):Prop where
 a1:W.heap.size<da.lo/\da.lo<=da.m
 b1:da.m<db.lo/\db.lo<=db.m/\db.m<eU
 w2:2<W.heap.size
structure LA(W wr:World)(da db:MD)(eU t:Nat)(x0:V)(xb:Nat→V)(ps:List (List UInt8)):Prop where
 bl:Below W.heap.size W wr
 a:MR wr da eU t x0 ps
 b:BI wr db xb
 ls:eU<=wr.heap.size
theorem LA.next{W wr:World}{da db:MD}{eU t:Nat}{x0:V}{xb:Nat→V}{ps:List (List UInt8)}(S:RF W da db eU)(h:LA W wr da db eU t x0 xb ps)(hn:ps.length<1000)(p:List UInt8)(hp:p.length<=100000):ak 7 #[af (aj da.m),.string (bs p)] wr fun e w'=>∃v,e=ae v/\Hid (LA W w' da db eU t x0 xb (ps++[p])):=by
 obtain⟨a1,a2⟩:=S.a1;obtain⟨b1,b2,b3⟩:=S.b1;have w2:=S.w2;have ls:=h.ls;refine(h.a.Eh hn p hp).mono ?_;rintro e w' ⟨v,he,hm,hc⟩;refine⟨v,he,bU ⟨h.bl.trans (hc.below h.bl.size (fun k hk=>?_)),hm,h.b.bY hc (fun k _ hk=>?_),aE h.ls hc.size⟩⟩
 .rcases hk with hk|hk <;> omega
 .rcases hk with hk|hk <;> omega
structure LB(W w6 wr:World)(da db:MD)(eU limB t:Nat)(x0:V)(psA own:List (List UInt8))(a k:Nat):Prop where
 ch:cu (Sm db limB) w6 wr
 b:∃psb,MR wr db limB t x0 psb/\gz t psb=own.take k/\psb.length<=a+k
 b6:Below W.heap.size W w6
 a6:MR w6 da eU t x0 psA
 l6:eU<=limB/\limB<=w6.heap.size/\w6.heap.size<=limB
theorem LB.bl{W w6 wr:World}{da db:MD}{eU limB t:Nat}{x0:V}{psA own:List (List UInt8)}{a k:Nat}(S:RF W da db eU)(h:LB W w6 wr da db eU limB t x0 psA own a k):Below W.heap.size W wr:=by
 obtain⟨a1,a2⟩:=S.a1;obtain⟨b1,b2,b3⟩:=S.b1;have l6:=h.l6;exact h.b6.trans (h.ch.below h.b6.size (fun k hk=>by rcases hk with hk|hk <;> omega))
theorem LB.up{W w6 wr w':World}{da db:MD}{eU limB t:Nat}{x0:V}{psA own:List (List UInt8)}{a k:Nat}(h:LB W w6 wr da db eU limB t x0 psA own a k)(hb:Below wr.heap.size wr w'):LB W w6 w' da db eU limB t x0 psA own a k:=by
 obtain⟨psb,h1,h2,h3⟩:=h.b;exact⟨h.ch.trans (cu.cD hb),⟨psb,h1.cA hb,h2,h3⟩,h.b6,h.a6,h.l6⟩
theorem LB.skip{W w6 wr:World}{da db:MD}{eU limB t:Nat}{x0:V}{psA own:List (List UInt8)}{a k:Nat}(h:LB W w6 wr da db eU limB t x0 psA own a k):LB W w6 wr da db eU limB t x0 psA own (a+1) k:=by
 obtain⟨psb,h1,h2,h3⟩:=h.b;exact⟨h.ch,⟨psb,h1,h2,by omega⟩,h.b6,h.a6,h.l6⟩
theorem LB.other{W w6 wr:World}{da db:MD}{eU limB t:Nat}{x0:V}{psA own:List (List UInt8)}{a k:Nat}(h:LB W w6 wr da db eU limB t x0 psA own a k)(hn:a+k<1000){p:List UInt8}(hp:p.length<=100000)(ho:mV t p=false):ak 7 #[af (aj db.m),.string (bs p)] wr fun e w'=>∃v,e=ae v/\Hid (LB W w6 w' da db eU limB t x0 psA own (a+1) k):=by
 obtain⟨psb,h1,h2,h3⟩:=h.b;refine(h1.Eh (by omega) p hp).mono ?_;rintro e w' ⟨v,he,hm,hc⟩;refine⟨v,he,bU ⟨h.ch.trans hc,⟨_,hm,?_,by rw[aJ];show psb.length+1<=_;omega⟩,h.b6,h.a6,h.l6⟩⟩;unfold gz at h2 ⊢;rw[List.filter_append,h2];simp[ho]
theorem LB.own{W w6 wr:World}{da db:MD}{eU limB t:Nat}{x0:V}{psA own:List (List UInt8)}{a k:Nat}(h:LB W w6 wr da db eU limB t x0 psA own a k)(hn:a+k<1000)(hk:k<own.length)(hp:(own.getD k []).length<=100000)(ho:mV t (own.getD k [])=true):ak 7 #[af (aj db.m),.string (bs (own.getD k []))] wr fun e w'=>∃v,e=ae v/\Hid (LB W w6 w' da db eU limB t x0 psA own a (k+1)):=by
 obtain⟨psb,h1,h2,h3⟩:=h.b;refine(h1.Eh (by omega) _ hp).mono ?_;rintro e w' ⟨v,he,hm,hc⟩;refine⟨v,he,bU ⟨h.ch.trans hc,⟨_,hm,?_,by rw[aJ];show psb.length+1<=_;omega⟩,h.b6,h.a6,h.l6⟩⟩;unfold gz at h2 ⊢;rw[List.filter_append,h2,bB hk];have e:own.getD k []=own[k]:=by rw[ao,aq hk];rfl
 rw[e] at ho ⊢;simp[ho]
theorem II{w:World}{B:Nat}{v:Value}{l:List (List UInt8)}(h:w.ownsRow B 9 1 v l.length (l.map SV))(hn:l.length<=1000)(hl:∀p∈l,p.length<=255):∃A c,v=.slice A l.length c/\pj w A l.length (fun i=>l.getD i [])/\(∀b,v.ownBlock=some b→B<=b):=by
 have sz:∀i,(l.getD i []).length<=9223372036854775807:=fun i=>by
  rw[ao]
  cases hi:l[i]? with
  | none=>simp
  | some q=>have:=hl q (aH hi);show q.length<=_;omega
 have lt:=h.lt;rcases h.2 with⟨rfl,h0⟩|⟨g,cap,cur,rfl,hb,hg,hnc,hcm,hcs,htk⟩
 .exact⟨none,0,by rw[h0],⟨sz,by omega,fun hp=>absurd hp (by omega)⟩,fun b hb=>by cases hb⟩
 .refine⟨_,cap,rfl,⟨sz,by omega,fun _=>⟨g,0,rfl,(aD.1 hg).1,fun i hi=>?_⟩⟩,fun b hb=>(lt b hb).1⟩
  have:=h.cells (g:=g) rfl i (SV (l.getD i [])) (by rw[aR,ao,aq hi];rfl);rw[show(⟨g,0,none⟩:Addr).add i=⟨g,i,none⟩ by unfold Addr.add;split <;> simp_all] at this;rw[bM];exact this
theorem Lp{t:Int}{l:List (List UInt8)}{i:Nat}(h:i<(gz t l).length):mV t ((gz t l).getD i [])=true/\(gz t l).getD i []∈l:=by
 have e:(gz t l).getD i []=(gz t l)[i]:=by rw[ao,aq h];rfl
 rw[e];have:=aF h;unfold gz at this;obtain⟨h1,h2⟩:=List.mem_filter.1 this;exact⟨h2,h1⟩
theorem rZ{f:Nat→List UInt8}{n:Nat}{q:List UInt8}(h:q∈dX f n):∃i,i<n/\q=f i:=by
 unfold dX at h;obtain⟨i,hi,rfl⟩:=List.mem_map.1 h;exact⟨i,List.mem_range.1 hi,rfl⟩
theorem Lq{w:World}{b o c:Nat}{q:List UInt8}(hb:b<w.heap.size)(hc:w.cell? (aj b o)=some (.string (bs q)))(hq:q.length<=255)(t:Int):ak 8 #[ai (aj b o) 1 c,U t] w fun e w'=>∃A cc,e=ae (.slice A (if mV t q then 1 else 0) cc)/\Below w.heap.size w w':=by
 have hs:pj w (some ⟨b,o,none⟩) 1 (fun _=>q):=⟨fun _=>by omega,by omega,fun _=>⟨b,o,rfl,hb,fun i hi=>(by obtain rfl:i=0:=(by omega);exact hc)⟩⟩;refine(AB (c:=c) hs (by omega) t).mono ?_;rintro e w' ⟨v,rfl,ho,hbl⟩;have hl:(gz t (dX (fun _=>q) 1)).length=if mV t q then 1 else 0:=by
  unfold gz dX
  cases h:mV t q <;> simp[h]
 rw[hl] at ho;rcases ho.2 with⟨rfl,h0⟩|⟨g,cap,cur,rfl,_⟩
 .exact⟨none,0,by rw[h0],hbl⟩
 .exact⟨_,cap,rfl,hbl⟩
end Lw
namespace Lw
open Go.RowKit Go.bZ Go.Gc Go.Cf Cn Hd Hp Fm Mc Rf eK
theorem LZ.cells{w W:World}{p:Ip}(h:LZ w W p):(W.cell? (aj w.heap.size)=some (.slice p.g.ac p.g.lc p.g.cc)/\W.cell? (aj w.heap.size 1)=some (U p.g.cB)/\W.cell? (aj w.heap.size 2)=some (.slice p.g.ad p.g.lt p.g.ct)/\W.cell? (aj w.heap.size 3)=some (U p.g.wk)/\W.cell? (aj w.heap.size 4)=some (U p.g.gy)/\W.cell? (aj w.heap.size 5)=some (U p.g.gn))/\W.cell? (aj (w.heap.size+1))=some (.slice p.AL p.nL p.cL)/\W.cell? (aj (w.heap.size+1) 1)=some (.slice p.AM p.nM p.cM)/\W.cell? (aj (w.heap.size+1) 2)=some (ab p.T)/\W.cell? (aj (w.heap.size+1) 3)=some (.slice p.AT p.nT p.cT):=
 ⟨⟨h.b1.cell 0,h.b1.cell 1,h.b1.cell 2,h.b1.cell 3,h.b1.cell 4,h.b1.cell 5⟩,h.b2.cell 0,h.b2.cell 1,h.b2.cell 2,h.b2.cell 3⟩
structure Pk(W:World)(p:Ip)(t:Nat):Prop where
 nz:¬p.g.lt=0
 m1:(p.T:Int).tmod (p.g.lt:Int)=(t:Int)
 m2:(p.T:Int)%(p.g.lt:Int)=(t:Int)
 wr:IntKind.i64.wrap (t:Int)=(t:Int)
 nw:Hid (∃(C:cV) (xs:Nat→V),xs t=v0 C/\∀W1,Below W.heap.size W W1→ak 6 #[.agg #[.slice p.g.ac p.g.lc p.g.cc,U p.g.cB,.slice p.g.ad p.g.lt p.g.ct,U p.g.wk,U p.g.gy,U p.g.gn]] W1 fun e w'=>∃d:MD,e=ae (.tuple #[af (aj d.m),U 0])/\Hid (BI w' d xs/\t<d.hs.length/\d.T.C t=C/\W1.heap.size<d.lo/\d.lo<=d.m/\Below W1.heap.size W1 w'))
theorem PG{w W:World}{p:Ip}(HX:∀W1,Below W.heap.size W W1→LZ w W1 p)(k:C6 p.g):∃t,Pk W p t:=by
 obtain⟨c,ok,cf,hv,hl,hc⟩:=ID (HX W (bV _ _)).ip.cg k;have h1:=k.2.2.1.1;have h8:=k.2.2.1.2;have hT:=(HX W (bV _ _)).ip.T;have lt:p.T%p.g.lt<p.g.lt:=Nat.mod_lt _ (by omega);refine⟨p.T%p.g.lt,by omega,by rw[Int.tmod_eq_emod_of_nonneg (by omega)];exact(Int.natCast_emod _ _).symm,(Int.natCast_emod _ _).symm,Go.IntWalk.i64_in _ (by omega),bU ⟨iH c (p.T%p.g.lt),fun t=>v0 (iH c t),rfl,fun W1 hb=>?_⟩⟩;have X:=HX W1 hb;obtain⟨c2,RX,WT,Qk,qd,jT⟩:=ID X.ip.cg k;rw[hv];refine(Mc.fQ (c:=c) ⟨cf.cA ok hb,ok,hc,X.ip.gw,X.ip.de,X.ip.d2⟩).mono ?_;rintro e w' ⟨d,rfl,bi,hhl,hC,lo,lm,hbl⟩;exact⟨d,rfl,bU ⟨bi,by rw[hhl,hl];exact lt,hC _ (by rw[hl];exact lt),lo,lm,hbl⟩⟩
set_option maxHeartbeats 8000000 in
theorem Lr{w:World}{p:Ip}(h:PF w p):ak 3 #[.agg #[.slice p.g.ac p.g.lc p.g.cc,U p.g.cB,.slice p.g.ad p.g.lt p.g.ct,U p.g.wk,U p.g.gy,U p.g.gn],.agg #[.slice p.AL p.nL p.cL,.slice p.AM p.nM p.cM,ab p.T,.slice p.AT p.nT p.cT]] w fun e w'=>e=ae (.bool true)/\Below w.heap.size w w':=by
 obtain⟨W,hW⟩:=al ((w.alloc (.cells #[.slice p.g.ac p.g.lc p.g.cc,U p.g.cB,.slice p.g.ad p.g.lt p.g.ct,U p.g.wk,U p.g.gy,U p.g.gn] 25)).alloc (.cells #[.slice p.AL p.nL p.cL,.slice p.AM p.nM p.cM,ab p.T,.slice p.AT p.nT p.cT] 29));have hB:Below w.heap.size w W:=by rw[←hW];exact bA (bA (bV _ _) (av _) _) (av _) _
 have X0:LZ w W p:=⟨h.cA hB,by rw[←hW];exact cj.gR w _ _ _ _,by rw[←hW];exact cj.jf w _ _ _ _,hB⟩;have HX:Hid (∀W1,Below W.heap.size W W1→LZ w W1 p):=bU (fun W1 hb=>X0.cA hb);have HC:=bU (fun W1 (hb:Below W.heap.size W W1)=>(HX.out W1 hb).cells);have HFL:=bU (fun W1 (hb:Below W.heap.size W W1)=>AA (c:=p.cL) (HX.out W1 hb).ip.cg (HX.out W1 hb).ip.l);have HFM:Hid (∀W1,Below W.heap.size W W1→ak 4 #[.agg #[.slice p.g.ac p.g.lc p.g.cc,U p.g.cB,.slice p.g.ad p.g.lt p.g.ct,U p.g.wk,U p.g.gy,U p.g.gn],.slice p.AM p.nM p.cM,U 80] W1 fun e w'=>∃b:Bool,e=ae (.bool b)/\Hid (b=true→(∀i,i<p.nM→(p.fM i).length<=255)/\p.nM<=80/\C6 p.g)/\Below W1.heap.size W1 w'):=bU (fun W1 hb=>(AA (c:=p.cM) (HX.out W1 hb).ip.cg (HX.out W1 hb).ip.m).mono (fun e w' ⟨b,he,hk,hb⟩=>⟨b,he,bU hk,hb⟩));have HAw:=bU (fun W1 (hb:Below W.heap.size W W1)=>Aw.DX (HX.out W1 hb).ip.gw (HX.out W1 hb).ip.de (HX.out W1 hb).ip.d2);have HP:Hid (C6 p.g→∃t,Pk W p t):=bU (fun k=>PG HX.out k);have dL:ak 4 #[.agg #[.slice p.g.ac p.g.lc p.g.cc,U p.g.cB,.slice p.g.ad p.g.lt p.g.ct,U p.g.wk,U p.g.gy,U p.g.gn],.slice p.AL p.nL p.cL,U 80] W fun e w'=>∃b:Bool,e=ae (.bool b)/\Hid (b=true→(∀i,i<p.nL→(p.fL i).length<=255)/\p.nL<=80/\C6 p.g)/\Below W.heap.size W w':=(HFL.out W (bV _ _)).mono (fun e w' ⟨b,he,hk,hb⟩=>⟨b,he,bU hk,hb⟩)
 obtain⟨⟨y0,y1,y2,y3,y4,y5⟩,z0,z1,z2,z3⟩:=X0.cells;have bx:=X0.b1;have HBW:=bU hB;have t256:=h.T;have hwT:IntKind.i64.wrap (p.T:Int)=(p.T:Int):=Go.IntWalk.i64_in _ (by omega);clear h X0 hB HFL;go_enter func3,ntmps3;go_wp2_with (first
  | (go_at_call 4;(with_reducible refine dL.mono ?_);rintro e w1 ⟨b1,rfl,uM,hb⟩;clear y0 y1 y2 y3 y4 y5 z0 z1 z2 z3 bx;obtain⟨⟨y0,y1,y2,y3,y4,y5⟩,z0,z1,z2,z3⟩:=HC.out w1 hb;have dM:=HFM.out w1 hb;have dA:=HAw.out w1 hb;have H1:=bU hb;clear hb;cases b1)
  | (go_at_call 4;(with_reducible refine dM.mono ?_);rintro e w2 ⟨b2,rfl,Ec,hb⟩;clear y0 y1 y2 y3 y4 y5 z0 z1 z2 z3;obtain⟨⟨y0,y1,y2,y3,y4,y5⟩,z0,z1,z2,z3⟩:=HC.out w2 (fj H1.out hb);have Tg:=HAw.out w2 (fj H1.out hb);have H2:=bU (fj H1.out hb);clear hb dA dM;cases b2;rotate_left;obtain⟨t,nz,m1,m2,VV,nw⟩:=HP.out (Ec.out rfl).2.2;obtain⟨C,xs,uI,hnew⟩:=nw.out;have dN:=hnew w2 H2.out;have HN:=bU hnew;have Th:=bU uI;clear hnew nw uI)
  | (go_at_call 5;(with_reducible refine dA.mono ?_);rintro e w9 ⟨rfl,hb⟩;have HZ:Hid (Below w.heap.size w w9):=bU (bT HBW.out (fj H1.out hb) HBW.out.size);clear hb)
  | (go_at_call 5;(with_reducible refine Tg.mono ?_);rintro e w9 ⟨rfl,hb⟩;have HZ:Hid (Below w.heap.size w w9):=bU (bT HBW.out (fj H2.out hb) HBW.out.size);clear hb)
  | (go_at_call 6;(with_reducible refine dN.mono ?_);rintro e w3 ⟨da,rfl,hA⟩;clear y0 y1 y2 y3 y4 y5 z0 z1 z2 z3 Tg;have H3:Hid (Below W.heap.size W w3):=bU (fj H2.out hA.out.2.2.2.2.2);obtain⟨⟨y0,y1,y2,y3,y4,y5⟩,z0,z1,z2,z3⟩:=HC.out w3 H3.out;have Qa:=HN.out w3 H3.out;clear dN)
  | (go_at_call 6;(with_reducible refine Qa.mono ?_);rintro e w4 ⟨db,rfl,hB⟩;clear y0 y1 y2 y3 y4 y5 z0 z1 z2 z3;have H4:Hid (Below W.heap.size W w4):=bU (fj H3.out hB.out.2.2.2.2.2);clear Qa))
 all_goals first|(go_ret;exact⟨rfl,HZ.out⟩)|skip
 obtain⟨bia,ta,Ca,VW,Tj,hba⟩:=hA.out;obtain⟨bib,tb,Cb,VX,Tk,hbb⟩:=hB.out;have s2:=H2.out.size;have ma:=bia.mb.lt;have mb:=bib.mb.lt;have hS:Hid (RF W da db w4.heap.size):=bU ⟨⟨by omega,Tj⟩,⟨by omega,Tk,mb⟩,by
  have:=(HX.out W (bV _ _)).ip.d2;exact this⟩
 have ND:Hid (LA W w4 da db w4.heap.size t (v0 C) xs (dX p.fL 0)):=bU (by
  have:=MR.born (bia.cA hbb) ta;rw[Th.out] at this;exact⟨H4.out,this,bib,av _⟩)
 have HT:=bU (And.intro ta (And.intro Ca (And.intro tb Cb)));have HlL:=bU (uM.out (by simp)).1;have HnL:=bU (uM.out (by simp)).2.1;have HlM:=bU (Ec.out (by simp)).1;have HnM:=bU (Ec.out (by simp)).2.1;clear bia bib ta tb Ca Cb VW Tj VX Tk hba hbb s2 ma mb hA hB uM Ec nz m1 m2 VV HN HP HFM dL H1 H2 H3 H4 t256 hwT
 go_loopw [10] (fun i wr=>∃k:Nat,k<=p.nL/\i=U k/\Hid (LA W wr da db w4.heap.size t (v0 C) xs (dX p.fL k))) (fun i _=>p.nL-(intOf i).toNat)
 case atStart=>exact⟨0,by omega,rfl,ND⟩
 case round=>
  obtain⟨k,hk,rfl,HL⟩:=hrel;obtain⟨-,z0,z1,z2,z3⟩:=HC.out wr HL.out.bl;have nL:=HnL.out;by_cases hlt:k<p.nL
  .obtain⟨b,o,eA,-,hc⟩:=(HX.out wr HL.out.bl).ip.l.at_ (by omega)
   have ck:=hc k hlt;rw[eA] at z0;have dD:=HL.out.next hS.out (by rw[nK];omega) (p.fL k) (by have:=HlL.out k hlt;omega);have hf:=mC p.fL k;rw[←hf] at dD;clear hc hf eA;go_wp2_with (go_at_call 7;(with_reducible refine dD.mono ?_);rintro e w5 ⟨v,rfl,F3⟩)
   go_roundw
   case rel=>exact⟨k+1,by omega,by go_num,F3⟩
   case measure=>simp[intOf];omega
  .obtain rfl:k=p.nL:=by omega
   have dO:ak 8 #[.slice p.AL p.nL p.cL,U t] wr fun e w'=>∃A m c,e=ae (.slice A m c)/\Hid (m=(gz t (dX p.fL p.nL)).length/\pj w' A m (fun i=>(gz t (dX p.fL p.nL)).getD i [])/\(∀b o,A=some ⟨b,o,none⟩→wr.heap.size<=b)/\Below wr.heap.size wr w'):=by
    refine(AB (c:=p.cL) (HX.out wr HL.out.bl).ip.l (by omega) (t:Int)).mono ?_;rintro e w' ⟨v,rfl,ho,hb⟩;have hle:=rX (t:Int) p.fL p.nL;obtain⟨A,c,rfl,hs,hbk⟩:=II ho (by omega) (fun q hq=>by
     have hm:q∈dX p.fL p.nL:=(List.mem_filter.1 hq).1;obtain⟨i,hi,rfl⟩:=rZ hm;exact HlL.out i hi)
    exact⟨A,_,c,rfl,bU ⟨rfl,hs,fun b o e=>hbk b (by rw[e];rfl),hb⟩⟩
   go_wp2_with (go_at_call 8;(with_reducible refine dO.mono ?_);rintro e w6 ⟨A,m,c6,rfl,HO⟩)
   obtain⟨hm,hs,hbk,LH⟩:=HO.out;generalize hown:gz (t:Int) (dX p.fL p.nL)=own at *;have lO:Hid (LB W w6 w6 da db w4.heap.size w6.heap.size t (v0 C) (dX p.fL p.nL) own 0 0):=bU (by
    obtain⟨-,tb,Cb⟩:=HT.out.2;have:=MR.born (HL.out.b.cA LH) HT.out.2.2.1;rw[Th.out] at this;have l:=HL.out.ls;have s6:=LH.size;exact⟨cu.refl _ _,⟨[],this,by unfold gz;simp,av _⟩,fj HL.out.bl LH,HL.out.a.cA LH,by omega,av _,av _⟩)
   have HOw:Hid (∀i,i<own.length→mV t (own.getD i [])=true/\(own.getD i []).length<=255):=bU (fun i hi=>by
    rw[←hown] at hi ⊢;obtain⟨h1,h2⟩:=Lp hi;obtain⟨j,hj,e⟩:=rZ h2;refine⟨h1,?_⟩;rw[e];exact HlL.out j hj)
   have HCe:Hid (0<m→∃b o,A=some ⟨b,o,none⟩/\∀RG a k,LB W w6 RG da db w4.heap.size w6.heap.size t (v0 C) (dX p.fL p.nL) own a k→∀i,i<m→RG.cell? (aj b (o+i))=some (.string (bs (own.getD i [])))):=bU (fun hp=>by
    obtain⟨b,o,e,hl,hc⟩:=hs.at_ hp;refine⟨b,o,e,fun RG a k q i hi=>?_⟩;have h1:=hbk b o e;have h2:=HL.out.ls;have h3:=hS.out.b1;exact(World.cell?_of_block (w:=w6) (q.ch.block b hl (fun hk=>by rcases hk with hk|hk <;> omega))).trans (hc i hi))
   have HM:Hid (m=own.length):=bU hm;have HOWN:=bU hown;have mle:m<=80:=by
    have:=rX (t:Int) p.fL p.nL;rw[hown] at this;omega
   have nM:=HnM.out;clear hm hs hbk LH HO dO ND z0 z1 z2 z3 hown
   go_loopw [12,13] (fun va vi wr=>∃(a k:Nat),a<=p.nM/\k<=m/\va=U a/\vi=U k/\Hid (LB W w6 wr da db w4.heap.size w6.heap.size t (v0 C) (dX p.fL p.nL) own a k)) (fun _ vi _=>m-(intOf vi).toNat)
   case atStart=>exact⟨0,0,by omega,by omega,rfl,rfl,lO⟩
   case round=>
    obtain⟨a,k,ha,hk,rfl,rfl,HB⟩:=hrel;obtain⟨-,-,z1,-,z3⟩:=HC.out wr (HB.out.bl hS.out);by_cases hlt:k<m
    .go_upto_region 17 with fail
     go_cut [14] (fun v wx=>v=U 0/\wx=wr)
     case first=>
      go_wp2_with fail
      go_meet
      exact⟨rfl,rfl⟩
     case rest=>
     obtain⟨rfl,ew⟩:=hcut;rw[ew];rename_i ON;refine ON _ _ ?_;clear ON ew;apply wp_seq_k;intro _ _
     go_cut [14] (fun v wx=>∃q:Nat,q<=7/\v=U q/\wx=wr)
     case first=>
      by_cases VY:k<p.nT
      .obtain⟨b,o,eA,-,hc⟩:=(HX.out wr (HB.out.bl hS.out)).ip.tr (by omega)
       have ck:=hc k VY;have RH:=(HX.out wr (HB.out.bl hS.out)).ip.tb k;rw[eA] at z3;generalize p.fT k=y at *;have r1:(y:Int).tmod 8=((y%8:Nat):Int):=by rw[Int.tmod_eq_emod_of_nonneg (by omega)];omega
       have r2:(y:Int)%8=((y%8:Nat):Int):=by omega
       have y8:y%8<8:=Nat.mod_lt _ (by omega);generalize y%8=q at *;have r3:IntKind.i64.wrap (q:Int)=(q:Int):=Go.IntWalk.i64_in _ (by omega);clear hc eA RH;go_wp2_with fail
       go_meet
       exact⟨q,by omega,rfl,rfl⟩
      .go_wp2_with fail
       go_meet
       exact⟨0,by omega,rfl,rfl⟩
     case rest=>
     obtain⟨q,hq,rfl,ew⟩:=hcut;rw[ew];clear ew;go_wp2_with fail
     go_loopw [12,15] (fun va vn wr=>∃(a j:Nat),a<=p.nM/\j<=8/\va=U a/\vn=U j/\Hid (LB W w6 wr da db w4.heap.size w6.heap.size t (v0 C) (dX p.fL p.nL) own a k)) (fun _ vn _=>8-(intOf vn).toNat)
     case atStart=>exact⟨a,0,ha,by omega,rfl,rfl,HB⟩
     case round=>
      obtain⟨a2,j,N4,hj,rfl,rfl,kM⟩:=hrel;clear z1 z3;obtain⟨-,-,z1,-,-⟩:=HC.out wr (kM.out.bl hS.out);by_cases c1:j<q
      .by_cases c2:a2<p.nM
       .have ip:=(HX.out wr (kM.out.bl hS.out)).ip
        obtain⟨b,o,eM,hbl,hc⟩:=ip.m.at_ (by omega);have ck:=hc a2 c2;have mc:=ip.mc;have lq:=HlM.out a2 c2;have hcl:Hid (∀w7,Below wr.heap.size wr w7→w7.cell? (aj (w.heap.size+1) 1)=some (ai (aj b o) p.nM p.cM)/\w7.cell? (aj b (o+a2))=some (.string (bs (p.fM a2)))):=bU (fun w7 h7=>by
         have z:=(HC.out w7 (fj (kM.out.bl hS.out) h7)).2.2.1;rw[eM] at z;exact⟨z,(h7.cell hbl).trans ck⟩)
        have dO:=Lq (c:=p.cM-a2) hbl ck lq (t:Int);rw[eM] at z1
        cases hob:mV (t:Int) (p.fM a2)
        .have HD:Hid (∀w7,Below wr.heap.size wr w7→ak 7 #[af (aj db.m),.string (bs (p.fM a2))] w7 fun e w'=>∃v,e=ae v/\Hid (LB W w6 w' da db w4.heap.size w6.heap.size t (v0 C) (dX p.fL p.nL) own (a2+1) k)):=bU (fun w7 h7=>(kM.out.up h7).other (by omega) (by omega) hob)
         rw[hob] at dO;simp only[if_false,Bool.false_eq_true] at dO;clear hc lq hob ip eM;go_wp2_with (first
          | (go_at_call 8;(with_reducible refine dO.mono ?_);rintro e w7 ⟨A7,c7,rfl,Ot⟩;clear z1 ck;obtain⟨z1,ck⟩:=hcl.out w7 Ot;have dD:=HD.out w7 Ot;clear Ot)
          | (go_at_call 7;(with_reducible refine dD.mono ?_);rintro e w8 ⟨v,rfl,F3⟩))
         go_roundw
         case rel=>exact⟨a2+1,j+1,by omega,by omega,by go_num,by go_num,F3⟩
         case measure=>simp[intOf];omega
        .rw[hob] at dO
         simp only[if_true] at dO;clear hc lq hob ip eM;go_wp2_with (go_at_call 8;(with_reducible refine dO.mono ?_);rintro e w7 ⟨A7,c7,rfl,Ot⟩;have F3:=bU (kM.out.skip.up Ot);clear Ot)
         go_roundw
         case rel=>exact⟨a2+1,j+1,by omega,by omega,by go_num,by go_num,F3⟩
         case measure=>simp[intOf];omega
       .obtain rfl:a2=p.nM:=by omega
        obtain⟨bo,oo,eo,hce⟩:=HCe.out (by omega);have co:=hce wr p.nM k kM.out k hlt;obtain⟨ob,ol⟩:=HOw.out k (by rw[←HM.out];exact hlt);have dD:=kM.out.own (by omega) (by rw[←HM.out];exact hlt) (by omega) ob;subst eo;clear hce ob ol;generalize own.getD k []=qo at *;go_wp2_with (go_at_call 7;(with_reducible refine dD.mono ?_);rintro e w8 ⟨v,rfl,F3⟩)
        go_roundw
        case rel=>exact⟨p.nM,k+1,by omega,by omega,by first|rfl|trivial,by go_num,F3⟩
        case measure=>simp[intOf];omega
      .obtain⟨bo,oo,eo,hce⟩:=HCe.out (by omega)
       have co:=hce wr a2 k kM.out k hlt;obtain⟨ob,ol⟩:=HOw.out k (by rw[←HM.out];exact hlt);have dD:=kM.out.own (by omega) (by rw[←HM.out];exact hlt) (by omega) ob;subst eo;clear hce ob ol;generalize own.getD k []=qo at *;go_wp2_with (go_at_call 7;(with_reducible refine dD.mono ?_);rintro e w8 ⟨v,rfl,F3⟩)
       go_roundw
       case rel=>exact⟨a2,k+1,by omega,by omega,by first|rfl|trivial,by go_num,F3⟩
       case measure=>simp[intOf];omega
    .obtain rfl:k=m:=by omega
     obtain⟨ta,Ca,tb,Cb⟩:=HT.out;have ma:=HB.out.a6;obtain⟨psb,mb,hpb,lb⟩:=HB.out.b;have hbl:=HB.out.bl hS.out;rw[show own.take k=own by rw[HM.out];exact bK] at hpb;have hre:reqs (t:Int) psb=reqs (t:Int) (dX p.fL p.nL):=by unfold reqs;rw[hpb,HOWN.out]
     have lo:(gz (t:Int) (dX p.fL p.nL)).length=k:=by rw[HOWN.out];exact HM.out.symm
     have RI:(gz (t:Int) psb).length=k:=by rw[hpb];exact HM.out.symm
     have Tl:MR wr da w4.heap.size t (v0 C) (dX p.fL p.nL):=ma.bY HB.out.ch (fun j h1 h2=>by
      have s1:=hS.out.a1;have s2:=hS.out.b1;have s3:=hS.out.w2;rcases h2 with h2|h2 <;> omega)
     have HTa:Hid (∀w1,Below wr.heap.size wr w1→ak 9 #[af (aj da.m),U t] w1 fun e w2=>∃A c,e=ae (.slice A k c)/\Hid (mD w2 (.slice A k c) (pN C (v0 C) (reqs t (dX p.fL p.nL))))/\Below w1.heap.size w1 w2):=bU (fun w1 h1=>by
      refine((Tl.cA h1).trace (by rw[nK];omega)).mono ?_;rintro e w2 ⟨v,A,c,rfl,rfl,hs,hb⟩;rw[Ca,lo] at hs;rw[lo];exact⟨A,c,rfl,bU hs,hb⟩)
     have HTb:Hid (∀w1,Below wr.heap.size wr w1→ak 9 #[af (aj db.m),U t] w1 fun e w2=>∃A c,e=ae (.slice A k c)/\Hid (mD w2 (.slice A k c) (pN C (v0 C) (reqs t (dX p.fL p.nL))))/\Below w1.heap.size w1 w2):=bU (fun w1 h1=>by
      refine((mb.cA h1).trace (by omega)).mono ?_;rintro e w2 ⟨v,A,c,rfl,rfl,hs,hb⟩;rw[Cb,RI,hre] at hs;rw[RI];exact⟨A,c,rfl,bU hs,hb⟩)
     have HAz:Hid (∀w1,Below wr.heap.size wr w1→ak 5 #[] w1 fun e w'=>e=ae (.bool true)/\Below w1.heap.size w1 w'):=bU (fun w1 h1=>HAw.out w1 (fj hbl h1));have HSm:=bU (fun w1 va vb L (h1:mD w1 va L) (h2:mD w1 vb L)=>IA h1 h2);have HBR:Hid (Below w.heap.size w wr):=bU (bT HBW.out hbl HBW.out.size);have Tm:=HTa.out wr (bV _ _);clear ta Ca tb Cb ma mb hpb lb hbl hre lo RI Tl z1 z3;go_wp2_with (first
      | (go_at_call 9;(with_reducible refine Tm.mono ?_);rintro e w1 ⟨A1,c1,rfl,Fe,hb⟩;have G1:=bU hb;have To:=HTa.out w1 hb;clear hb Tm)
      | (go_at_call 9;(with_reducible refine To.mono ?_);rintro e w2 ⟨A2,c2,rfl,pK,hb⟩;have G2:=bU (fj G1.out hb);have Tp:=HTb.out w2 G2.out;clear hb To)
      | (go_at_call 9;(with_reducible refine Tp.mono ?_);rintro e w3 ⟨A3,c3,rfl,MT,hb⟩;have G3:=bU (fj G2.out hb);have dS:=HSm.out w3 _ _ _ (pK.out.cA hb) MT.out;clear hb Tp)
      | (go_at_call 10;(with_reducible refine dS.mono ?_);rintro e w5 ⟨rfl,hb⟩;have G5:=bU (fj G3.out hb);have dA:=HAz.out w5 G5.out;clear hb dS)
      | (go_at_call 5;(with_reducible refine dA.mono ?_);rintro e w7 ⟨rfl,hb⟩;have G7:=bU (fj G5.out hb);clear hb dA))
     go_ret;exact⟨rfl,bT HBR.out G7.out HBR.out.size⟩
end Lw
namespace Op
open Go.ChangeShapes Go.WideShapes Go.ChangeAt Go.RowKit Go.Deep Go.bZ Rf Lw eK
theorem own:ownKnob prog.godebug=none:=by kernel_rfl
theorem laidOut:laidOutB prog=true:=by kernel_rfl
theorem c3:prog.cellsOf 3=1:=by kernel_rfl
theorem c5:prog.cellsOf 5=1:=by kernel_rfl
theorem c9:prog.cellsOf 9=1:=by kernel_rfl
theorem VZ:prog.cellsOf 22=1:=by kernel_rfl
theorem V4:prog.cellsOf 23=1:=by kernel_rfl
theorem V8:prog.cellsOf 25=6:=by kernel_rfl
theorem V9:prog.cellsOf 26=1:=by kernel_rfl
theorem Wa:prog.cellsOf 27=1:=by kernel_rfl
theorem Wb:prog.cellsOf 29=4:=by kernel_rfl
theorem Tq:prog.cellsOf 50=4:=by kernel_rfl
theorem IJ{n:Int}(h:(Lit.int .u8 n).wf=true):∃m:Nat,n=m/\m<256:=by
 have h':IntKind.u8.min<=n/\n<=IntKind.u8.max:=by simpa[Lit.wf] using h
 have h0:(0:Int)<=n:=h'.1;have h1:n<=255:=h'.2;exact⟨n.toNat,by omega,by omega⟩
theorem Ls:maxLen=9223372036854775807:=by kernel_rfl
theorem nO(b off i:Nat):(⟨b,off,none⟩:Addr).add i=⟨b,off+i,none⟩:=by unfold Addr.add;split <;> simp_all
section
variable {H:Type} {enc:TypeId×Value→H} {W:World}
theorem AE{t e:TypeId}{k:IntKind}{fuel:Nat}{v:Value}{x:DataW H×List MemPlace}(ht:prog.underlying t=some (.slice e))(he:prog.underlying e=some (.int k))(hc:prog.cellsOf e=1)
 (h:DataW.trod enc prog W 0 (fun _=>true) true fuel t [v]=some x):∃(A:Option Addr) (n c:Nat) (f:Nat→Int),v=.slice A n c/\n<=c/\n<=9223372036854775807/\(∀i,f i=0\/(Lit.int k (f i)).wf=true)/\
   (0<n→∃b o,A=some ⟨b,o,none⟩/\b<W.heap.size/\∀i,i<n→W.cell? (aj b (o+i))=some (.int k (f i))):=by
 rcases open_ints ht he hc h with⟨hcs,_⟩|⟨a,len,cap,zs,hcs,_,hl,hm,hz,hx,fu,hwz⟩
 .obtain rfl:v=ai none 0 0:=by simpa using hcs
  exact⟨none,0,0,fun _=>0,rfl,av _,by omega,fun _=>.inl rfl,fun h=>absurd h (by decide)⟩
 .obtain rfl:v=ai (some a) len cap:=by simpa using hcs
  simp only[if_true] at hz;rw[Ls] at hm;refine⟨some a,len,cap,fun i=>zs.getD i 0,rfl,hl,by omega,fun i=>?_,fun hpos=>?_⟩
  .simp only[ao]
   cases e:zs[i]? with
   | none=>exact .inl rfl
   | some z=>exact .inr (hwz z (aH e))
  obtain⟨b,off,spot⟩:=a;have h0:=fu 0 (by omega);have hspot:spot=none:=by simpa[Addr.add] using World.cell?_spot h0
  subst hspot;have e0:=fu 0 (by omega);rw[nO] at e0;refine⟨b,off,rfl,World.block_lt_of_cell? W _ e0,fun i hi=>?_⟩;have:=fu i (by omega)
  rwa [nO] at this
theorem AG{fuel:Nat}{v:Value}{x:DataW H×List MemPlace}
 (h:DataW.trod enc prog W 0 (fun _=>true) true fuel 26 [v]=some x):∃(A:Option Addr) (n c:Nat) (f:Nat→List UInt8),v=.slice A n c/\n<=c/\pj W A n f:=by
 rcases open_strs underlying26 underlying9 c9 h with⟨hcs,_⟩|⟨a,len,cap,m,Sx,hcs,_,hl,hm,hmm,hx,fu⟩
 .obtain rfl:v=ai none 0 0:=by simpa using hcs
  exact⟨none,0,0,fun _=>[],rfl,av _,⟨fun _=>by simp,by omega,fun h=>absurd h (by decide)⟩⟩
 .obtain rfl:v=ai (some a) len cap:=by simpa using hcs
  simp only[if_true] at hmm;subst hmm;rw[Ls] at hm;refine⟨some a,len,m,fun i=>if i<len then(Sx i).data.toList else[],rfl,hl,⟨fun i=>?_,by omega,fun hpos=>?_⟩⟩
  .by_cases hi:i<len
   .rw[if_pos hi]
    have:=(fu i (by omega)).2;rw[Ls] at this;rw[Array.length_toList];show(Sx i).size<=_;omega
   .rw[if_neg hi];simp
  .obtain⟨b,off,spot⟩:=a
   have h0:=(fu 0 (by omega)).1;have hspot:spot=none:=by simpa[Addr.add] using World.cell?_spot h0
   subst hspot;rw[nO] at h0;refine⟨b,off,rfl,World.block_lt_of_cell? W _ h0,fun i hi=>?_⟩;have:=(fu i (by omega)).1;rw[nO] at this;rw[this,if_pos hi];unfold bs;simp
theorem D0{fuel:Nat}{cs:List Value}{x:DataW H×List MemPlace}(h:DataW.trod enc prog W 0 (fun _=>true) true fuel 50 cs=some x):∃z0 z1 z2 z3:Int,cs=[U z0,U z1,U z2,U z3]:=by
 obtain⟨xs,n,_,_,hsz,hlen,hg⟩:=DataW.trod_struct underlying50 h;rw[Tq] at hsz
 match cs,hsz with
 | [y0,y1,y2,y3],_=>
  match xs,hlen with
  | [x0,x1,x2,x3],_=>
   have g0:DataW.trod enc prog W 0 (fun _=>true) true n 3 (([y0,y1,y2,y3].drop 0).take (prog.cellsOf 3))=some x0:=hg 0 _ rfl;have g1:DataW.trod enc prog W 0 (fun _=>true) true n 3 (([y0,y1,y2,y3].drop 1).take (prog.cellsOf 3))=some x1:=hg 1 _ rfl;have g2:DataW.trod enc prog W 0 (fun _=>true) true n 3 (([y0,y1,y2,y3].drop 2).take (prog.cellsOf 3))=some x2:=hg 2 _ rfl;have g3:DataW.trod enc prog W 0 (fun _=>true) true n 3 (([y0,y1,y2,y3].drop 3).take (prog.cellsOf 3))=some x3:=hg 3 _ rfl;rw[c3] at g0 g1 g2 g3;obtain⟨a0,e0,_,_⟩:=DataW.trod_int underlying3 g0;obtain⟨a1,e1,_,_⟩:=DataW.trod_int underlying3 g1;obtain⟨a2,e2,_,_⟩:=DataW.trod_int underlying3 g2;obtain⟨a3,e3,_,_⟩:=DataW.trod_int underlying3 g3;simp at e0 e1 e2 e3;subst e0 e1 e2 e3;exact⟨a0,a1,a2,a3,rfl⟩
theorem yW{fuel:Nat}{v:Value}{x:DataW H×List MemPlace}
 (h:DataW.trod enc prog W 0 (fun _=>true) true fuel 23 [v]=some x):∃(A:Option Addr) (n c:Nat) (f:Nat→Int×Int×Int×Int),v=.slice A n c/\n<=c/\n<=9223372036854775807/\
   (0<n→∃b o,A=some ⟨b,o,none⟩/\b<W.heap.size/\∀i,i<n→W.cell? (aj b (o+i*4))=some (U (f i).1)/\W.cell? (aj b (o+i*4+1))=some (U (f i).2.1)/\W.cell? (aj b (o+i*4+2))=some (U (f i).2.2.1)/\W.cell? (aj b (o+i*4+3))=some (U (f i).2.2.2)):=by
 rcases open_slice underlying23 h with⟨hcs,_⟩|⟨a,len,cap,m,n,D,Pl,hcs,_,hl,hm,hmm,hx,hall⟩
 .obtain rfl:v=ai none 0 0:=by simpa using hcs
  exact⟨none,0,0,fun _=>(0,0,0,0),rfl,av _,by omega,fun h=>absurd h (by decide)⟩
 .obtain rfl:v=ai (some a) len cap:=by simpa using hcs
  simp only[if_true] at hmm;subst hmm;rw[Ls] at hm;rw[Tq] at hall;have key:∀i,i<m→∃z:Int×Int×Int×Int,∀j,j<4→W.cell? ((a.add (i*4)).add j)=some (U (if j=0 then z.1 else if j=1 then z.2.1 else if j=2 then z.2.2.1 else z.2.2.2)):=fun i hi=>by
   obtain⟨WU,h1,h2⟩:=hall i hi;obtain⟨z0,z1,z2,z3,rfl⟩:=D0 h2;obtain⟨_,_,fu⟩:=World.cells?_some h1;refine⟨(z0,z1,z2,z3),fun j hj=>?_⟩;rw[fu j (by omega)]
   match j,hj with
   | 0,_=>rfl
   | 1,_=>rfl
   | 2,_=>rfl
   | 3,_=>rfl
  obtain⟨f,hf⟩:=choose_lt (α:=Int×Int×Int×Int) key;refine⟨some a,len,m,f,rfl,hl,by omega,fun hpos=>?_⟩;obtain⟨b,off,spot⟩:=a;have h0:=hf 0 (by omega) 0 (by omega);rw[add_add] at h0;have hspot:spot=none:=by simpa[Addr.add] using World.cell?_spot h0
  subst hspot;rw[nO] at h0;refine⟨b,off,rfl,World.block_lt_of_cell? W _ h0,fun i hi=>?_⟩;have k:∀j,j<4→W.cell? (aj b (off+i*4+j))=some (U (if j=0 then(f i).1 else if j=1 then(f i).2.1 else if j=2 then(f i).2.2.1 else(f i).2.2.2)):=fun j hj=>by
   have:=hf i (by omega) j hj;rw[nO,nO] at this;exact this
  exact⟨k 0 (by omega),k 1 (by omega),k 2 (by omega),k 3 (by omega)⟩
end
end Op
namespace Op
open Go.ChangeShapes Go.WideShapes Go.ChangeAt Go.RowKit Go.Deep Go.bZ Rf Lw eK
section
variable {H:Type} {enc:TypeId×Value→H} {W:World}
theorem NW{base:Nat}{v:Value}{d:DataW H}{p:List MemPlace}(hv:Value.okWide prog W .any base 25 v)
 (h:DataW.Trod enc prog W 0 (fun _=>true) true 25 v d p):∃g:lI,v=.agg g.cells/\jw W g:=by
 obtain⟨cs,rfl,hsz⟩:=okWide_struct underlying25 hv;obtain⟨l⟩:=cs;rw[V8] at hsz
 match l,hsz with
 | [y0,y1,y2,y3,y4,y5],_=>
  obtain⟨fuel,hf⟩:=h;obtain⟨xs,n,_,_,_,hlen,hg⟩:=DataW.trod_struct underlying25 hf
  match xs,hlen with
  | [x0,x1,x2,x3,x4,x5],_=>
   have g0:DataW.trod enc prog W 0 (fun _=>true) true n 22 (([y0,y1,y2,y3,y4,y5].drop 0).take (prog.cellsOf 22))=some x0:=hg 0 _ rfl;have g1:DataW.trod enc prog W 0 (fun _=>true) true n 3 (([y0,y1,y2,y3,y4,y5].drop 1).take (prog.cellsOf 3))=some x1:=hg 1 _ rfl;have g2:DataW.trod enc prog W 0 (fun _=>true) true n 23 (([y0,y1,y2,y3,y4,y5].drop 2).take (prog.cellsOf 23))=some x2:=hg 2 _ rfl;have g3:DataW.trod enc prog W 0 (fun _=>true) true n 3 (([y0,y1,y2,y3,y4,y5].drop 3).take (prog.cellsOf 3))=some x3:=hg 3 _ rfl;have g4:DataW.trod enc prog W 0 (fun _=>true) true n 3 (([y0,y1,y2,y3,y4,y5].drop 4).take (prog.cellsOf 3))=some x4:=hg 4 _ rfl;have g5:DataW.trod enc prog W 0 (fun _=>true) true n 3 (([y0,y1,y2,y3,y4,y5].drop 5).take (prog.cellsOf 3))=some x5:=hg 5 _ rfl;rw[VZ] at g0;rw[V4] at g2;rw[c3] at g1 g3 g4 g5;obtain⟨a1,e1,_,_⟩:=DataW.trod_int underlying3 g1;obtain⟨a3,e3,_,_⟩:=DataW.trod_int underlying3 g3;obtain⟨a4,e4,_,_⟩:=DataW.trod_int underlying3 g4;obtain⟨a5,e5,_,_⟩:=DataW.trod_int underlying3 g5;simp at e1 e3 e4 e5;subst e1 e3 e4 e5;obtain⟨A,k,c,f,e0,_,b1,_,h1⟩:=AE underlying22 underlying3 c3 (show DataW.trod enc prog W 0 (fun _=>true) true n 22 [y0]=some x0 from g0);obtain⟨B,m,d,f2,e2,b2,b3,h2⟩:=yW (show DataW.trod enc prog W 0 (fun _=>true) true n 23 [y2]=some x2 from g2);subst e0 e2;exact⟨⟨A,k,c,a1,B,m,d,a3,a4,a5,f,fun i=>(f2 i).1,fun i=>(f2 i).2.1,fun i=>(f2 i).2.2.1,fun i=>(f2 i).2.2.2⟩,rfl,⟨h1,h2,b1,b3,b2⟩⟩
theorem NX{base:Nat}{v:Value}{d:DataW H}{p:List MemPlace}(hv:Value.okWide prog W .any base 29 v)
 (h:DataW.Trod enc prog W 0 (fun _=>true) true 29 v d p):∃(AL:Option Addr) (nL cL:Nat) (fL:Nat→List UInt8) (AM:Option Addr) (nM cM:Nat) (fM:Nat→List UInt8) (T:Nat) (AT:Option Addr) (nT cT:Nat) (fT:Nat→Nat),
   v=.agg #[.slice AL nL cL,.slice AM nM cM,ab T,.slice AT nT cT]/\pj W AL nL fL/\pj W AM nM fM/\nM<=cM/\T<256/\nT<=9223372036854775807/\(∀i,fT i<256)/\
   (0<nT→∃b o,AT=some ⟨b,o,none⟩/\b<W.heap.size/\∀i,i<nT→W.cell? (aj b (o+i))=some (ab (fT i:Nat))):=by
 obtain⟨cs,rfl,hsz⟩:=okWide_struct underlying29 hv;obtain⟨l⟩:=cs;rw[Wb] at hsz
 match l,hsz with
 | [y0,y1,y2,y3],_=>
  obtain⟨fuel,hf⟩:=h;obtain⟨xs,n,_,_,_,hlen,hg⟩:=DataW.trod_struct underlying29 hf
  match xs,hlen with
  | [x0,x1,x2,x3],_=>
   have g0:DataW.trod enc prog W 0 (fun _=>true) true n 26 (([y0,y1,y2,y3].drop 0).take (prog.cellsOf 26))=some x0:=hg 0 _ rfl;have g1:DataW.trod enc prog W 0 (fun _=>true) true n 26 (([y0,y1,y2,y3].drop 1).take (prog.cellsOf 26))=some x1:=hg 1 _ rfl;have g2:DataW.trod enc prog W 0 (fun _=>true) true n 5 (([y0,y1,y2,y3].drop 2).take (prog.cellsOf 5))=some x2:=hg 2 _ rfl;have g3:DataW.trod enc prog W 0 (fun _=>true) true n 27 (([y0,y1,y2,y3].drop 3).take (prog.cellsOf 27))=some x3:=hg 3 _ rfl;rw[V9] at g0 g1;rw[c5] at g2;rw[Wa] at g3;obtain⟨a2,e2,_,w2⟩:=DataW.trod_int underlying5 g2;simp at e2;subst e2;obtain⟨T,rfl,hT⟩:=IJ w2;obtain⟨A,k,c,f,e0,_,s1⟩:=AG (show DataW.trod enc prog W 0 (fun _=>true) true n 26 [y0]=some x0 from g0);obtain⟨B,m,d,f2,e1,b2,s2⟩:=AG (show DataW.trod enc prog W 0 (fun _=>true) true n 26 [y1]=some x1 from g1);obtain⟨D,r,q,f3,e3,_,b3,hw,h3⟩:=AE underlying27 underlying5 c5 (show DataW.trod enc prog W 0 (fun _=>true) true n 27 [y3]=some x3 from g3);subst e0 e1 e3;have key:∀i,f3 i=((f3 i).toNat:Nat)/\(f3 i).toNat<256:=fun i=>by
    rcases hw i with h0|h0
    .rw[h0];exact⟨rfl,by decide⟩
    .obtain⟨m',e,hm⟩:=IJ h0
     rw[e];exact⟨rfl,hm⟩
   refine⟨A,k,c,f,B,m,d,f2,T,D,r,q,fun i=>(f3 i).toNat,rfl,s1,s2,b2,hT,b3,fun i=>(key i).2,fun hp=>?_⟩;obtain⟨b,o,eb,hb,hc⟩:=h3 hp;exact⟨b,o,eb,hb,fun i hi=>by rw[hc i hi];congr 2;exact(key i).1⟩
end
end Op
namespace Op
open Go.ChangeShapes Go.WideShapes Go.ChangeAt Go.RowKit Go.bZ Rf Lw Hd
theorem gW:prog.globalNamed "commonage/head.widths"=some 0:=by kernel_rfl
theorem gD:prog.globalNamed "math/bits.deBruijn64tab"=some 2:=by kernel_rfl
theorem tW:(prog.globals[0]?).map (·.type)=some 255:=by kernel_rfl
theorem tD:(prog.globals[2]?).map (·.type)=some 340:=by kernel_rfl
theorem RJ:prog.cellsOf 255=5:=by kernel_rfl
theorem RK:prog.cellsOf 340=64:=by kernel_rfl
def vs:List (String×DataW Unit):=[("math/bits.deBruijn64tab",Rows.laid_math_bits_deBruijn64tab),("commonage/head.widths",Rows.laid_commonage_head_widths)]
theorem Lt{W:World}(h:laidMetH prog vs W):Gw W/\TabAt 2 Lib.deBruijn64tab W/\2<W.heap.size:=by
 rw[MakeChecks.laidMetH_plain _ _ _ (by kernel_rfl)] at h;have hD:Lib.TabIs prog W "math/bits.deBruijn64tab" .u8 (List.map (fun n:Nat=>(n:Int)) Lib.deBruijn64tab):=Lib.tabIs_of_head gD tD underlying340 underlying5 c5 RK h;have h2:=laidMet.tail h;have hW:Lib.TabIs prog W "commonage/head.widths" .i64 [16,16,16,8,8]:=Lib.tabIs_of_head gW tW underlying255 underlying3 c3 RJ h2;have dD:TabAt 2 Lib.deBruijn64tab W:=fun j hj=>by
  have:=hD.cell gD j (by rw[List.length_map];exact hj);rw[this]
  congr 2
  rw[ao,ao,aR,aq hj]
  rfl
 refine⟨⟨hW.cell gW 0 (by decide),hW.cell gW 1 (by decide),hW.cell gW 2 (by decide),hW.cell gW 3 (by decide),hW.cell gW 4 (by decide)⟩,dD,?_⟩;exact World.block_lt_of_cell? W _ (dD 0 (by decide))
theorem IK(os:Os)(args:Array Value):laidMetH prog vs ((World.doorLaid prog 400 os).forCall (fun _ _=>0) ⟨#[],args,[]⟩).memory:=
 laidMetH_of_parts3 (fuel:=8) (laidMet_of_run' 8 (by kernel_rfl) (by kernel_rfl)) (by kernel_rfl) (by kernel_rfl)
end Op
end Go.Proofs.YtgblmelijlgimaaGreatDoor
