/- Parts of the proof of TopApart. -/
import Derived.Test.YtgblmelijlgimaaGreatDoorZTopAL
set_option maxRecDepth 100000
namespace Go.Gc
def eG.cells(e:eG):List Value:=[U e.state,U e.slot,.int .u32 e.gen]
end Go.Gc
namespace Go.Proofs.YtgblmelijlgimaaGreatDoor
open Go.Proofs.Tryz
namespace Bd
open Go.RowKit Go.bZ Go.Gc Sl Mm Hd
theorem Jy{w:World}{c:Bc}{ws:List Int}(h:Cx w c ws)(hn:c.Ne){x k:Nat}{r:Rec}(sl:eJ c.pw c.rs c.n c.pg x k r)(lt:x<c.n):
  ak 172 #[af (aj c.b),U x] w fun e w'=>e=ae (U 0)/\Cx w' c (eO ws (c.bs.getD c.tn 0+addrOf c.pw c.rs x) r.size)/\cu (· =c.mw) w w':=by
 have dp:=jZ h.bd h.pl sl lt;have ha:=jM h.ok lt;have hz:cJ c.rs x=r.size:=by unfold cJ;rw[sl.gL]
 have hr:=h.hr;have hs:=sl.sz;have DZ:Hid (∀W,Below w.heap.size w W→(W.cell? (aj c.b)=some (af (aj c.mp))/\W.cell? (aj c.b 1)=some (U c.tn))/\(ak 222 #[af (aj c.mp),U c.tn,U (addrOf c.pw c.rs x:Int),U r.size] W fun e w'=>e=ae (U 0)/\Cx w' c (eO ws (c.bs.getD c.tn 0+addrOf c.pw c.rs x) r.size)/\cu (· =c.mw) W w')/\c.b≠c.mw):=bU (fun W hW=>⟨⟨cj.cell (h.cA hW).bd 0,cj.cell (h.cA hW).bd 1⟩,(zl (h.cA hW).mm c.tn _ r.size hs h.ht (by omega) h.n1 h.n2).mono (fun e w' ⟨e1,e2,e3⟩=>⟨e1,(h.cA hW).mem hn e2 e3,e3⟩),hn.b⟩);have HK:Hid (∀W W',Below w.heap.size w W→cu (· =c.mw) W W'→W'.cell? (aj c.b)=some (af (aj c.mp))/\W'.cell? (aj c.b 1)=some (U c.tn)):=bU (fun W W' hW hc=>⟨(cj.bY (h.cA hW).bd hc hn.b).cell 0,(cj.bY (h.cA hW).bd hc hn.b).cell 1⟩);generalize eO ws (c.bs.getD c.tn 0+addrOf c.pw c.rs x) r.size=jG at *;generalize addrOf c.pw c.rs x=ad at *;clear h sl ha hz hr hs hn;go_enter func172,ntmps172;go_wp2_with (go_at_call 118;(with_reducible refine dp.mono ?_);rintro e w3 ⟨rfl,dJ⟩;obtain⟨⟨y0,y1⟩,-,-⟩:=DZ.out w3 dJ)
 go_region_held3 (fun w'=>w'.cell? (aj c.b)=some (af (aj c.mp))/\w'.cell? (aj c.b 1)=some (U c.tn)) (first|exact⟨z0,z1⟩|go_keep)
  ((go_at_call 222;refine((DZ.out _ (bd dJ)).2.1).mono ?_;rintro e w4 ⟨rfl,q4,k4⟩;obtain⟨z0,z1⟩:=HK.out _ w4 (bd dJ) k4;have Q:=bU q4;have HP:=bU k4;clear q4 k4))
 all_goals
  go_wp2_with fail;go_ret;exact⟨rfl,Q.out,(cu.cD (S:=(· =c.mw)) (bd dJ)).trans HP.out⟩
set_option maxHeartbeats 1000000 in
theorem Jz{w:World}{c:Bc}{ws:List Int}(h:Cx w c ws)(hn:c.Ne){x k v u:Nat}{r:Rec}(sl:eJ c.pw c.rs c.n c.pg x k r)(lt:x<c.n)(hk:k<8)(hv:v+u<=63)(fit:v+u+1<=r.size)(iX:at' c.bs c.tn ws (addrOf c.pw c.rs x)=0):
  ak 181 #[af (aj c.b),U x,.agg #[U k,U v,U u]] w fun e w'=>e=ae (U 0)/\Cx w' c ((eO ws (c.bs.getD c.tn 0+addrOf c.pw c.rs x) r.size).set (c.bs.getD c.tn 0+addrOf c.pw c.rs x) (vz k v u:Nat))/\cu (· =c.mw) w w':=by
 have dj:=(bV _ w).alloc (av _) (.cells #[U k,U v,U u] 195);have h1:=h.cA dj;have dp:=jZ h1.bd h1.pl sl lt;have ha:=jM h.ok lt;have hz:cJ c.rs x=r.size:=by unfold cJ;rw[sl.gL]
 have hr:=h.hr;have hs:=sl.sz;have hw:vz k v u<18446744073709551616:=Fd.Fi _ _ _;have HX:Hid (∀W,Below (w.alloc (.cells #[U k,U v,U u] 195)).heap.size (w.alloc (.cells #[U k,U v,U u] 195)) W→W.cell? (aj w.heap.size)=some (U k)/\W.cell? (aj w.heap.size 1)=some (U v)/\W.cell? (aj w.heap.size 2)=some (U u)):=bU (fun W hW=>⟨((cj.new w _ _).cA hW).cell 0,((cj.new w _ _).cA hW).cell 1,((cj.new w _ _).cA hW).cell 2⟩);have DL:Hid (∀W,Below (w.alloc (.cells #[U k,U v,U u] 195)).heap.size (w.alloc (.cells #[U k,U v,U u] 195)) W→ak 121 #[af (aj c.b),U x,U r.size,.agg #[U k,U v,U u]] W fun e w'=>e=ae (.bool true)/\Below W.heap.size W w'):=bU (fun W hW=>vA (h1.cA hW).bd (h1.cA hW).pl sl lt k v u r.size hk hv rfl fit);have DH:Hid (∀W,Below (w.alloc (.cells #[U k,U v,U u] 195)).heap.size (w.alloc (.cells #[U k,U v,U u] 195)) W→ak 97 #[af (aj c.b),U x] W fun e w'=>e=ae (.tuple #[.agg #[U 0,U 0,U 0],U 5])/\Below W.heap.size W w'):=bU (fun W hW=>tZ (h1.cA hW) sl lt 0 iX (by decide));have DQ:Hid (∀W,Below (w.alloc (.cells #[U k,U v,U u] 195)).heap.size (w.alloc (.cells #[U k,U v,U u] 195)) W→ak 233 #[.agg #[U k,U v,U u]] W fun e w'=>e=ae (.tuple #[aa (vz k v u:Nat),U 0])/\Below W.heap.size W w'):=bU (fun W hW=>xN W (h1.cA hW).gw k v u hk hv);have DZ:Hid (∀W,Below (w.alloc (.cells #[U k,U v,U u] 195)).heap.size (w.alloc (.cells #[U k,U v,U u] 195)) W→(W.cell? (aj c.b)=some (af (aj c.mp))/\W.cell? (aj c.b 1)=some (U c.tn))/\(ak 222 #[af (aj c.mp),U c.tn,U (addrOf c.pw c.rs x:Int),U r.size] W fun e w'=>e=ae (U 0)/\Cx w' c (eO ws (c.bs.getD c.tn 0+addrOf c.pw c.rs x) r.size)/\cu (· =c.mw) W w')):=bU (fun W hW=>⟨⟨cj.cell (h1.cA hW).bd 0,cj.cell (h1.cA hW).bd 1⟩,(zl (h1.cA hW).mm c.tn _ r.size hs h.ht (by omega) h.n1 h.n2).mono (fun e w' ⟨e1,e2,e3⟩=>⟨e1,(h1.cA hW).mem hn e2 e3,e3⟩)⟩)
 have DS:Hid (∀W jG,Cx W c jG→(W.cell? (aj c.b)=some (af (aj c.mp))/\W.cell? (aj c.b 1)=some (U c.tn))/\(ak 234 #[af (aj c.mp),U c.tn,U (addrOf c.pw c.rs x:Int),aa (vz k v u:Nat)] W fun e w'=>e=ae (U 0)/\Cx w' c (jG.set (c.bs.getD c.tn 0+addrOf c.pw c.rs x) (vz k v u:Nat))/\cu (· =c.mw) W w')):=bU (fun W jG hW=>⟨⟨cj.cell hW.bd 0,cj.cell hW.bd 1⟩,(vm hW.mm c.tn (addrOf c.pw c.rs x) h.ht (by omega) (vz k v u:Nat) (by omega) (by omega) h.n1 h.n2).mono (fun e w' ⟨e1,e2,e3⟩=>⟨e1,hW.mem hn e2 e3,e3⟩)⟩);have HD:Hid (∀W,Cx W c (eO ws (c.bs.getD c.tn 0+addrOf c.pw c.rs x) r.size)→Cx W.drew c (eO ws (c.bs.getD c.tn 0+addrOf c.pw c.rs x) r.size)):=bU (fun W hW=>hW.cA (bd (bV _ _)));have HB:=bU dj;generalize eO ws (c.bs.getD c.tn 0+addrOf c.pw c.rs x) r.size=jG at *;generalize c.bs.getD c.tn 0+addrOf c.pw c.rs x=j at *;generalize addrOf c.pw c.rs x=ad at *;generalize vz k v u=Wl at *;clear h h1 sl ha hz hr hs hn dj iX fit hk hv lt hw;go_enter func181,ntmps181;go_wp2_with (first|(go_at_call 118;(with_reducible refine dp.mono ?_);rintro e w3 ⟨rfl,dJ⟩;obtain⟨x0,x1,x2⟩:=HX.out w3 dJ;have H3:=bU dJ;clear dJ)|(go_at_call 121;refine(DL.out _ H3.out).mono ?_;rintro e w4 ⟨rfl,ni⟩;have H4:=bU (fj H3.out ni);clear ni)|(go_at_call 97;refine(DH.out _ H4.out).mono ?_;rintro e w5 ⟨rfl,uK⟩;have H5:Hid (Below (w.alloc (.cells #[U k,U v,U u] 195)).heap.size (w.alloc (.cells #[U k,U v,U u] 195)) (w5.alloc (.cells #[U 0,U 0,U 0] 195))):=bU (bA (fj H4.out uK) (av _) _);obtain⟨v0,v1,v2⟩:=HX.out _ H5.out;clear uK)|(go_at_call 233;refine(DQ.out _ H5.out).mono ?_;rintro e w6 ⟨rfl,LH⟩;have H6:=bU (fj H5.out LH);obtain⟨⟨y0,y1⟩,-⟩:=DZ.out w6 H6.out;clear LH))
 go_region_held3 (fun w'=>w'.cell? (aj c.b)=some (af (aj c.mp))/\w'.cell? (aj c.b 1)=some (U c.tn)) (first|exact⟨z0,z1⟩|go_keep)
  ((go_at_call 222;refine((DZ.out _ (bd H6.out)).2).mono ?_;rintro e w7 ⟨rfl,q7,k7⟩;obtain⟨⟨z0,z1⟩,-⟩:=DS.out w7 _ q7;have Q:=bU q7;have HP:=bU ((cu.cD (S:=(· =c.mw)) (bd H6.out)).trans k7);clear q7 k7))
 go_wp2_with fail;go_region_held3 (fun w'=>w'.cell? (aj c.b)=some (af (aj c.mp))/\w'.cell? (aj c.b 1)=some (U c.tn)) (first|exact⟨z0,z1⟩|go_keep)
  ((go_at_call 234;refine((DS.out _ _ (HD.out _ Q.out)).2).mono ?_;rintro e w8 ⟨rfl,q8,k8⟩;obtain⟨⟨z0,z1⟩,-⟩:=DS.out w8 _ q8;have Q8:=bU q8;have TB:=bU (HP.out.drew.trans k8);clear q8 k8))
 all_goals
  go_wp2_with fail;go_ret;exact⟨rfl,Q8.out,(cu.cD (S:=(· =c.mw)) HB.out).trans TB.out⟩
end Bd
namespace Tb
open Go.RowKit Go.bZ Go.Gc
def eR(es:List eG)(k:Nat):Nat:=(es.filter (fun e=>e.state==k)).length
theorem kk(es:List eG)(k:Nat):eR es k<=es.length:=List.length_filter_le _ _
theorem fp:∀(es:List eG) (i:Nat) (e f:eG) (k:Nat),es[i]?=some e→eR (es.set i f) k+(if e.state=k then 1 else 0)=eR es k+(if f.state=k then 1 else 0)
 | [],_,_,_,_,h=>by simp at h
 | a::es,0,e,f,k,h=>by
   simp at h;subst h;simp only[eR,List.set_cons_zero,List.filter_cons,beq_iff_eq]
   split <;> split <;> (try simp only[aC]) <;> omega
 | a::es,i+1,e,f,k,h=>by
   have hh:=fp es i e f k (by simpa using h);simp only[eR,List.set_cons_succ,List.filter_cons,beq_iff_eq] at hh ⊢
   split <;> (try simp only[aC]) <;> omega
theorem oj{es:List eG}{i:Nat}{e:eG}(h:es[i]?=some e):0<eR es e.state:=by
 unfold eR;exact List.length_pos_of_mem (List.mem_filter.2 ⟨aH h,by simp⟩)
structure eP(w:World)(p g:Nat)(es:List eG)(gens:Nat):Prop where
 b0:cj w p #[ai (aj g) es.length es.length,U gens,U (eR es 0),U (eR es 1),U (eR es 2),U (eR es 3)] 191
 b1:cj w g (es.flatMap eG.cells).toArray 188
 pos:0<es.length
 jU:es.length<=65536
 gen:∀e∈es,e.gen<4294967296/\e.slot<=65536
 gs:gens<=2147483648
 ne:p≠g
theorem eP.bY{S:Nat→Prop}{w w':World}{p g:Nat}{es:List eG}{gens:Nat}(h:eP w p g es gens)(hc:cu S w w')(h1:¬S p)(h2:¬S g):eP w' p g es gens:=
 ⟨h.b0.bY hc h1,h.b1.bY hc h2,h.pos,h.jU,h.gen,h.gs,h.ne⟩
theorem cC{w:World}{p g:Nat}{es:List eG}{gens:Nat}(h:eP w p g es gens):ak 122 #[af (aj p)] w fun e w'=>e=ae (.bool false)/\w=w':=by
 have c0:w.cell? (aj p)=some (ai (aj g) es.length es.length):=h.b0.cell 0;have hp:((es.length:Int)==0)=false:=by have:=h.pos;rw[aA];omega
 clear h;go_enter func122,ntmps122;go_wp2_with fail;go_ret;exact⟨rfl,rfl⟩
theorem gX{w:World}{p g:Nat}{es:List eG}{gens:Nat}(h:eP w p g es gens):ak 98 #[af (aj p)] w fun e w'=>e=ae (U es.length)/\w=w':=by
 have d:=cC h;have c0:w.cell? (aj p)=some (ai (aj g) es.length es.length):=h.b0.cell 0;clear h;go_enter func98,ntmps98;go_wp2_with (go_at_call 122;refine d.mono ?_;rintro e w' ⟨rfl,rfl⟩)
 go_ret;exact⟨rfl,rfl⟩
end Tb
namespace Tb
open Go.RowKit Go.bZ Go.Gc
theorem Fo:∀(es:List eG) (i:Nat) (hi:i<es.length),(es.flatMap eG.cells)[i*3]?=some (U es[i].state)/\(es.flatMap eG.cells)[i*3+1]?=some (U es[i].slot)/\(es.flatMap eG.cells)[i*3+2]?=some (.int .u32 es[i].gen)
 | [],_,hi=>absurd hi (by simp)
 | e::es,0,_=>by simp[eG.cells]
 | e::es,i+1,hi=>by
   have h:=Fo es i (by simpa using hi);have h1:∀k,(List.flatMap eG.cells (e::es))[(i+1)*3+k]?=(es.flatMap eG.cells)[i*3+k]?:=fun k=>by
    rw[List.flatMap_cons,aS (by simp[eG.cells];omega)]
    congr 1
    simp[eG.cells];omega
   have h0:=h1 0;simp only[bN] at h0;rw[h0,h1 1,h1 2];exact h
theorem eP.at{w:World}{p g:Nat}{es:List eG}{gens:Nat}(h:eP w p g es gens)(i:Nat)(hi:i<es.length):
  w.cell? (aj g (i*3))=some (U es[i].state)/\w.cell? (aj g (i*3+1))=some (U es[i].slot)/\w.cell? (aj g (i*3+2))=some (.int .u32 es[i].gen):=by
 have e:=Fo es i hi;refine⟨(h.b1.cell _).trans ?_,(h.b1.cell _).trans ?_,(h.b1.cell _).trans ?_⟩
 .rw[aO];exact e.1
 .rw[aO];exact e.2.1
 .rw[aO];exact e.2.2
theorem vC{w:World}{p g:Nat}{es:List eG}{gens:Nat}(h:eP w p g es gens)(i:Nat)(hi:i<es.length)(hs:es[i].state=1):
  ak 200 #[af (aj p),U i,.int .u32 (es[i].gen:Int)] w fun e w'=>e=ae (af (aj g (i*3)))/\w=w':=by
 have c0:w.cell? (aj p)=some (ai (aj g) es.length es.length):=h.b0.cell 0;obtain⟨c1,c2,c3⟩:=h.at i hi;rw[hs] at c1;have hn:=h.jU;clear h hs;go_enter func200,ntmps200;go_wp2_with fail;go_ret;exact⟨rfl,rfl⟩
theorem BG{w:World}{p g:Nat}{es:List eG}{gens:Nat}(h:eP w p g es gens)(i:Int)(hi:i<0\/(es.length:Int)<=i)(v:Nat)(_hv:v<4294967296):
  ak 200 #[af (aj p),U i,.int .u32 v] w fun e w'=>e=ae (af none)/\w=w':=by
 have c0:w.cell? (aj p)=some (ai (aj g) es.length es.length):=h.b0.cell 0;clear h;by_cases h0:i<0
 .clear hi
  go_enter func200,ntmps200;go_wp2_with fail;go_ret;exact⟨rfl,rfl⟩
 .have h1:(es.length:Int)<=i:=by omega
  clear hi;go_enter func200,ntmps200;go_wp2_with fail;go_ret;exact⟨rfl,rfl⟩
end Tb
namespace Tb
open Go.RowKit Go.bZ Go.Gc
theorem qg:∀(es:List eG) (i:Nat) (e:eG) (s:Nat),es[i]?=some e→((es.flatMap eG.cells).toArray.setIfInBounds (i*3) (U s))=((es.set i {e with state:=s}).flatMap eG.cells).toArray/\
  ((es.flatMap eG.cells).toArray.setIfInBounds (i*3+1) (U s))=((es.set i {e with slot:=s}).flatMap eG.cells).toArray/\((es.flatMap eG.cells).toArray.setIfInBounds (i*3+2) (.int .u32 s))=((es.set i {e with gen:=s}).flatMap eG.cells).toArray
 | [],_,_,_,h=>by simp at h
 | a::es,0,e,s,h=>by simp at h;subst h;simp[eG.cells]
 | a::es,i+1,e,s,h=>by
   have hh:=qg es i e s (by simpa using h);simp only[List.setIfInBounds_toArray,List.flatMap_cons,List.set_cons_succ,Array.mk.injEq] at hh ⊢;have h3:(eG.cells a).length=3:=rfl;have h1:∀j v,((eG.cells a)++(es.flatMap eG.cells)).set ((i+1)*3+j) v=eG.cells a++(es.flatMap eG.cells).set (i*3+j) v:=fun j v=>by
    rw[List.set_append,if_neg (by rw[h3];omega),h3]
    congr 2
    omega
   refine⟨?_,?_,?_⟩
   .have:=h1 0 (U s)
    simp only[bN] at this;rw[this,hh.1]
   .rw[h1 1,hh.2.1]
   .rw[h1 2,hh.2.2]
theorem eP.drew{w:World}{p g:Nat}{es:List eG}{gens:Nat}(h:eP w p g es gens):eP w.drew p g es gens:=⟨h.b0,h.b1,h.pos,h.jU,h.gen,h.gs,h.ne⟩
theorem eP.nj{w w2:World}{p g:Nat}{es:List eG}{gens:Nat}(h:eP w p g es gens){i:Nat}{e:eG}(he:es[i]?=some e)(s:Nat){C:Array Value}(h0:cj w2 p C 191)(hC:C=#[ai (aj g) es.length es.length,U gens,U (eR (es.set i {e with state:=s}) 0),U (eR (es.set i {e with state:=s}) 1),U (eR (es.set i {e with state:=s}) 2),U (eR (es.set i {e with state:=s}) 3)]){D:Array Value}(h1:cj w2 g D 188)(hD:D=(es.flatMap eG.cells).toArray.setIfInBounds (i*3) (U s)):eP w2 p g (es.set i {e with state:=s}) gens:=by
 subst hC;subst hD;have hm:=aH he;refine⟨by rw[aI];exact h0,by rw[←(qg es i e s he).1];exact h1,by rw[aI];exact h.pos,by rw[aI];exact h.jU,fun x hx=>?_,h.gs,h.ne⟩;rcases aZ hx with hx|rfl
 .exact h.gen x hx
 .exact h.gen e hm
theorem JA{w:World}{p g:Nat}{es:List eG}{gens:Nat}(h:eP w p g es gens){i:Nat}{e:eG}(he:es[i]?=some e)(hs:e.state=0):
  ak 249 #[af (aj p),af (aj g (i*3)),U 1] w fun x w'=>x=ae (.tuple #[])/\eP w' p g (es.set i {e with state:=1}) gens/\cu (fun k=>k=p\/k=g) w w':=by
 have hi:=(au.1 he).1;obtain⟨c1,c2,c3⟩:=h.at i hi;have hee:es[i]=e:=by have:=au.1 he;exact this.2
 rw[hee,hs] at c1;have hpos:=oj he;rw[hs] at hpos;have s0:=fp es i e {e with state:=1} 0 he;have s1:=fp es i e {e with state:=1} 1 he;have s2:=fp es i e {e with state:=1} 2 he;have s3:=fp es i e {e with state:=1} 3 he;rw[hs] at s0 s1 s2 s3;have l0:=kk es 0;have l1:=kk es 1;have hf:=h.jU;have ca:w.cell? (aj p (2+0))=some (U (eR es 0)):=h.b0.cell (2+0);have cb:w.cell? (aj p (2+1))=some (U (eR es 1)):=h.b0.cell (2+1);have fa:=h.b0.cE (2+0);have fb:=h.b0.cE (2+1);have fg:=h.b1.cE (i*3);have hne:=h.ne;have Mz:=Ne.symm h.ne;have B0:=((h.b0.set (2+0) (U ((eR es 0:Int)-1))).set (2+1) (U ((eR es 1:Int)+1))).other h.ne (i*3) (U 1);have B1:=(((h.b1.other (Ne.symm h.ne) (2+0) (U ((eR es 0:Int)-1))).other (Ne.symm h.ne) (2+1) (U ((eR es 1:Int)+1)))).set (i*3) (U 1);have T:=bU (h.nj he 1 B0 (by
  simp at s0 s1 s2 s3;simp;omega) B1 rfl)
 have CH:=bU ((((cu.refl (fun k=>k=p\/k=g) w).stored (.inl (.inl rfl)) (2+0) (U ((eR es 0:Int)-1))).stored (.inl (.inl rfl)) (2+1) (U ((eR es 1:Int)+1))).stored (.inl (.inr rfl)) (i*3) (U 1));clear h he hs hee s0 s1 s2 s3 B0 B1 c2 c3;generalize eR es 0=A at *;generalize eR es 1=B at *;go_enter func249,ntmps249;go_wp2_with fail
 go_region
 all_goals
  go_wp2_with fail
  go_region
  all_goals
   go_wp2_with fail
   go_end0
   exact⟨rfl,T.out.drew.drew,CH.out.drew.drew⟩
theorem JB{w:World}{p g:Nat}{es:List eG}{gens:Nat}(h:eP w p g es gens){i:Nat}{e:eG}(he:es[i]?=some e)(hs:e.state=1):
  ak 249 #[af (aj p),af (aj g (i*3)),U 2] w fun x w'=>x=ae (.tuple #[])/\eP w' p g (es.set i {e with state:=2}) gens/\cu (fun k=>k=p\/k=g) w w':=by
 have hi:=(au.1 he).1;obtain⟨c1,c2,c3⟩:=h.at i hi;have hee:es[i]=e:=by have:=au.1 he;exact this.2
 rw[hee,hs] at c1;have hpos:=oj he;rw[hs] at hpos;have s0:=fp es i e {e with state:=2} 0 he;have s1:=fp es i e {e with state:=2} 1 he;have s2:=fp es i e {e with state:=2} 2 he;have s3:=fp es i e {e with state:=2} 3 he;rw[hs] at s0 s1 s2 s3;have l0:=kk es 1;have l1:=kk es 2;have hf:=h.jU;have ca:w.cell? (aj p (2+1))=some (U (eR es 1)):=h.b0.cell (2+1);have cb:w.cell? (aj p (2+2))=some (U (eR es 2)):=h.b0.cell (2+2);have fa:=h.b0.cE (2+1);have fb:=h.b0.cE (2+2);have fg:=h.b1.cE (i*3);have hne:=h.ne;have Mz:=Ne.symm h.ne;have B0:=((h.b0.set (2+1) (U ((eR es 1:Int)-1))).set (2+2) (U ((eR es 2:Int)+1))).other h.ne (i*3) (U 2);have B1:=(((h.b1.other (Ne.symm h.ne) (2+1) (U ((eR es 1:Int)-1))).other (Ne.symm h.ne) (2+2) (U ((eR es 2:Int)+1)))).set (i*3) (U 2);have T:=bU (h.nj he 2 B0 (by
  simp at s0 s1 s2 s3;simp;omega) B1 rfl)
 have CH:=bU ((((cu.refl (fun k=>k=p\/k=g) w).stored (.inl (.inl rfl)) (2+1) (U ((eR es 1:Int)-1))).stored (.inl (.inl rfl)) (2+2) (U ((eR es 2:Int)+1))).stored (.inl (.inr rfl)) (i*3) (U 2));clear h he hs hee s0 s1 s2 s3 B0 B1 c2 c3;generalize eR es 1=A at *;generalize eR es 2=B at *;go_enter func249,ntmps249;go_wp2_with fail
 go_region
 all_goals
  go_wp2_with fail
  go_region
  all_goals
   go_wp2_with fail
   go_end0
   exact⟨rfl,T.out.drew.drew,CH.out.drew.drew⟩
theorem JC{w:World}{p g:Nat}{es:List eG}{gens:Nat}(h:eP w p g es gens){i:Nat}{e:eG}(he:es[i]?=some e)(hs:e.state=2):
  ak 249 #[af (aj p),af (aj g (i*3)),U 3] w fun x w'=>x=ae (.tuple #[])/\eP w' p g (es.set i {e with state:=3}) gens/\cu (fun k=>k=p\/k=g) w w':=by
 have hi:=(au.1 he).1;obtain⟨c1,c2,c3⟩:=h.at i hi;have hee:es[i]=e:=by have:=au.1 he;exact this.2
 rw[hee,hs] at c1;have hpos:=oj he;rw[hs] at hpos;have s0:=fp es i e {e with state:=3} 0 he;have s1:=fp es i e {e with state:=3} 1 he;have s2:=fp es i e {e with state:=3} 2 he;have s3:=fp es i e {e with state:=3} 3 he;rw[hs] at s0 s1 s2 s3;have l0:=kk es 2;have l1:=kk es 3;have hf:=h.jU;have ca:w.cell? (aj p (2+2))=some (U (eR es 2)):=h.b0.cell (2+2);have cb:w.cell? (aj p (2+3))=some (U (eR es 3)):=h.b0.cell (2+3);have fa:=h.b0.cE (2+2);have fb:=h.b0.cE (2+3);have fg:=h.b1.cE (i*3);have hne:=h.ne;have Mz:=Ne.symm h.ne;have B0:=((h.b0.set (2+2) (U ((eR es 2:Int)-1))).set (2+3) (U ((eR es 3:Int)+1))).other h.ne (i*3) (U 3);have B1:=(((h.b1.other (Ne.symm h.ne) (2+2) (U ((eR es 2:Int)-1))).other (Ne.symm h.ne) (2+3) (U ((eR es 3:Int)+1)))).set (i*3) (U 3);have T:=bU (h.nj he 3 B0 (by
  simp at s0 s1 s2 s3;simp;omega) B1 rfl)
 have CH:=bU ((((cu.refl (fun k=>k=p\/k=g) w).stored (.inl (.inl rfl)) (2+2) (U ((eR es 2:Int)-1))).stored (.inl (.inl rfl)) (2+3) (U ((eR es 3:Int)+1))).stored (.inl (.inr rfl)) (i*3) (U 3));clear h he hs hee s0 s1 s2 s3 B0 B1 c2 c3;generalize eR es 2=A at *;generalize eR es 3=B at *;go_enter func249,ntmps249;go_wp2_with fail
 go_region
 all_goals
  go_wp2_with fail
  go_region
  all_goals
   go_wp2_with fail
   go_end0
   exact⟨rfl,T.out.drew.drew,CH.out.drew.drew⟩
theorem JD{w:World}{p g:Nat}{es:List eG}{gens:Nat}(h:eP w p g es gens){i:Nat}{e:eG}(he:es[i]?=some e)(hs:e.state=2):
  ak 249 #[af (aj p),af (aj g (i*3)),U 0] w fun x w'=>x=ae (.tuple #[])/\eP w' p g (es.set i {e with state:=0}) gens/\cu (fun k=>k=p\/k=g) w w':=by
 have hi:=(au.1 he).1;obtain⟨c1,c2,c3⟩:=h.at i hi;have hee:es[i]=e:=by have:=au.1 he;exact this.2
 rw[hee,hs] at c1;have hpos:=oj he;rw[hs] at hpos;have s0:=fp es i e {e with state:=0} 0 he;have s1:=fp es i e {e with state:=0} 1 he;have s2:=fp es i e {e with state:=0} 2 he;have s3:=fp es i e {e with state:=0} 3 he;rw[hs] at s0 s1 s2 s3;have l0:=kk es 2;have l1:=kk es 0;have hf:=h.jU;have ca:w.cell? (aj p (2+2))=some (U (eR es 2)):=h.b0.cell (2+2);have cb:w.cell? (aj p (2+0))=some (U (eR es 0)):=h.b0.cell (2+0);have fa:=h.b0.cE (2+2);have fb:=h.b0.cE (2+0);have fg:=h.b1.cE (i*3);have hne:=h.ne;have Mz:=Ne.symm h.ne;have B0:=((h.b0.set (2+2) (U ((eR es 2:Int)-1))).set (2+0) (U ((eR es 0:Int)+1))).other h.ne (i*3) (U 0);have B1:=(((h.b1.other (Ne.symm h.ne) (2+2) (U ((eR es 2:Int)-1))).other (Ne.symm h.ne) (2+0) (U ((eR es 0:Int)+1)))).set (i*3) (U 0);have T:=bU (h.nj he 0 B0 (by
  simp at s0 s1 s2 s3;simp;omega) B1 rfl)
 have CH:=bU ((((cu.refl (fun k=>k=p\/k=g) w).stored (.inl (.inl rfl)) (2+2) (U ((eR es 2:Int)-1))).stored (.inl (.inl rfl)) (2+0) (U ((eR es 0:Int)+1))).stored (.inl (.inr rfl)) (i*3) (U 0));clear h he hs hee s0 s1 s2 s3 B0 B1 c2 c3;generalize eR es 2=A at *;generalize eR es 0=B at *;go_enter func249,ntmps249;go_wp2_with fail
 go_region
 all_goals
  go_wp2_with fail
  go_region
  all_goals
   go_wp2_with fail
   go_end0
   exact⟨rfl,T.out.drew.drew,CH.out.drew.drew⟩
theorem xR{w:World}{p g:Nat}{es:List eG}{gens:Nat}(h:eP w p g es gens):ak 271 #[af (aj p),U 0] w fun e w'=>e=ae (U (eR es 0:Int))/\w=w':=by
 have d:=cC h;have c0:w.cell? (aj p (2+0))=some (U (eR es 0)):=h.b0.cell 2;clear h;go_enter func271,ntmps271;go_wp2_with (go_at_call 122;refine d.mono ?_;rintro e w' ⟨rfl,rfl⟩)
 go_ret;exact⟨rfl,rfl⟩
theorem kE{w:World}{p g:Nat}{es:List eG}{gens:Nat}(h:eP w p g es gens):ak 228 #[af (aj p)] w fun e w'=>e=ae (U (eR es 0:Int))/\w=w':=by
 have d:=xR h;clear h;go_enter func228,ntmps228;go_wp2_with (go_at_call 271;refine d.mono ?_;rintro e w' ⟨rfl,rfl⟩)
 go_ret;exact⟨rfl,rfl⟩
end Tb
namespace Tb
open Go.RowKit Go.bZ Go.Gc
theorem vD{w:World}{p g:Nat}{es:List eG}{gens:Nat}(h:eP w p g es gens)(i:Nat)(hi:i<es.length)(hs:es[i].state≠1)(v:Nat):
  ak 200 #[af (aj p),U i,.int .u32 v] w fun e w'=>e=ae (af none)/\w=w':=by
 have c0:w.cell? (aj p)=some (ai (aj g) es.length es.length):=h.b0.cell 0;obtain⟨c1,c2,c3⟩:=h.at i hi;have hn:=h.jU;generalize es[i].state=s at *;generalize es[i].slot=s2 at *;generalize es[i].gen=s3 at *;have e1:((s:Int)==1)=false:=by rw[aA];omega
 have e2:((s:Int) != 1)=true:=by rw[bne,e1];rfl
 clear h hs;go_enter func200,ntmps200;go_wp2_with fail;go_ret;exact⟨rfl,rfl⟩
theorem BH{w:World}{p g:Nat}{es:List eG}{gens:Nat}(h:eP w p g es gens)(i:Nat)(hi:i<es.length)(hs:es[i].state=1)(v:Nat)(hv:es[i].gen≠v):
  ak 200 #[af (aj p),U i,.int .u32 v] w fun e w'=>e=ae (af none)/\w=w':=by
 have c0:w.cell? (aj p)=some (ai (aj g) es.length es.length):=h.b0.cell 0;obtain⟨c1,c2,c3⟩:=h.at i hi;have hn:=h.jU;rw[hs] at c1;generalize es[i].slot=s2 at *;generalize es[i].gen=s3 at *;have e1:((s3:Int)==(v:Int))=false:=by rw[aA];omega
 have e2:((s3:Int) != (v:Int))=true:=by rw[bne,e1];rfl
 clear h hs;go_enter func200,ntmps200;go_wp2_with fail;all_goals first|(exfalso;omega)|skip
 go_ret;exact⟨rfl,rfl⟩
def nameOf(es:List eG)(i:Int)(v:Nat):Option eG:=if i<0 then none else match es[i.toNat]? with|some e=>if e.state=1/\e.gen=v then some e else none|none=>none
theorem qY{es:List eG}{i:Int}{v:Nat}{e:eG}(h:nameOf es i v=some e):∃k:Nat,i=k/\k<es.length/\es[k]?=some e/\e.state=1/\e.gen=v:=by
 unfold nameOf at h
 split at h
 .cases h
 .split at h
  .split at h
   .rename_i e' he hc
    injection h with h;subst h;exact⟨i.toNat,by omega,(au.1 he).1,he,hc⟩
   .cases h
  .cases h
theorem BJ{w:World}{p g:Nat}{es:List eG}{gens:Nat}(h:eP w p g es gens)(i:Int)(v:Nat)(hv:v<4294967296)(ho:nameOf es i v=none):
  ak 200 #[af (aj p),U i,.int .u32 v] w fun e w'=>e=ae (af none)/\w=w':=by
 by_cases hi:i<0\/(es.length:Int)<=i
 .exact BG h i hi v hv
 .obtain⟨k,rfl⟩:∃k:Nat,i=k:=⟨i.toNat,by omega⟩
  have hk:k<es.length:=by omega
  unfold nameOf at ho;rw[if_neg (by omega),aG,aq hk] at ho;by_cases h1:es[k].state=1
  .refine BH h k hk h1 v (fun h2=>?_)
   simp[h1,h2] at ho
  .exact vD h k hk h1 v
theorem vE{w:World}{p g:Nat}{es:List eG}{gens:Nat}(h:eP w p g es gens)(i:Int)(v:Nat)(e:eG)(he:nameOf es i v=some e):
  ak 146 #[af (aj p),U i,.int .u32 v] w fun x w'=>x=ae (.tuple #[U e.slot,U 0])/\w=w':=by
 obtain⟨k,rfl,hk,hke,h1,h2⟩:=qY he;have hee:es[k]=e:=by have:=au.1 hke;exact this.2
 have d:=cC h;have dn:=vC h k hk (by rw[hee];exact h1);have c2:=(h.at k hk).2.1;rw[hee,h2] at dn;rw[hee] at c2;clear h he hke hee h1 h2;go_enter func146,ntmps146;go_wp2_with (first|(go_at_call 122;refine d.mono ?_;rintro e w' ⟨rfl,rfl⟩)|(go_at_call 200;refine dn.mono ?_;rintro e w' ⟨rfl,rfl⟩))
 go_ret2
 exact⟨rfl,rfl⟩
theorem JE{w:World}{p g:Nat}{es:List eG}{gens:Nat}(h:eP w p g es gens)(i:Int)(v:Nat)(hv:v<4294967296)(he:nameOf es i v=none):
  ak 146 #[af (aj p),U i,.int .u32 v] w fun x w'=>x=ae (.tuple #[U 0,U 130])/\w=w':=by
 have d:=cC h;have dn:=BJ h i v hv he;clear h he;go_enter func146,ntmps146;go_wp2_with (first|(go_at_call 122;refine d.mono ?_;rintro e w' ⟨rfl,rfl⟩)|(go_at_call 200;refine dn.mono ?_;rintro e w' ⟨rfl,rfl⟩))
 go_ret2
 exact⟨rfl,rfl⟩
theorem Fp{w:World}{p g:Nat}{es:List eG}{gens:Nat}(h:eP w p g es gens)(i:Int)(v:Nat)(e:eG)(he:nameOf es i v=some e):
  ak 195 #[af (aj p),U i,.int .u32 v] w fun x w'=>x=ae (.tuple #[U e.slot,U 0])/\eP w' p g (es.set i.toNat {e with state:=2}) gens/\cu (fun k=>k=p\/k=g) w w':=by
 have dl:=vE h i v e he;obtain⟨k,rfl,hk,hke,h1,h2⟩:=qY he;have hee:es[k]=e:=by have:=au.1 hke;exact this.2
 have dn:=vC h k hk (by rw[hee];exact h1);rw[hee,h2] at dn;have dt:=JB h hke h1;rw[aG];clear h he hke hee h1 h2;go_enter func195,ntmps195;go_wp2_with (first|(go_at_call 146;refine dl.mono ?_;rintro e w' ⟨rfl,rfl⟩)|(go_at_call 200;refine dn.mono ?_;rintro e w' ⟨rfl,rfl⟩)|(go_at_call 249;refine dt.mono ?_;rintro e w' ⟨rfl,ht,hc⟩))
 go_ret2
 exact⟨rfl,ht,hc⟩
def iN(es:List eG)(k:Nat):Option Nat:=match es[k]? with|some e=>if e.state=1 then some e.slot else none|none=>none
theorem Fq{w:World}{p g:Nat}{es:List eG}{gens:Nat}(h:eP w p g es gens)(k:Nat)(s:Nat)(he:iN es k=some s):
  ak 260 #[af (aj p),U k] w fun x w'=>x=ae (.tuple #[U s,.bool true])/\w=w':=by
 have hk:k<es.length:=by
  unfold iN at he
  split at he
  .rename_i h2;exact(au.1 h2).1
  .cases he
 have d:=cC h;have c0:w.cell? (aj p)=some (ai (aj g) es.length es.length):=h.b0.cell 0;obtain⟨c1,c2,c3⟩:=h.at k hk;unfold iN at he;rw[aq hk] at he;by_cases h1:es[k].state=1
 .simp only[h1,if_true,Option.some.injEq] at he
  rw[h1] at c1;rw[he] at c2;have hn:=h.jU;clear h he h1 c3;go_enter func260,ntmps260;go_wp2_with (go_at_call 122;refine d.mono ?_;rintro e w' ⟨rfl,rfl⟩)
  go_ret2
  exact⟨rfl,rfl⟩
 .simp[h1] at he
theorem zw{w:World}{p g:Nat}{es:List eG}{gens:Nat}(h:eP w p g es gens)(k:Nat)(he:iN es k=none):
  ak 260 #[af (aj p),U k] w fun x w'=>x=ae (.tuple #[U 0,.bool false])/\w=w':=by
 have d:=cC h;have c0:w.cell? (aj p)=some (ai (aj g) es.length es.length):=h.b0.cell 0;have hn:=h.jU;by_cases hk:k<es.length
 .obtain⟨c1,c2,c3⟩:=h.at k hk
  unfold iN at he;rw[aq hk] at he;by_cases h1:es[k].state=1
  .simp[h1] at he
  .generalize es[k].state=s at *
   have e1:((s:Int)==1)=false:=by rw[aA];omega
   have e2:((s:Int) != 1)=true:=by rw[bne,e1];rfl
   clear h he h1 c2 c3;go_enter func260,ntmps260;go_wp2_with (go_at_call 122;refine d.mono ?_;rintro e w' ⟨rfl,rfl⟩)
   go_ret2
   exact⟨rfl,rfl⟩
 .clear h he
  have Ec:es.length<=k:=by omega
  go_enter func260,ntmps260;go_wp2_with (go_at_call 122;refine d.mono ?_;rintro e w' ⟨rfl,rfl⟩)
  go_ret2
  exact⟨rfl,rfl⟩
end Tb
end Go.Proofs.YtgblmelijlgimaaGreatDoor
namespace Go.Gc
structure sU where
 T:Nat→Bool
 G:Nat→Bool
 used:Int
 es:List eG
 cs:List Int
 M:Nat→Int
 act:Bool
noncomputable def mask(K:eV)(T G:Nat→Bool)(M:Nat→Int):Nat→Int:=fun i=>@ite _ (∃x,(T x=true/\G x=false)/\K.addr x<=i/\i<K.addr x+K.size x) (Classical.propDecidable _) (M i) 0
theorem im{K:eV}{T G:Nat→Bool}{M:Nat→Int}{i x:Nat}(h:T x=true/\G x=false)(h1:K.addr x<=i)(h2:i<K.addr x+K.size x):mask K T G M i=M i:=by
 unfold mask;rw[if_pos ⟨x,h,h1,h2⟩]
theorem lY{K:eV}{T G:Nat→Bool}{M:Nat→Int}{i:Nat}(h:∀x,T x=true→G x=false→¬(K.addr x<=i/\i<K.addr x+K.size x)):mask K T G M i=0:=by
 unfold mask;rw[if_neg (fun⟨x,h1,h2⟩=>h x h1.1 h1.2 h2)]
theorem qZ{K:eV}{T G T' G':Nat→Bool}{M M':Nat→Int}(h:∀x,(T' x=true/\G' x=false)↔(T x=true/\G x=false))(hM:∀x i,T x=true→G x=false→K.addr x<=i→i<K.addr x+K.size x→M' i=M i):mask K T' G' M'=mask K T G M:=by
 funext i
 by_cases c:∃x,(T x=true/\G x=false)/\K.addr x<=i/\i<K.addr x+K.size x
 .obtain⟨x,h1,h2,h3⟩:=c
  rw[im h1 h2 h3,im ((h x).2 h1) h2 h3];exact hM x i h1.1 h1.2 h2 h3
 .rw[lY (fun x h1 h2 h3=>c ⟨x,⟨h1,h2⟩,h3⟩),lY (fun x h1 h2 h3=>c ⟨x,(h x).1 ⟨h1,h2⟩,h3⟩)]
theorem BK{K:eV}{T G T' G':Nat→Bool}{M:Nat→Int}(h:∀x,(T' x=true/\G' x=false)→(T x=true/\G x=false)):mask K T' G' (mask K T G M)=mask K T' G' M:=
 qZ (fun _=>Iff.rfl) (fun x _ h1 h2 h3 h4=>im (h x ⟨h1,h2⟩) h3 h4)
theorem oT{K:eV}{T G:Nat→Bool}{M:Nat→Int}{x:Nat}(h:T x=true/\G x=false):lP K M (mask K T G M) x:=fun _ h1 h2=>im h h1 h2
noncomputable def lJ(K:eV)(s:St)(G:Nat→Bool):sU:=⟨s.T,G,s.used,s.es,s.cs,mask K s.T G s.M,s.act⟩
theorem vF{K:eV}{s s':St}{G:Nat→Bool}(h:Left s s'):lJ K s' G=lJ K s G:=by
 unfold lJ;rw[h.T,h.used,h.es,h.cs,h.M,h.act]
theorem BM{K:eV}(hK:K.Ok){s:St}{G:Nat→Bool}(I:fh K s G)(hp:s.phase=2)(hs:s.sa<K.n):lJ K (ji K s) G=lJ K s G:=by
 unfold ji
 split
 .rename_i hc
  have hG:G s.sa=true:=by
   by_cases e:G s.sa=true
   .exact e
   .exact absurd hc.2 (I.bl (by omega) s.sa ⟨hc.1,by simpa using e⟩)
  have:mask K s.T G (oa K s.M s.sa)=mask K s.T G s.M:=qZ (fun _=>Iff.rfl) (fun x i h1 h2 h3 h4=>sM hK hs (I.tn x h1) (fun e=>by subst e;rw[hG] at h2;cases h2) i h3 h4);unfold lJ;show sU.mk s.T G s.used s.es s.cs (mask K s.T G (oa K s.M s.sa)) s.act=_;rw[this]
 .rfl
noncomputable def sU.begin(K:eV)(v:sU):sU:={v with G:=lost K v.T v.es v.cs v.M,M:=mask K v.T (lost K v.T v.es v.cs v.M) v.M,act:=true}
theorem BO{K:eV}(hK:K.Ok){s:St}{G:Nat→Bool}(I:fh K s G)(hp:s.phase=0):lost K s.T s.es s.cs (mask K s.T G s.M)=lost K s.T s.es s.cs s.M:=by
 have hG:=I.idle hp;have hV:∀x,Reach K s.es s.cs s.M x→s.T x=true/\G x=false:=by
  intro x hx
  induction hx with
  | root r x h=>exact I.roots r x h
  | iY a k x _ h ih=>exact I.jo a k x ih h
 have hf:∀a k,s.T a=true/\G a=false→iW K (mask K s.T G s.M) a k=iW K s.M a k:=fun a k ha=>lQ (hK.sz a (I.tn a ha.1)) (oT ha) k
 have hR:∀x,Reach K s.es s.cs (mask K s.T G s.M) x↔Reach K s.es s.cs s.M x:=fun x=>by
  constructor
  .intro h
   induction h with
   | root r x h=>exact .root r x h
   | iY a k x _ h ih=>rw[hf a k (hV a ih)] at h;exact .iY a k x ih h
  .intro h
   induction h with
   | root r x h=>exact .root r x h
   | iY a k x h1 h ih=>rw[←hf a k (hV a h1)] at h;exact .iY a k x ih h
 funext x
 unfold lost
 congr 2
 exact decide_eq_decide.2 (hR x)
theorem BP{K:eV}(hK:K.Ok){s:St}{G:Nat→Bool}(I:fh K s G)(hp:s.phase=0):lJ K (begun s) (lost K s.T s.es s.cs s.M)=(lJ K s G).begin K:=by
 unfold sU.begin;show sU.mk _ _ _ _ _ _ _=sU.mk s.T (lost K s.T s.es s.cs (mask K s.T G s.M)) s.used s.es s.cs (mask K s.T (lost K s.T s.es s.cs (mask K s.T G s.M)) (mask K s.T G s.M)) true;rw[BO hK I hp,BK (fun x hx=>⟨hx.1,I.idle hp x⟩)]
 rfl
def fE(sz:Nat→Nat)(T:Nat→Bool):Nat→Nat
 | 0=>0
 | n+1=>fE sz T n+(if T n then sz n else 0)
theorem vG{sz:Nat→Nat}{T T':Nat→Bool}:∀n,(∀x,x<n→T x=T' x)→fE sz T n=fE sz T' n
 | 0,_=>rfl
 | n+1,h=>by unfold fE;rw[vG n (fun x hx=>h x (by omega)),h n (by omega)]
theorem vH{sz:Nat→Nat}{T:Nat→Bool}{x:Nat}:∀n,x<n→T x=false→fE sz (cP T x true) n=fE sz T n+sz x
 | 0,h,_=>absurd h (by omega)
 | n+1,h,hf=>by
   unfold fE;by_cases e:x=n
   .subst e
    rw[cS,hf,vG x (fun y hy=>du T true (by omega:y≠x))];simp
   .rw[vH n (by omega) hf,du T true (by omega:n≠x)]
    omega
def sU.fin(K:eV)(gens:Nat)(v:sU):sU:={v with T:=fun x=>v.T x&& !v.G x,G:=fun _=>false,used:=(fE K.size (fun x=>v.T x&& !v.G x) K.n:Nat),es:=v.es.map (fo gens),act:=false}
theorem BU{K:eV}(gens:Nat){s:St}{G:Nat→Bool}{u:Int}(hu:u=(fE K.size (fun x=>s.T x&& !G x) K.n:Nat)):lJ K (ended gens s G u) (fun _=>false)=(lJ K s G).fin K gens:=by
 unfold sU.fin;show sU.mk (fun x=>s.T x&& !G x) (fun _=>false) u (s.es.map (fo gens)) s.cs (mask K (fun x=>s.T x&& !G x) (fun _=>false) s.M) false=sU.mk (fun x=>s.T x&& !G x) (fun _=>false) _ (s.es.map (fo gens)) s.cs (mask K s.T G s.M) false;rw[hu,qZ (T:=s.T) (G:=G) (M:=s.M) (fun x=>by cases s.T x <;> cases G x <;> simp) (fun _ _ _ _ _ _=>rfl)]
 rfl
theorem Fs{K:eV}{T G:Nat→Bool}{M:Nat→Int}{x j:Nat}(v:Int)(h:T x=true/\G x=false)(h1:K.addr x<=j)(h2:j<K.addr x+K.size x):mask K T G (cP M j v)=cP (mask K T G M) j v:=by
 funext i
 by_cases e:i=j
 .subst e
  rw[im h h1 h2,cS,cS]
 .rw[du _ _ e]
  unfold mask;rw[du _ _ e]
theorem BW{K:eV}(hK:K.Ok){T G:Nat→Bool}{M:Nat→Int}{x:Nat}(w:Int)(hx:x<K.n)(h0:T x=false)(hG:G x=false):mask K (cP T x true) G (made K M x w)=made K (mask K T G M) x w:=by
 funext i
 have hz:=hK.sz x hx;by_cases c:K.addr x<=i/\i<K.addr x+K.size x
 .rw[im ⟨cS _ _ _,hG⟩ c.1 c.2]
  unfold made
  split
  .rfl
  .rfl
 .have hm:∀N:Nat→Int,made K N x w i=N i:=fun N=>by
   unfold made;rw[if_neg (by omega),if_neg c]
  rw[hm];by_cases d:∃y,(T y=true/\G y=false)/\K.addr y<=i/\i<K.addr y+K.size y
  .obtain⟨y,h1,h2,h3⟩:=d
   rw[im h1 h2 h3,im ⟨lT h1.1,h1.2⟩ h2 h3,hm]
  .rw[lY (fun y h1 h2 h3=>d ⟨y,⟨h1,h2⟩,h3⟩),lY (fun y h1 h2 h3=>?_)]
   rcases iA h1 with e|h1
   .subst e;exact c h3
   .exact d ⟨y,⟨h1,h2⟩,h3⟩
theorem oU{K:eV}(hK:K.Ok){T G:Nat→Bool}{M:Nat→Int}{x:Nat}(hn:x<K.n)(h:T x=true/\G x=false):cU K (mask K T G M) x=cU K M x:=ki (hK.sz x hn) (oT h)
end Go.Gc
