/- Parts of the proof of TopApart. -/
import Derived.Test.YtgblmelijlgimaaGreatDoorZTopAG
set_option maxRecDepth 100000
namespace Go.Proofs.YtgblmelijlgimaaGreatDoor
open Go.Proofs.Tryz
namespace Gy
open Go.RowKit Go.bZ Go.Gc Sl Bt
theorem vl(a b j:Nat)(h:a%b=j):Int.tmod (a:Int) (b:Int)=(j:Int):=by
 rw[Int.tmod_eq_emod_of_nonneg (by omega),←Int.natCast_emod,h]
theorem EW{w:World}{i:Gi}{ql:List Nat}{ow di:Nat→Bool}{wa we:Nat}(h:dV w i ql ow di wa we){g cap pw:Nat}{rs:List Rec}(hp:ff w i.p g cap rs i.n i.pg pw){x k:Nat}{r:Rec}(hs:eJ pw rs i.n i.pg x k r)(hx:x<i.n)(hl:ql.length<i.dv):
  ak 290 #[af (aj i.q),U x] w fun e w'=>e=ae (U 0)/\dV w' i (ql++[x]) ow di wa we/\cu i.own w w':=by
 have d:=cC h;obtain⟨f,ring,h⟩:=h;have ne:=Gi.ne h.nd;have dp:=vd w hp hs hx;have hlg:=h.l1;have hrn:=h.rn;obtain⟨j,hj⟩:=al ((f+ql.length)%i.dv);have hjl:j<i.dv:=by rw[←hj];exact Nat.mod_lt _ (by omega)
 have c2:w.cell? (aj i.q 2)=some (af (aj i.p)):=h.b0.cell 2;have HC:Hid (∀W,Below w.heap.size w W→W.cell? (aj i.q 3)=some (ai (aj i.rg) i.dv i.dv)/\W.cell? (aj i.q 4)=some (U f)/\W.cell? (aj i.q 5)=some (U ql.length)/\W.cell? (aj i.rg j)=some (U (ring.getD j 0))/\W.frozen? (aj i.rg j)=false/\W.frozen? (aj i.q 5)=false):=bU (fun W hW=>⟨(h.b0.cA hW).cell 3,(h.b0.cA hW).cell 4,(h.b0.cA hW).cell 5,by rw[(h.b1.cA hW).cell,mF _ _ _ (by rw[hrn.1];exact hjl)],(h.b1.cA hW).cE j,(h.b0.cA hW).cE 5⟩);have HF:Hid (∀W,Below w.heap.size w W→dV ((W.setCell (aj i.rg j) (U x)).setCell (aj i.q 5) (U ((ql.length:Int)+1))) i (ql++[x]) ow di wa we/\cu i.own w ((W.setCell (aj i.rg j) (U x)).setCell (aj i.q 5) (U ((ql.length:Int)+1)))):=bU (fun W hW=>by
  have hc:cu (fun k=>k=i.rg\/k=i.q) w ((W.setCell (aj i.rg j) (U x)).setCell (aj i.q 5) (U ((ql.length:Int)+1))):=(((cu.cD hW).stored (.inl (.inl rfl)) _ _).stored (.inl (.inr rfl)) _ _);refine⟨⟨f,ring.set j x,?_,?_,h.ro.bY hc (by have:=ne.n9;have:=ne.n1;omega) (by have:=ne.m3;have:=ne.n2;omega),h.rd.bY hc (by have:=ne.m5;have:=ne.n3;omega) (by have:=ne.m6;have:=ne.n4;omega),by rw[←hj];exact hrn.put hl x,h.l1,h.wl,h.nd⟩,hc.up (fun k hk=>by rcases hk with hk|hk;exact .inr (.inr (.inr (.inr (.inr hk))));exact .inl hk)⟩
  .have B:=((h.b0.cA hW).other (p:=i.rg) ne.n5 j (U x)).set 5 (U ((ql.length:Int)+1))
   rw[aJ];exact B
  .have B:=((h.b1.cA hW).set j (U x)).other (p:=i.q) (Ne.symm ne.n5) 5 (U ((ql.length:Int)+1))
   rwa [ints_set] at B)
 have hf:=hrn.2.1;have n5:=ne.n5;have n6:=Ne.symm ne.n5;obtain⟨m,hm⟩:=al (ql.length);rw[hm] at hl hj HC HF;obtain⟨q,hq⟩:=al (i.q);obtain⟨rg,hrg⟩:=al (i.rg);obtain⟨L,hL⟩:=al (i.dv);rw[hq] at d c2 HC HF n5 n6 ⊢;rw[hrg] at HC HF n5 n6;rw[hL] at hj hl HC hlg hf hjl;have g1:IntKind.i64.wrap ((f:Int)+(m:Int))=(f:Int)+(m:Int):=IntWalk.i64_in _ (by omega);have g2:Int.tmod ((f:Int)+(m:Int)) (L:Int)=(j:Int):=by have:=vl _ _ _ hj;rwa [aY] at this
 have g0:¬((L:Int)=0):=by omega
 have Tx:¬(L=0):=by omega
 have g3:IntKind.i64.wrap (j:Int)=(j:Int):=IntWalk.i64_in _ (by omega);have g4:(0:Int)<=j:=by omega
 have g5:(j:Int)<L:=by omega
 have e1:((m:Int)==(L:Int))=false:=by rw[aA];omega
 have G1:=bU g1;have G2:=bU g2;have G3:=bU g3;clear h hp hs hm hq hrg hL ne hrn hj g1 g2 g3;generalize ring.getD j 0=cA at *;go_enter func290,ntmps290;go_wp2_with (first|(go_at_call 258;(with_reducible refine d.mono ?_);rintro e w2 ⟨rfl,rfl⟩)|(go_at_call 307;(with_reducible refine dp.mono ?_);rintro e w3 ⟨rfl,dJ⟩;obtain⟨y3,y4,y5,yr,fr,f5⟩:=HC.out w3 dJ;have H3:=bU dJ;clear dJ))
 go_region_held3 (fun w'=>w'.cell? (aj q 3)=some (ai (aj rg) L L)/\w'.cell? (aj q 5)=some (U m)) (go_keep) (fail)
 go_wp2_with fail;have g1:=G1.out;have g2:=G2.out;have g3:=G3.out;go_region_held3 (fun w'=>w'.cell? (aj q 3)=some (ai (aj rg) L L)/\w'.cell? (aj q 4)=some (U f)/\w'.cell? (aj q 5)=some (U m)) (go_keep) (fail)
 clear g1 g2 g3;go_wp2_with fail;go_ret;exact⟨rfl,(HF.out _ H3.out).1.drew.drew,(HF.out _ H3.out).2.drew.drew⟩
end Gy
namespace Gy
open Go.RowKit Go.bZ Go.Gc Sl Bt
theorem Bo{w:World}{i:Gi}{ow di:Nat→Bool}{wa we:Nat}(h:dV w i [] ow di wa we):
  ak 215 #[af (aj i.q)] w fun e w'=>e=ae (.tuple #[U 0,.bool false])/\w=w':=by
 have d:=cC h;obtain⟨f,ring,h⟩:=h;have c5:w.cell? (aj i.q 5)=some (U 0):=h.b0.cell 5;clear h;generalize i.q=q at *;go_enter func215,ntmps215;go_wp2_with (go_at_call 258;(with_reducible refine d.mono ?_);rintro e w2 ⟨rfl,rfl⟩)
 go_ret2
 exact⟨rfl,rfl⟩
theorem Bp{w:World}{i:Gi}{x:Nat}{l:List Nat}{ow di:Nat→Bool}{wa we:Nat}(h:dV w i (x::l) ow di wa we):
  ak 215 #[af (aj i.q)] w fun e w'=>e=ae (.tuple #[U x,.bool true])/\dV w' i l ow di wa we/\cu i.own w w':=by
 have d:=cC h;obtain⟨f,ring,h⟩:=h;have ne:=Gi.ne h.nd;have hlg:=h.l1;obtain⟨hx,hrn⟩:=h.rn.next;obtain⟨j,hj⟩:=al ((f+1)%i.dv);have hjl:j<i.dv:=by rw[←hj];exact Nat.mod_lt _ (by omega)
 rw[hj] at hrn;have hf:=h.rn.2.1;have c3:w.cell? (aj i.q 3)=some (ai (aj i.rg) i.dv i.dv):=h.b0.cell 3;have c4:w.cell? (aj i.q 4)=some (U f):=h.b0.cell 4;have c5:w.cell? (aj i.q 5)=some (U (l.length+1:Nat)):=h.b0.cell 5;rw[aY] at c5;have f4:=h.b0.cE 4;have f5:=h.b0.cE 5;have cr:w.cell? (aj i.rg f)=some (U x):=by rw[h.b1.cell,mF _ _ _ (by rw[h.rn.1];exact hf),hx]
 have HF:Hid (dV ((w.setCell (aj i.q 4) (U j)).setCell (aj i.q 5) (U l.length)) i l ow di wa we/\cu i.own w ((w.setCell (aj i.q 4) (U j)).setCell (aj i.q 5) (U l.length))):=bU (by
  have hc:cu (fun k=>k=i.q) w ((w.setCell (aj i.q 4) (U j)).setCell (aj i.q 5) (U l.length)):=cu.stored (S:=fun k=>k=i.q) (cu.stored (S:=fun k=>k=i.q) (cu.refl _ w) (p:=i.q) (.inl rfl) _ _) (p:=i.q) (.inl rfl) _ _;exact⟨⟨j,ring,(h.b0.set 4 (U j)).set 5 (U l.length),h.b1.bY hc (Ne.symm ne.n5),h.ro.bY hc (Ne.symm ne.n1) (Ne.symm ne.n2),h.rd.bY hc (Ne.symm ne.n3) (Ne.symm ne.n4),hrn,h.l1,h.wl,h.nd⟩,hc.up (fun k hk=>.inl hk)⟩)
 have hml:l.length<64:=by have:=h.rn.2.2.1;simp at this;omega
 obtain⟨m,hm⟩:=al (l.length);rw[hm] at c5 HF hml;obtain⟨q,hq⟩:=al (i.q);obtain⟨rg,hrg⟩:=al (i.rg);obtain⟨L,hL⟩:=al (i.dv);rw[hq] at d c3 c4 c5 f4 f5 HF ⊢;rw[hrg] at c3 cr;rw[hL] at hj hlg hf hjl c3;have g1:IntKind.i64.wrap ((f:Int)+1)=(f:Int)+1:=IntWalk.i64_in _ (by omega);have g2:Int.tmod ((f:Int)+1) (L:Int)=(j:Int):=by have:=vl _ _ _ hj;rwa [aY] at this
 have g0:¬((L:Int)=0):=by omega
 have Tx:¬(L=0):=by omega
 have g3:IntKind.i64.wrap (j:Int)=(j:Int):=IntWalk.i64_in _ (by omega);have g4:(0:Int)<=f:=by omega
 have g5:(f:Int)<L:=by omega
 have g6:IntKind.i64.wrap ((m:Int)+1-1)=(m:Int):=by rw[IntWalk.i64_in _ (by omega)];omega
 have g7:(m:Int)+1-1=(m:Int):=by omega
 have e1:((m:Int)+1==0)=false:=by rw[aA];omega
 have G1:=bU g1;have G2:=bU g2;have G3:=bU g3;have G6:=bU g6;have G7:=bU g7;clear h hm hq hrg hL ne hrn hj g1 g2 g3 hx g6 g7;go_enter func215,ntmps215;go_wp2_with (go_at_call 258;(with_reducible refine d.mono ?_);rintro e w2 ⟨rfl,rfl⟩)
 go_region_held3 (fun w'=>w'.cell? (aj q 3)=some (ai (aj rg) L L)/\w'.cell? (aj q 4)=some (U f)/\w'.cell? (aj rg f)=some (U x)) (go_keep) (fail)
 go_wp2_with fail;have g1:=G1.out;have g2:=G2.out;have g3:=G3.out;have g6:=G6.out;have g7:=G7.out
 go_region
 all_goals
  clear g1 g2 g3 g6 g7;go_wp2_with fail
  go_ret2
  first
   | exact⟨rfl,HF.out.1.drew.drew,HF.out.2.drew.drew⟩
   | trace_state
end Gy
namespace Gy
open Go.RowKit Go.bZ Go.Gc Sl Bt
theorem lg.step{w w2:World}{i:Gi}{f:Nat}{ring:List Int}{ql:List Nat}{ow di:Nat→Bool}{wa we:Nat}(h:lg w i f ring ql ow di wa we)(hlt:wa<we){z:Nat→Bool}(hr:ee w2 i.ro i.go i.n z)(hc:cu (· =i.go) (w.setCell (aj i.q 6) (U ((wa:Int)+1))).drew w2):dV w2 i ql z di (wa+1) we/\cu i.own w w2:=by
 have ne:=Gi.ne h.nd;have h0:cu (fun k=>k=i.q) w (w.setCell (aj i.q 6) (U ((wa:Int)+1))).drew:=(cu.stored (S:=fun k=>k=i.q) (cu.refl _ w) (p:=i.q) (.inl rfl) _ _).drew;have jT:cu (fun k=>k=i.q\/k=i.go) w w2:=(h0.up (fun k hk=>.inl hk)).trans (hc.up (fun k hk=>.inr hk));refine⟨⟨f,ring,?_,h.b1.bY jT (by have:=ne.n5;have:=ne.m3;omega),hr,h.rd.bY jT (by have:=ne.n3;have:=ne.m1;omega) (by have:=ne.n4;have:=ne.m2;omega),h.rn,h.l1,⟨by omega,h.wl.2⟩,h.nd⟩,jT.up (fun k hk=>by rcases hk with hk|hk;exact .inl hk;exact .inr (.inr (.inl hk)))⟩;have:=(h.b0.set 6 (U ((wa:Int)+1))).drew.bY hc ne.n2;rw[aY];exact this
theorem Jl{w:World}{i:Gi}{ql:List Nat}{ow di:Nat→Bool}{wa we:Nat}(h:dV w i ql ow di wa we)(hlt:wa<we)(hwn:we<=i.n):
  ak 219 #[af (aj i.q)] w fun e w'=>e=ae (.tuple #[U (if ow wa then(wa:Int) else 0),.bool (ow wa),.bool true])/\dV w' i ql (cP ow wa false) di (wa+1) we/\cu i.own w w':=by
 have d:=cC h;obtain⟨f,ring,h⟩:=h;have ne:=Gi.ne h.nd;have hwl:=h.wl;have c6:w.cell? (aj i.q 6)=some (U wa):=h.b0.cell 6;have c7:w.cell? (aj i.q 7)=some (U we):=h.b0.cell 7;have c0:w.cell? (aj i.q)=some (af (aj i.ro)):=h.b0.cell 0;have c1:w.cell? (aj i.q 1)=some (af (aj i.rd)):=h.b0.cell 1;have f6:=h.b0.cE 6;have hro:=(h.ro.bY (cu.stored (S:=fun k=>k=i.q) (cu.refl _ w) (p:=i.q) (.inl rfl) 6 (U ((wa:Int)+1))) (Ne.symm ne.n1) (Ne.symm ne.n2)).drew;have dp:=zj (rd:=i.rd) hro (x:=wa) (by omega);have e1:((wa:Int)==(we:Int))=false:=by rw[aA];omega
 have HF:Hid (∀w2,ee w2 i.ro i.go i.n (cP ow wa false)→cu (· =i.go) (w.setCell (aj i.q 6) (U ((wa:Int)+1))).drew w2→dV w2 i ql (cP ow wa false) di (wa+1) we/\cu i.own w w2):=bU (fun w2 hr hc=>h.step hlt hr hc);clear h hro ne;generalize ow wa=ob at *
 cases ob
 .obtain⟨q,hq⟩:=al (i.q)
  rw[hq] at d c6 c7 c0 c1 f6 dp HF ⊢;clear hq;go_enter func219,ntmps219;go_wp2_with (go_at_call 258;(with_reducible refine d.mono ?_);rintro e w2 ⟨rfl,rfl⟩)
  go_region_held3 (fun w'=>w'.cell? (aj q 6)=some (U wa)/\w'.cell? (aj q 7)=some (U we)) (go_keep) (fail)
  go_wp2_with (go_at_call 264;(with_reducible refine dp.mono ?_);rintro e w3 ⟨rfl,r3,k3⟩;have R3:=bU r3;have K3:=bU k3;clear r3 k3)
  go_ret3
  exact⟨rfl,(HF.out _ R3.out K3.out).1,(HF.out _ R3.out K3.out).2⟩
 .obtain⟨q,hq⟩:=al (i.q)
  rw[hq] at d c6 c7 c0 c1 f6 dp HF ⊢;clear hq;go_enter func219,ntmps219;go_wp2_with (go_at_call 258;(with_reducible refine d.mono ?_);rintro e w2 ⟨rfl,rfl⟩)
  go_region_held3 (fun w'=>w'.cell? (aj q 6)=some (U wa)/\w'.cell? (aj q 7)=some (U we)) (go_keep) (fail)
  go_wp2_with (go_at_call 264;(with_reducible refine dp.mono ?_);rintro e w3 ⟨rfl,r3,k3⟩;have R3:=bU r3;have K3:=bU k3;clear r3 k3)
  go_ret3
  exact⟨rfl,(HF.out _ R3.out K3.out).1,(HF.out _ R3.out K3.out).2⟩
end Gy
namespace Gy
open Go.RowKit Go.bZ Go.Gc Sl Bt
theorem Bq{w:World}{i:Gi}{x:Nat}{l:List Nat}{ow di:Nat→Bool}{wa:Nat}(h:dV w i (x::l) ow di wa wa)(hT:TabAt 2 Lib.deBruijn64tab w)(hz:2<w.heap.size):
  ak 219 #[af (aj i.q)] w fun e w'=>e=ae (.tuple #[U 0,.bool false,.bool false])/\Below w.heap.size w w':=by
 have d:=cC h;obtain⟨f,ring,h⟩:=h;have c6:w.cell? (aj i.q 6)=some (U wa):=h.b0.cell 6;have c7:w.cell? (aj i.q 7)=some (U wa):=h.b0.cell 7;have c1:w.cell? (aj i.q 1)=some (af (aj i.rd)):=h.b0.cell 1;have hB:=bd (bV w.heap.size w);have dn:=Bt.lN h.rd.drew 0 (by omega) true (fun j hj=>(hT j hj)) hz;have HC:Hid (∀W,Below w.heap.size w W→W.cell? (aj i.q 5)=some (U (l.length+1:Nat))):=bU (fun W hW=>(h.b0.cA hW).cell 5);have e1:((wa:Int)==(wa:Int))=true:=by rw[beq_iff_eq]
 have e2:0<l.length+1:=by omega
 clear h;generalize l.length+1=m at *;obtain⟨q,hq⟩:=al (i.q);rw[hq] at d c6 c7 c1 HC ⊢;clear hq;go_enter func219,ntmps219;go_wp2_with (go_at_call 258;(with_reducible refine d.mono ?_);rintro e w2 ⟨rfl,rfl⟩)
 go_region_held3 (fun w'=>w'.cell? (aj q 6)=some (U wa)/\w'.cell? (aj q 7)=some (U wa)) (go_keep) (fail)
 go_wp2_with (go_at_call 230;refine dn.mono ?_;rintro e w3 ⟨r,ok,rfl,-,dJ⟩;have y5:=HC.out w3 (bT hB dJ (av _));have H3:=bU (bT hB dJ (av _));clear dJ)
 all_goals
  go_ret3
  exact⟨rfl,H3.out⟩
theorem EX{f:Nat→Bool}{n r:Nat}{ok:Bool}(h:iM f n 0 true r ok)(hf:∀p,p<n→f p=false):ok=false/\r=0:=by
 rcases h with⟨h1,h2,h3,h4,_⟩|⟨h1,h2,_⟩
 .rw[hf r h3] at h4;cases h4
 .exact⟨h1,h2⟩
theorem EY{f:Nat→Bool}{n r p:Nat}{ok:Bool}(h:iM f n 0 true r ok)(hp:p<n)(hf:f p=true):ok=true/\r<n/\f r=true:=by
 rcases h with⟨h1,h2,h3,h4,_⟩|⟨h1,h2,h3⟩
 .exact⟨h1,h3,h4⟩
 .exact absurd hf (h3 p (by omega) hp)
theorem xE{w:World}{i:Gi}{ow di:Nat→Bool}{wa:Nat}(h:dV w i [] ow di wa wa)(hdi:∀p,p<i.pg→di p=false)(hT:TabAt 2 Lib.deBruijn64tab w)(hz:2<w.heap.size):
  ak 219 #[af (aj i.q)] w fun e w'=>e=ae (.tuple #[U 0,.bool false,.bool false])/\Below w.heap.size w w':=by
 have d:=cC h;obtain⟨f,ring,h⟩:=h;have c6:w.cell? (aj i.q 6)=some (U wa):=h.b0.cell 6;have c7:w.cell? (aj i.q 7)=some (U wa):=h.b0.cell 7;have c1:w.cell? (aj i.q 1)=some (af (aj i.rd)):=h.b0.cell 1;have hB:=bd (bV w.heap.size w);have dn:=Bt.lN h.rd.drew 0 (by omega) true (fun j hj=>(hT j hj)) hz;have HN:Hid (∀r ok,iM di i.pg 0 true r ok→ok=false/\r=0):=bU (fun r ok hn=>EX hn hdi);have HC:Hid (∀W,Below w.heap.size w W→W.cell? (aj i.q 5)=some (U 0)):=bU (fun W hW=>(h.b0.cA hW).cell 5);have e1:((wa:Int)==(wa:Int))=true:=by rw[beq_iff_eq]
 clear h hdi;obtain⟨q,hq⟩:=al (i.q);rw[hq] at d c6 c7 c1 HC ⊢;clear hq;go_enter func219,ntmps219;go_wp2_with (go_at_call 258;(with_reducible refine d.mono ?_);rintro e w2 ⟨rfl,rfl⟩)
 go_region_held3 (fun w'=>w'.cell? (aj q 6)=some (U wa)/\w'.cell? (aj q 7)=some (U wa)) (go_keep) (fail)
 go_wp2_with (go_at_call 230;refine dn.mono ?_;rintro e w3 ⟨r,ok,rfl,LC,dJ⟩;obtain⟨rfl,rfl⟩:=HN.out _ _ LC;have y5:=HC.out w3 (bT hB dJ (av _));have H3:=bU (bT hB dJ (av _));clear dJ LC)
 go_ret3
 exact⟨rfl,H3.out⟩
end Gy
namespace Gy
open Go.RowKit Go.bZ Go.Gc Sl Bt
theorem lg.open_{w:World}{i:Gi}{f:Nat}{ring:List Int}{ql:List Nat}{ow di:Nat→Bool}{wa we:Nat}(h:lg w i f ring ql ow di wa we)(a b:Nat)(hab:a<=b)(hb:b<=65536):lg ((w.setCell (aj i.q 6) (U a)).setCell (aj i.q 7) (U b)) i f ring ql ow di a b:=by
 have ne:=Gi.ne h.nd;have hc:cu (fun k=>k=i.q) w ((w.setCell (aj i.q 6) (U a)).setCell (aj i.q 7) (U b)):=cu.stored (S:=fun k=>k=i.q) (cu.stored (S:=fun k=>k=i.q) (cu.refl _ w) (p:=i.q) (.inl rfl) _ _) (p:=i.q) (.inl rfl) _ _;exact⟨(h.b0.set 6 (U a)).set 7 (U b),h.b1.bY hc (Ne.symm ne.n5),h.ro.bY hc (Ne.symm ne.n1) (Ne.symm ne.n2),h.rd.bY hc (Ne.symm ne.n3) (Ne.symm ne.n4),h.rn,h.l1,⟨hab,hb⟩,h.nd⟩
theorem lg.Oz{w w2:World}{i:Gi}{f:Nat}{ring:List Int}{ql:List Nat}{ow di:Nat→Bool}{wa we:Nat}(h:lg w i f ring ql ow di wa we)(hlt:wa<we){z:Nat→Bool}(hr:ee w2 i.ro i.go i.n z)(hc:cu (· =i.go) (w.setCell (aj i.q 6) (U ((wa:Int)+1))) w2):dV w2 i ql z di (wa+1) we/\cu i.own w w2:=by
 have ne:=Gi.ne h.nd;have h0:cu (fun k=>k=i.q) w (w.setCell (aj i.q 6) (U ((wa:Int)+1))):=(cu.stored (S:=fun k=>k=i.q) (cu.refl _ w) (p:=i.q) (.inl rfl) _ _);have jT:cu (fun k=>k=i.q\/k=i.go) w w2:=(h0.up (fun k hk=>.inl hk)).trans (hc.up (fun k hk=>.inr hk));refine⟨⟨f,ring,?_,h.b1.bY jT (by have:=ne.n5;have:=ne.m3;omega),hr,h.rd.bY jT (by have:=ne.n3;have:=ne.m1;omega) (by have:=ne.n4;have:=ne.m2;omega),h.rn,h.l1,⟨by omega,h.wl.2⟩,h.nd⟩,jT.up (fun k hk=>by rcases hk with hk|hk;exact .inl hk;exact .inr (.inr (.inl hk)))⟩;have:=(h.b0.set 6 (U ((wa:Int)+1))).bY hc ne.n2;rw[aY];exact this
def EZ(i:Gi)(rs:List Rec)(ow di:Nat→Bool)(w:World)(e:Ending)(w':World):Prop:=
 ∃p,p<i.pg/\di p=true/\e=ae (.tuple #[U (if ow (iw rs p) then(iw rs p:Int) else 0),.bool (ow (iw rs p)),.bool true])/\dV w' i [] (cP ow (iw rs p) false) (cP di p false) (iw rs p+1) (iw rs p+lC rs p)/\cu i.own w w'
set_option maxHeartbeats 1000000 in
theorem Bu{w:World}{i:Gi}{ow di:Nat→Bool}{wa:Nat}(h:dV w i [] ow di wa wa){g cap pw:Nat}{rs:List Rec}(hp:ff w i.p g cap rs i.n i.pg pw)(hg:Go.Gc.Good pw rs 0 0 i.n i.pg){p0:Nat}(I5:p0<i.pg)(xe:di p0=true)(hpo:∀k,i.own k→k≠i.p/\k≠g)(hT:TabAt 2 Lib.deBruijn64tab w)(hz:2<w.heap.size):
  ak 219 #[af (aj i.q)] w (EZ i rs ow di w):=by
 have d:=cC h;obtain⟨f,ring,h⟩:=h;have ne:=Gi.ne h.nd;have hnn:=h.ro.nn;have c6:w.cell? (aj i.q 6)=some (U wa):=h.b0.cell 6;have c7:w.cell? (aj i.q 7)=some (U wa):=h.b0.cell 7;have c1:w.cell? (aj i.q 1)=some (af (aj i.rd)):=h.b0.cell 1;have hB:=bd (bV w.heap.size w);have dn:=Bt.lN h.rd.drew 0 (by omega) true (fun j hj=>(hT j hj)) hz;have HN:Hid (∀r ok,iM di i.pg 0 true r ok→ok=true/\r<i.pg/\di r=true):=bU (fun r ok hn=>EY hn I5 xe);have HC:Hid (∀W,Below w.heap.size w W→W.cell? (aj i.q 5)=some (U 0)/\W.cell? (aj i.q 1)=some (af (aj i.rd))/\∀r,r<i.pg→ak 173 #[af (aj i.rd),U r,.bool false] W fun e w'=>e=ae (U 0)/\ee w' i.rd i.gd i.pg (lM di r false)/\cu (· =i.gd) W w'):=bU (fun W hW=>⟨(h.b0.cA hW).cell 5,(h.b0.cA hW).cell 1,fun r hr=>kO (h.rd.cA hW) r hr false⟩);have HI:Hid (∀W W',Below w.heap.size w W→cu (· =i.gd) W W'→W'.cell? (aj i.q 2)=some (af (aj i.p))/\∀r,r<i.pg→ak 263 #[af (aj i.p),U r] W' fun e w'=>e=ae (.tuple #[U (iw rs r:Int),U (lC rs r:Int),U 0])/\Below W'.heap.size W' w'):=bU (fun W W' hW hc=>⟨((h.b0.cA hW).bY hc ne.n4).cell 2,fun r hr=>by
  obtain⟨k,r',h1,h2⟩:=Mn hg hr;exact Mr W' ((hp.cA hW).bY hc (Ne.symm (hpo _ (.inr (.inr (.inr (.inr (.inl rfl)))))).1) (Ne.symm (hpo _ (.inr (.inr (.inr (.inr (.inl rfl)))))).2)) h1 h2 hr⟩)
 have HQ:Hid (∀W W' Qv r,Below w.heap.size w W→ee W' i.rd i.gd i.pg (lM di r false)→cu (· =i.gd) W W'→Below W'.heap.size W' Qv→lg Qv i f ring [] ow (cP di r false) wa wa):=bU (fun W W' Qv r hW hr hc hb=>
  ⟨((h.b0.cA hW).bY hc ne.n4).cA hb,((h.b1.cA hW).bY hc (Ne.symm ne.m6)).cA hb,((h.ro.cA hW).bY hc ne.n8 ne.m2).cA hb,hr.cA hb,h.rn,h.l1,h.wl,h.nd⟩)
 have HP:Hid (∀r,r<i.pg→0<lC rs r/\iw rs r+lC rs r<=i.n):=bU (fun r hr=>by obtain⟨a,_,b⟩:=EG hg hr;exact⟨a,b⟩);have e1:((wa:Int)==(wa:Int))=true:=by rw[beq_iff_eq]
 have NE:=bU ne;clear h hp hg I5 xe hpo hT ne;obtain⟨q,hq⟩:=al (i.q);have HQE:=bU hq;rw[hq] at d c6 c7 c1 HC HI ⊢;clear hq;go_enter func219,ntmps219;go_wp2_with (go_at_call 258;(with_reducible refine d.mono ?_);rintro e w2 ⟨rfl,rfl⟩)
 go_region_held3 (fun w'=>w'.cell? (aj q 6)=some (U wa)/\w'.cell? (aj q 7)=some (U wa)) (go_keep) (fail)
 go_wp2_with (first
  | (go_at_call 230;refine dn.mono ?_;rintro e w3 ⟨r,ok,rfl,LC,dJ⟩;obtain⟨rfl,IN,AW⟩:=HN.out _ _ LC;have H3:=bU (bT hB dJ (av _));obtain⟨y5,y1,y9⟩:=HC.out w3 H3.out;have D9:=bU (y9 r IN);have OA:=bU AW;obtain⟨qJ,po⟩:=HP.out r IN;clear dJ LC y9 AW dn)
  | (go_at_call 173;(with_reducible refine D9.out.mono ?_);rintro e w4 ⟨rfl,RP,NZ⟩;obtain⟨y2,y8⟩:=HI.out w3 w4 H3.out NZ;have D8:=bU (y8 r IN);have R4:=bU RP;have C4:=bU NZ;clear RP NZ y8)
  | (go_at_call 263;(with_reducible refine D8.out.mono ?_);rintro e w5 ⟨rfl,uK⟩;have RQ:=bU (HQ.out w3 w4 w5 r H3.out R4.out C4.out uK);have H5:=bU (((cu.cD (S:=i.own) H3.out).trans (C4.out.up (fun k hk=>.inr (.inr (.inr (.inr (.inl hk))))))).trans (cu.cD uK));have B5:=RQ.out.b0;rw[HQE.out] at B5;have f6:=B5.cE 6;have f7:=B5.cE 7;have z6:w5.cell? (aj q 6)=some (U wa):=B5.cell 6;have z7:w5.cell? (aj q 7)=some (U wa):=B5.cell 7;have z0:w5.cell? (aj q)=some (af (aj i.ro)):=B5.cell 0;have z1:w5.cell? (aj q 1)=some (af (aj i.rd)):=B5.cell 1;clear uK B5))
 have G6:=RQ.out.open_ (iw rs r) (iw rs r+lC rs r) (by omega) (by omega);rw[aY,HQE.out] at G6;have N1:=NE.out.n1;have N2:=NE.out.n2;rw[HQE.out] at N1 N2;have P6:=zj (rd:=i.rd) (G6.ro.bY (cu.stored (S:=fun k=>k=q) (cu.refl _ _) (p:=q) (.inl rfl) 6 (U ((iw rs r:Int)+1))) (Ne.symm N1) (Ne.symm N2)) (x:=iw rs r) (by omega);have HS:Hid (∀w7,ee w7 i.ro i.go i.n (cP ow (iw rs r) false)→cu (· =i.go) ((((w5.setCell (aj q 6) (U (iw rs r:Int))).setCell (aj q 7) (U ((iw rs r:Int)+(lC rs r:Int)))).setCell (aj q 6) (U ((iw rs r:Int)+1)))) w7→dV w7 i [] (cP ow (iw rs r) false) (cP di r false) (iw rs r+1) (iw rs r+lC rs r)/\cu i.own w w7):=bU (fun w7 h7 c7=>by
  have:=G6.Oz (by omega) h7 (by rw[HQE.out];exact c7);have h0:cu i.own w5 ((w5.setCell (aj q 6) (U (iw rs r:Int))).setCell (aj q 7) (U ((iw rs r:Int)+(lC rs r:Int)))):=cu.stored (S:=i.own) (cu.stored (S:=i.own) (cu.refl _ w5) (p:=q) (.inl (.inl HQE.out.symm)) _ _) (p:=q) (.inl (.inl HQE.out.symm)) _ _;exact⟨this.1,(H5.out.trans h0).trans this.2⟩)
 obtain⟨ob,hob⟩:=al (ow (iw rs r));rw[hob] at P6;have HOB:=bU hob;clear hob G6 N1 N2
 cases ob;all_goals
  refine P6.mono ?_;rintro e w7 ⟨rfl,RR,RS⟩;have F:=bU (HS.out w7 RR RS);clear RR RS P6;go_wp2_with fail
  go_ret3
  exact⟨r,IN,OA.out,by rw[HOB.out];rfl,F.out.1,F.out.2⟩
end Gy
namespace Mm
open Go.RowKit Go.bZ
structure fI(w:World)(mp mw mb cap:Nat)(bs:List Nat)(ws:List Int):Prop where
 b0:cj w mp #[ai (aj mw) ws.length ws.length,ai (aj mb) bs.length cap] 110
 b1:cj w mw (ints .u64 ws) 36
 b2:∀i,i<bs.length→w.cell? (aj mb i)=some (U (bs.getD i 0:Nat))
 wd:∀x∈ws,0<=x/\x<18446744073709551616
 up:∀i,i+1<bs.length→bs.getD i 0<bs.getD (i+1) 0
 le:∀i,i<bs.length→bs.getD i 0<=ws.length
 small:ws.length<=100000000
 two:2<=bs.length
 jU:bs.length<=1000
theorem cC{w:World}{mp mw mb cap:Nat}{bs:List Nat}{ws:List Int}(h:fI w mp mw mb cap bs ws):ak 89 #[af (aj mp)] w fun e w'=>e=ae (.bool false)/\w=w':=by
 have c1:w.cell? (aj mp 1)=some (ai (aj mb) bs.length cap):=h.b0.cell 1;have hz:((bs.length:Int)==0)=false:=by have:=h.two;rw[aA];omega
 clear h;go_enter func89,ntmps89;go_wp2_with fail;go_ret;exact⟨rfl,rfl⟩
theorem sP{w:World}{mp mw mb cap:Nat}{bs:List Nat}{ws:List Int}(h:fI w mp mw mb cap bs ws)(t:Nat)(ht:t+1<bs.length):
  ak 116 #[af (aj mp),U t] w fun e w'=>e=ae (ai (aj mw (bs.getD t 0)) (bs.getD (t+1) 0-bs.getD t 0) (ws.length-bs.getD t 0))/\∃k,w'=w.drewN k:=by
 have d:=cC h;have c0:w.cell? (aj mp)=some (ai (aj mw) ws.length ws.length):=h.b0.cell 0;have c1:w.cell? (aj mp 1)=some (ai (aj mb) bs.length cap):=h.b0.cell 1;have e0:=h.b2 t (by omega);have e1:=h.b2 (t+1) ht;have u:=h.up t ht;have l:=h.le (t+1) ht;have hs:=h.small;have hf:=h.jU;generalize bs.getD t 0=a at *;generalize bs.getD (t+1) 0=b at *;have i0:(0:Int)<=(t:Int):=by omega
 have i1:(t:Int)+1<(bs.length:Int):=by omega
 have j0:(0:Int)<=(a:Int):=by omega
 have j1:(a:Int)<(b:Int):=by omega
 have j2:(b:Int)<=(ws.length:Int):=by omega
 clear h;go_enter func116,ntmps116;go_wp2_with (go_at_call 89;(with_reducible refine d.mono ?_);rintro e w' ⟨rfl,rfl⟩)
 go_quiet (fail)
 go_wp2_with fail;go_ret;exact⟨by first|rfl|simp,_,rfl⟩
theorem tT{w:World}{mp mw mb cap:Nat}{bs:List Nat}{ws:List Int}(h:fI w mp mw mb cap bs ws)(t a m:Nat)(ht:t+1<bs.length)(hm:1<=m)(ha:bs.getD t 0+a+m<=bs.getD (t+1) 0):
  ak 154 #[af (aj mp),U t,U a,U m] w fun e w'=>e=ae (ai (aj mw (bs.getD t 0+a)) m (ws.length-bs.getD t 0-a))/\∃k,w'=w.drewN k:=by
 have d:=sP h t ht;have l:=h.le (t+1) ht;have hs:=h.small;generalize bs.getD t 0=x at *;generalize bs.getD (t+1) 0=b at *;obtain⟨len,hlen⟩:=al (b-x);obtain⟨cp,hcp⟩:=al (ws.length-x);rw[hlen,hcp] at d;rw[hcp];have h1:a+m<=len:=by omega
 have h2:len<=cp:=by omega
 have h3:cp<=100000000:=by omega
 clear h hlen hcp ha;go_enter func154,ntmps154;go_wp2_with (go_at_call 116;(with_reducible refine d.mono ?_);rintro e w' ⟨rfl,k,rfl⟩)
 go_ret;exact⟨by first|rfl|simp,_,rfl⟩
end Mm
namespace Mm
open Go.RowKit Go.bZ
theorem E4(p:Nat)(w:World):
  CallsD prog 148 #[af (aj p)] .returning w fun e u' w'=>e=ae (.tuple #[])/\u'=.returning/\w=w':=by
 refine callsD_of_wpS func148 rfl fun c₀ cs hu=>?_
 simp only[ntmps148,aP,aC,aV,Nat.reduceAdd,Nat.reduceSub,aL,
   aK,aT,aM,aU,aX]
 apply wpS_seq;apply wpS_region;simp[wpOpsS,go_sem,recoverD,hu,Exit.thenS];refine wpS_of_wp ?_;go_wp2_with fail
 cases c₀
 simp_all [bodyPostS,results,Tryz.results148]
theorem xF(tmps:Array Value)(w:World)(H:Nat)(h2:tmps.getD 2 undef=af (aj H))(he:w.cell? (aj H)=some (U 0)):
  (results Tryz.f114 tmps).run prog w=.ok (U 0) w:=by
 have N3:tmps[2]?.getD undef=af (aj H):=by simpa using h2
 have l2:(loadVar 33 ⟨H,0,none⟩).run prog w=.ok (U 0) w:=by simp[go_sem,he]
 simp[results,Tryz.results114,N3,asAddr,l2]
theorem Bv(w0 w2:World)(Q:World→Prop)(hq:Q w2)(hb:cj w2 w0.heap.size #[U 0] 33)(tmps:Array Value)(h2:tmps.getD 2 undef=af (aj w0.heap.size)):
  Leaves prog Tryz.f114 tmps (fun e w'=>e=Ending.returned (U 0)/\∃w2,Q w2/\w'=w2.setCell (aj w0.heap.size) (U 0)) [{target:=.fn (.func 148) #[af (aj w0.heap.size)],args:=#[]}] .returning (w2.setCell (aj w0.heap.size) (U 0)):=by
 refine leaves_cons (f:=148) (args:=#[af (aj w0.heap.size)]) (by simp) (by simp[go_sem]) ?_;refine(E4 w0.heap.size _).mono ?_;rintro e u' OB ⟨rfl,rfl,rfl⟩;exact⟨_,xF tmps _ _ h2 ((hb.set 0 (U 0)).cell 0),rfl,w2,hq,rfl⟩
theorem tU(g:Nat)(cb:Array Value)(w:World)(Q:World→Prop)
 (hf:ak g cb (w.alloc (.cells #[U 0] 33)) fun e w'=>e=ae (.tuple #[])/\Q w'/\cu (fun k=>k≠w.heap.size) (w.alloc (.cells #[U 0] 33)) w')(eg:∀args w,(callFunc g args).run prog w=.ok (.enter g args) w):
  ak 114 #[.func (.func g) #[] cb] w fun e w'=>e=ae (U 0)/\∃w2,Q w2/\w'=w2.setCell (aj w.heap.size) (U 0):=by
 go_enter_defers func114,ntmps114
 go_wp2_with (go_at_fn g;refine hf.mono ?_;rintro e w2 ⟨rfl,hq,hc⟩;have hb:=(cj.new w #[U 0] 33).bY hc (by simp);have k0:w2.cell? (aj w.heap.size)=some (U 0):=hb.cell 0;have f0:=hb.cE 0;have HD:=bU (fun tmps=>Bv w w2 Q hq hb tmps);clear hb)
 exact HD.out _ rfl
end Mm
namespace Mm
open Go.RowKit Go.bZ
theorem fI.bY{S:Nat→Prop}{w w':World}{mp mw mb cap:Nat}{bs:List Nat}{ws:List Int}(h:fI w mp mw mb cap bs ws)(hc:cu S w w')(h1:¬S mp)(h2:¬S mw)(h3:¬S mb):fI w' mp mw mb cap bs ws:=by
 have e:∀i,w'.cell? (aj mb i)=w.cell? (aj mb i):=fun i=>World.cell?_of_block (w:=w) (hc.block _ (World.block_lt_of_cell? w ⟨mb,0,none⟩ (h.b2 0 (by have:=h.two;omega))) h3)
 exact⟨h.b0.bY hc h1,h.b1.bY hc h2,fun i hi=>(e i).trans (h.b2 i hi),h.wd,h.up,h.le,h.small,h.two,h.jU⟩
theorem fI.cA{w w':World}{mp mw mb cap:Nat}{bs:List Nat}{ws:List Int}(h:fI w mp mw mb cap bs ws)(hb:Below w.heap.size w w'):fI w' mp mw mb cap bs ws:=h.bY (cu.cD hb) (S:=fun _=>False) id id id
theorem Bw{w:World}{mp mw mb cap:Nat}{bs:List Nat}{ws:List Int}(h:fI w mp mw mb cap bs ws)(bm bt ba bw t a:Nat)(ht:t+1<bs.length)(ha:bs.getD t 0+a+1<=bs.getD (t+1) 0)(x:Int)(hx:ws[bs.getD t 0+a]?=some x)
 (c0:w.cell? (aj bm)=some (af (aj mp)))(c1:w.cell? (aj bt)=some (U t))(c2:w.cell? (aj ba)=some (U a))(b3:cj w bw #[aa 0] 36):
  ak 153 #[af (aj bm),af (aj bt),af (aj ba),af (aj bw)] w fun e w'=>e=ae (.tuple #[])/\cj w' bw #[aa x] 36/\cu (· =bw) w w':=by
 have d:=tT h t a 1 ht (av _) ha;have hl:=h.le (t+1) ht;have hs:=h.small;have cx:w.cell? (aj mw (bs.getD t 0+a))=some (aa x):=(h.b1.cell _).trans (by unfold ints;rw[aO,aR,hx];rfl);have c3:w.cell? (aj bw)=some (aa 0):=b3.cell 0;have f3:=b3.cE 0;have HB:Hid (∀k,cj ((w.drewN k).setCell (aj bw) (aa x)) bw #[aa x] 36):=bU (fun k=>(b3.drewN k).set 0 _);have HC:Hid (∀k,cu (· =bw) w ((w.drewN k).setCell (aj bw) (aa x))):=bU (fun k=>((cu.refl (· =bw) w).drewN k).stored (.inl rfl) _ _);generalize bs.getD t 0=z at *;generalize bs.getD (t+1) 0=z2 at *;obtain⟨cp,hcp⟩:=al (ws.length-z-a);rw[hcp] at d;have h1:1<=cp:=by omega
 clear h b3 hcp;go_enter func153,ntmps153;go_wp2_with (go_at_call 154;refine d.mono ?_;rintro e w2 ⟨rfl,k,rfl⟩)
 go_end0
 exact⟨rfl,HB.out _,HC.out _⟩
theorem tV{w:World}{mp mw mb cap:Nat}{bs:List Nat}{ws:List Int}(h:fI w mp mw mb cap bs ws)(t a:Nat)(ht:t+1<bs.length)(ha:bs.getD t 0+a+1<=bs.getD (t+1) 0)(x:Int)(hx:ws[bs.getD t 0+a]?=some x):
  ak 119 #[af (aj mp),U t,U a] w fun e w'=>e=ae (.tuple #[aa x,U 0])/\Below w.heap.size w w':=by
 obtain⟨W,hW⟩:=al ((((w.alloc (.cells #[af (aj mp)] 75)).alloc (.cells #[U t] 3)).alloc (.cells #[U a] 3)).alloc (.cells #[aa 0] 36));have s:W.heap.size=w.heap.size+1+1+1+1:=by rw[←hW];simp
 have dj:Below w.heap.size w W:=by rw[←hW];exact((((bV _ w).alloc (av _) _).alloc (by simp) _).alloc (by simp;omega) _).alloc (by simp;omega) _
 have B0:cj W w.heap.size #[af (aj mp)] 75:=by rw[←hW];exact(((cj.new w _ _).alloc _).alloc _).alloc _
 have B1:cj W (w.heap.size+1) #[U t] 3:=by rw[←hW];exact(by have:=cj.new (w.alloc (.cells #[af (aj mp)] 75)) #[U t] 3;rw[World.size_alloc] at this;exact(this.alloc _).alloc _)
 have B2:cj W (w.heap.size+1+1) #[U a] 3:=by rw[←hW];exact(by have:=cj.new ((w.alloc (.cells #[af (aj mp)] 75)).alloc (.cells #[U t] 3)) #[U a] 3;rw[World.size_alloc,World.size_alloc] at this;exact this.alloc _)
 have B3:cj W (w.heap.size+1+1+1) #[aa 0] 36:=by rw[←hW];exact(by have:=cj.new (((w.alloc (.cells #[af (aj mp)] 75)).alloc (.cells #[U t] 3)).alloc (.cells #[U a] 3)) #[aa 0] 36;rw[World.size_alloc,World.size_alloc,World.size_alloc] at this;exact this)
 have hbo:=(bV W.heap.size W).alloc (av _) (.cells #[U 0] 33);have don:=tU 153 #[af (aj w.heap.size),af (aj (w.heap.size+1)),af (aj (w.heap.size+1+1)),af (aj (w.heap.size+1+1+1))] W (fun w'=>cj w' (w.heap.size+1+1+1) #[aa x] 36/\Below w.heap.size w w'/\W.heap.size<w'.heap.size)
  ((Bw ((h.cA dj).cA hbo) w.heap.size (w.heap.size+1) (w.heap.size+1+1) (w.heap.size+1+1+1) t a ht ha x hx ((B0.cA hbo).cell 0) ((B1.cA hbo).cell 0) ((B2.cA hbo).cell 0) (B3.cA hbo)).mono (by
   rintro e w' ⟨rfl,hb,hc⟩;refine⟨rfl,⟨hb,(dj.trans (hbo.mono dj.size)).trans (hc.below (by simp;omega) (fun k hk=>by have hk:k=w.heap.size+1+1+1:=hk;omega)),by have:=hc.size;simp at this;omega⟩,hc.mono (fun k _ hk=>by have hk:k=w.heap.size+1+1+1:=hk;show k≠W.heap.size;omega)⟩)) (fun _ _=>by kernel_rfl)
 have HD:Hid (∀w2,(cj w2 (w.heap.size+1+1+1) #[aa x] 36/\Below w.heap.size w w2/\W.heap.size<w2.heap.size)→cj (w2.setCell (aj W.heap.size) (U 0)) (w.heap.size+1+1+1) #[aa x] 36/\Below w.heap.size w (w2.setCell (aj W.heap.size) (U 0))):=bU (fun w2 ⟨p1,p2,_⟩=>⟨p1.other (by omega) 0 _,p2.setCell (by show w.heap.size<=W.heap.size;omega) _⟩);clear h hx ha dj B0 B1 B2 B3 hbo;rw[s] at don HD;clear s;subst hW;go_enter func119,ntmps119;go_wp2_with (go_at_call 114;refine don.mono ?_;rintro e w3 ⟨rfl,w2,hq,rfl⟩;obtain⟨p1,p2⟩:=HD.out w2 hq;have k0:(w2.setCell (aj (w.heap.size+1+1+1+1)) (U 0)).cell? (aj (w.heap.size+1+1+1))=some (aa x):=p1.cell 0;have f0:=p1.cE 0;have HP:=bU p2;clear p1 p2)
 refine bodyPost_ret (v:=.tuple #[aa x,U 0]) (by simp[results,Tryz.results119,go_sem,k0]) rfl ?_;exact⟨rfl,HP.out.setCell (by show w.heap.size<=w.heap.size+1+1+1;omega) _⟩
end Mm
end Go.Proofs.YtgblmelijlgimaaGreatDoor
