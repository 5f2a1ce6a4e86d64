/- Parts of the proof of TopApart. -/
import Derived.Test.YtgblmelijlgimaaGreatDoorZTopAR
import Derived.Deep.DeepCutAuto
set_option maxRecDepth 100000
namespace Go.Proofs.YtgblmelijlgimaaGreatDoor
open Go.Proofs.Tryz
namespace Sw
open Go.RowKit Go.bZ Go.Gc Sl Mm Hd Bd Gy Bt Tb Pn Mk Ar
open Ti (Tn)
attribute [local go_sem] Oper.semAt_some
theorem Cw{w:World}{E:Env}{ws:List Int}{s:St}{N:Int}(h:Co w E ws s N){x:Nat}(hx:x<E.n){q:Nat}(hq:cj w q #[af (aj (E.A 22))] 140):ak 171 #[U x,af (aj q)] w fun e w'=>e=ae (.bool ((s.col x:Int)==0))/\w=w':=by
 have d:=oA h.mp hx;have c0:w.cell? (aj q)=some (af (aj (E.A 22))):=hq.cell 0;have c2:w.cell? (aj (E.A 22) 2)=some (af (aj (E.A 20))):=h.sb.cell 2;clear h hq;generalize E.A 22=TP at *;generalize E.A 20=PV at *;generalize s.col x=c at *;go_enter func171,ntmps171;go_wp2_with (go_at_call 103;refine d.mono ?_;rintro e w' ⟨rfl,rfl⟩)
 go_ret;exact⟨rfl,rfl⟩
theorem J4{w:World}{E:Env}{ws:List Int}{s:St}{N:Int}(h:Co w E ws s N){x:Nat}(hx:x<E.n){q sl:Nat}(hq:cj w q #[af (aj (E.A 22))] 140)(hs:cj w sl #[.func (.func 170) #[af (aj (E.A 3))] #[],.func (.func 171) #[] #[af (aj q)]] 274):
  ak 169 #[U x,ai (aj sl) 2 2] w fun e w'=>e=ae (.bool (s.T x&&((s.col x:Int)==0)))/\w=w':=by
 have d1:=MA h.ar hx;have d2:=Cw h hx hq;have c0:w.cell? (aj sl)=some (.func (.func 170) #[af (aj (E.A 3))] #[]):=hs.cell 0;have c1:w.cell? (aj sl 1)=some (.func (.func 171) #[] #[af (aj q)]):=hs.cell 1;have s2:∀(a:Addr) (W:World) (f:Fn) (x y:Array Value),(store a (.func f x y)).run prog W=stored prog W a (.func f x y) .plain:=fun a W f x y=>run_store _ _ _ _ _ rfl
 clear h hq hs;generalize E.A 22=TP at *;generalize E.A 3=q3 at *;generalize ((s.col x:Int)==0)=cb at *;generalize s.T x=tb at *;go_enter func169,ntmps169;go_wp2_with fail
 go_loopw [9] (fun i wr=>wr=w/\(i=U 0\/(i=U 1/\tb=true)\/(i=U 2/\tb=true/\cb=true))) (fun i _=>2-(intOf i).toNat)
 case atStart=>exact⟨rfl,.inl rfl⟩
 case round=>
  obtain⟨rfl,rfl|⟨rfl,ht⟩|⟨rfl,ht,hc⟩⟩:=hrel
  .cases tb
   .go_wp2_with (go_at_call 170;refine d1.mono ?_;rintro e w' ⟨rfl,rfl⟩)
    go_ret;exact⟨rfl,rfl⟩
   .go_wp2_with (go_at_call 170;refine d1.mono ?_;rintro e w' ⟨rfl,rfl⟩)
    refine⟨⟨trivial,by simp⟩,by decide⟩
  .subst ht
   cases cb
   .go_wp2_with (go_at_call 171;refine d2.mono ?_;rintro e w' ⟨rfl,rfl⟩)
    go_ret;exact⟨rfl,rfl⟩
   .go_wp2_with (go_at_call 171;refine d2.mono ?_;rintro e w' ⟨rfl,rfl⟩)
    refine⟨⟨trivial,by simp⟩,by decide⟩
  .subst ht;subst hc
   go_wp2_with fail;go_ret;exact⟨rfl,rfl⟩
theorem Co.QO{w w':World}{E:Env}(hE:E.Ok){ws:List Int}{s:St}{N:Int}(h:Co w E ws s N){d:Nat→Bool}(hr:ee w' (E.A 23) (E.A 24) E.n d)(hc:cu (· =E.A 24) w w'):Co w' E ws {s with cZ:=d} N:=by
 have hc:cu (Of E.A [24]) w w':=hc.up (fun k hk=>⟨24,by simp,hk⟩);exact⟨cY.sw (cY.uc hE h.mp hc (by decide)) s.T s.used d s.sa s.sact s.phase,h.ar.bY hc (hE.no (by decide)) (hE.no (by decide)) (hE.no (by decide)),h.sb.bY hc (hE.no (by decide)),hr⟩
theorem Co.next{w:World}{E:Env}(hE:E.Ok){ws:List Int}{s:St}{N:Int}(h:Co w E ws s N)(v:Nat):Co (w.setCell (aj (E.A 22) 4) (U v)) E ws {s with sa:=v} N/\cu (Om E [22,24]) w (w.setCell (aj (E.A 22) 4) (U v)):=
 ⟨h.own hE (OK 4 _) (sa:=v) (sact:=s.sact) (h.sb.set 4 _),(OK 4 _).up (Om.of (by decide))⟩
attribute [local irreducible] wpStill in
set_option maxHeartbeats 1000000 in
theorem qm{w:World}{E:Env}(hE:E.Ok){ws:List Int}{s:St}{N:Int}(h:Co w E ws s N)(ha:s.sact=true)(hs:s.sa<E.n):ak 134 #[af (aj (E.A 22))] w fun e w'=>e=ae (.bool true)/\∃cR,Co w' E cR (ji E.K s) N/\nc E.bs E.tn ws cR/\cu (Om E [22,24]) w w':=by
 have hB:=bA (bV w.heap.size w) (av _) (.cells #[af (aj (E.A 22))] 140);have h1:=h.cA hB;have dA:=gJ h1;rw[ha] at dA;have dD:=qk h1 ha;have e1:((s.sa:Int)==(E.n:Int))=false:=by rw[aA];omega
 rw[e1] at dD;have sh:=hE.n2;obtain⟨k,r,sl⟩:=gq hE.gd hs;have dH:∀m,ak 169 #[U s.sa,ai (aj (w.heap.size+1)) 2 2] (((w.alloc (.cells #[af (aj (E.A 22))] 140)).drewN m).drew.alloc (.cells #[.func (.func 170) #[af (aj (E.A 3))] #[],.func (.func 171) #[] #[af (aj w.heap.size)]] 274)) fun e w'=>e=ae (.bool (s.T s.sa&&((s.col s.sa:Int)==0)))/\(w'.cell? (aj w.heap.size)=some (af (aj (E.A 22)))/\w'.cell? (aj (E.A 22) 4)=some (U s.sa)/\w'.cell? (aj (E.A 22))=some (af (aj (E.A 3))))/\Hid (Below w.heap.size w w'/\cj w' w.heap.size #[af (aj (E.A 22))] 140):=fun m=>by
  have uJ:=bA (bd (jh hB m)) (av _) (.cells #[.func (.func 170) #[af (aj (E.A 3))] #[],.func (.func 171) #[] #[af (aj w.heap.size)]] 274);have bx:=((((cj.new w #[af (aj (E.A 22))] 140).drewN m).drew).alloc (.cells #[.func (.func 170) #[af (aj (E.A 3))] #[],.func (.func 171) #[] #[af (aj w.heap.size)]] 274));have nb:=cj.new (((w.alloc (.cells #[af (aj (E.A 22))] 140)).drewN m).drew) #[.func (.func 170) #[af (aj (E.A 3))] #[],.func (.func 171) #[] #[af (aj w.heap.size)]] 274;rw[show(((w.alloc (.cells #[af (aj (E.A 22))] 140)).drewN m).drew).heap.size=w.heap.size+1 from World.size_alloc w _] at nb;refine(J4 (h.cA uJ) hs bx nb).mono ?_;rintro e w' ⟨rfl,rfl⟩;exact⟨rfl,⟨bx.cell 0,(h.cA uJ).sb.cell 4,(h.cA uJ).sb.cell 0⟩,bU ⟨uJ,bx⟩⟩
 have c4:(w.alloc (.cells #[af (aj (E.A 22))] 140)).cell? (aj (E.A 22) 4)=some (U s.sa):=h1.sb.cell 4;have c0:(w.alloc (.cells #[af (aj (E.A 22))] 140)).cell? (aj (E.A 22))=some (af (aj (E.A 3))):=h1.sb.cell 0;have PW:(w.alloc (.cells #[af (aj (E.A 22))] 140)).cell? (aj w.heap.size)=some (af (aj (E.A 22))):=(cj.new w _ _).cell 0;have HW:Hid (∀W,Below w.heap.size w W→cj W w.heap.size #[af (aj (E.A 22))] 140→W.cell? (aj w.heap.size)=some (af (aj (E.A 22)))/\W.cell? (aj (E.A 22) 1)=some (af (aj (E.A 0)))/\W.cell? (aj (E.A 22) 4)=some (U s.sa)/\W.frozen? (aj (E.A 22) 4)=false/\Hid (Co (W.setCell (aj (E.A 22) 4) (U ((s.sa+1:Nat):Int))) E ws {s with sa:=s.sa+1} N/\cu (Om E [22,24]) w (W.setCell (aj (E.A 22) 4) (U ((s.sa+1:Nat):Int))))/\ak 172 #[af (aj (E.A 0)),U s.sa] W fun e w3=>e=ae (U 0)/\w3.cell? (aj w.heap.size)=some (af (aj (E.A 22)))/\w3.cell? (aj (E.A 22) 3)=some (af (aj (E.A 23)))/\w3.cell? (aj (E.A 22) 4)=some (U s.sa)/\ak 173 #[af (aj (E.A 23)),U s.sa,.bool true] w3.drew fun e w4=>e=ae (U 0)/\w4.cell? (aj w.heap.size)=some (af (aj (E.A 22)))/\w4.cell? (aj (E.A 22) 4)=some (U s.sa)/\w4.frozen? (aj (E.A 22) 4)=false/\Hid (∃cR,Co (w4.setCell (aj (E.A 22) 4) (U ((s.sa+1:Nat):Int))) E cR {s with M:=oa E.K s.M s.sa,cZ:=cP s.cZ s.sa true,sa:=s.sa+1} N/\nc E.bs E.tn ws cR/\cu (Om E [22,24]) w (w4.setCell (aj (E.A 22) 4) (U ((s.sa+1:Nat):Int))))):=bU (fun W hW hb=>by
  have hc:=h.cA hW;obtain⟨TQ,TR⟩:=hc.next hE (s.sa+1);refine⟨hb.cell 0,hc.sb.cell 1,hc.sb.cell 4,hc.sb.cE 4,bU ⟨TQ,(cu.cD hW).trans TR⟩,(Jy (c:=E.c) hc.mp.cx (F7 hE) sl hs).mono ?_⟩;rintro e w3 ⟨rfl,x3,k3⟩;obtain⟨c3,r3⟩:=hc.OL hE sl hs x3 k3;have hmw:w.heap.size≠E.mw:=by have:=h.mp.cx.mm.b1.lt;have:E.mw<w.heap.size:=this;omega
  have b3:=hb.bY k3 hmw;refine⟨rfl,b3.cell 0,c3.sb.cell 3,c3.sb.cell 4,(kO c3.rw.drew s.sa hs true).mono ?_⟩;rintro e w4 ⟨rfl,r4,k4⟩;have QP:cu (· =E.A 24) w3 w4:=(cu.refl _ w3).drew.trans k4;have c4:=Co.QO hE c3 r4 QP;obtain⟨n1,n2⟩:=c4.next hE (s.sa+1);have TS:w.heap.size≠E.A 24:=by have:=h.rw.lt.2;omega
  exact⟨rfl,(b3.bY QP TS).cell 0,c4.sb.cell 4,c4.sb.cE 4,bU ⟨_,n1,r3,(((cu.cD hW).trans (k3.up (fun k hk=>.inl hk))).trans (QP.up (fun k hk=>.inr ⟨24,by simp,hk⟩))).trans n2⟩⟩)
 have e2:Hid (((s.sa:Int)+1)=((s.sa+1:Nat):Int)):=bU (by omega);have hsw:Hid (ji E.K s=if s.T s.sa&&((s.col s.sa:Int)==0) then {s with M:=oa E.K s.M s.sa,cZ:=cP s.cZ s.sa true,sa:=s.sa+1} else {s with sa:=s.sa+1}):=bU (by
  unfold ji;have:(s.T s.sa=true/\s.col s.sa=0)↔((s.T s.sa&&((s.col s.sa:Int)==0))=true):=by rw[Bool.and_eq_true,beq_iff_eq];constructor <;> (rintro ⟨a,b⟩;exact⟨a,by omega⟩)
  by_cases c:s.T s.sa=true/\s.col s.sa=0
  .rw[if_pos c,if_pos (this.1 c)]
  .rw[if_neg c,if_neg (fun hc=>c (this.2 hc))])
 have hsa:(s.sa:Int)<=65536:=by omega
 have TU:(0:Int)<=(s.sa:Int):=by omega
 clear h h1 hB sl e1;generalize (s.T s.sa&&((s.col s.sa:Int)==0))=cb at *;go_enter func134,ntmps134
 go_upto_region 3 with(first|(go_at_call 168;(with_reducible refine dA.mono ?_);rintro e w2 ⟨rfl,rfl⟩)|(go_at_call 164;(with_reducible refine dD.mono ?_);rintro e w2 ⟨rfl,m,rfl⟩))
 go_cut [21] (fun p wx=>p=.bool cb/\Hid (Below w.heap.size w wx/\cj wx w.heap.size #[af (aj (E.A 22))] 140))
 case first=>
  go_wp2_with fail;go_region_held3 (fun W=>W.cell? (aj w.heap.size)=some (af (aj (E.A 22)))/\W.cell? (aj (E.A 22) 4)=some (U s.sa)/\W.cell? (aj (E.A 22))=some (af (aj (E.A 3)))) (first|exact hS|go_keep) ((go_at_call 169;refine(dH m).mono ?_;rintro e w3 ⟨rfl,hS,hZ⟩))
  all_goals (go_wp2_with fail;go_meet;exact⟨rfl,hZ⟩)
 case rest=>
 obtain⟨rfl,hZ⟩:=hcut;clear dH dA dD c4 c0 PW;obtain⟨W,hW⟩:=al (wc);rw[hW] at hZ ⊢;clear hW;have kM:=bU hZ.out.1;have HBX:=bU hZ.out.2
 cases cb
 .obtain⟨y0,-,y4,f4,hN,-⟩:=HW.out W kM.out HBX.out
  clear HW;go_wp2_with fail;go_ret;rw[hsw.out];exact⟨rfl,ws,by rw[e2.out];exact hN.out.1,nc.refl _ _ _,by rw[e2.out];exact hN.out.2⟩
 .obtain⟨y0,y1,y4,-,-,dW⟩:=HW.out W.drew (bd kM.out) HBX.out.drew
  have y0:W.cell? (aj w.heap.size)=some (af (aj (E.A 22))):=y0;have y1:W.cell? (aj (E.A 22) 1)=some (af (aj (E.A 0))):=y1;have y4:W.cell? (aj (E.A 22) 4)=some (U s.sa):=y4;clear HW;go_wp2_with fail
  go_still_tail 8,(by kernel_rfl)
  change wpList _ _ _ _ _ W.drew
  clear y0 y1 y4;go_wp2_with (go_at_call 172;(with_reducible refine dW.mono ?_);rintro e w3 ⟨rfl,z0,z3,z4,dS⟩)
  go_still_tail 8,(by kernel_rfl)
  change wpList _ _ _ _ _ w3.drew
  clear z0 z3 z4 dW;go_wp2_with (go_at_call 173;(with_reducible refine dS.mono ?_);rintro e w4 ⟨rfl,x0,x4,xf,hN⟩)
  go_ret;rw[hsw.out];obtain⟨cR,n1,n2,n3⟩:=hN.out;exact⟨rfl,cR,by rw[e2.out];exact n1,n2,by rw[e2.out];exact n3⟩
attribute [local irreducible] wpStill in
set_option maxHeartbeats 1000000 in
theorem ue{w:World}{E:Env}(hE:E.Ok){ws:List Int}{s:St}{N:Int}(h:Co w E ws s N)(ha:s.sact=true)(hs:s.sa=E.n)(hsub:∀x,s.cZ x=true→s.T x=true)(hz:∀x,x<E.n→cJ E.rs x<=64)(hu:s.used=(fE (cJ E.rs) s.T E.n:Nat)):
  ak 292 #[af (aj (E.A 22))] w fun e w'=>∃f:Int,e=ae (.tuple #[U f,U 0])/\Co w' E ws {s with T:=fun x=>s.T x&& !s.cZ x,used:=(fE (cJ E.rs) (fun x=>s.T x&& !s.cZ x) E.n:Nat),cZ:=fun _=>false,sa:=0,sact:=false} N/\cu (Of E.A [3,5,22,24]) w w':=by
 have d0:=cC h;have dD:=qk h ha;have e1:((s.sa:Int)==(E.n:Int))=true:=by rw[beq_iff_eq,hs]
 rw[e1] at dD;have n2:=hE.n2;have DC:Hid (∀m,∃f:Nat,ak 288 #[af (aj (E.A 23))] (w.drewN m) fun e w'=>e=ae (U f)/\(w.drewN m)=w'):=bU (fun m=>by
  obtain⟨wsr,hrow,hbit⟩:=(h.cA (jh (bV _ _) m)).rw;exact⟨_,AP hrow⟩)
 have ne:∀i j,i<64→j<64→i≠j→E.A i≠E.A j:=fun i j h1 h2 h3 e=>h3 (hE.inj i j h1 h2 e)
 have HGa:Hid (∀m,ak 310 #[af (aj (E.A 3)),af (aj (E.A 23))] (w.drewN m).drew fun e w'=>e=ae (U 0)/\lE w' (E.A 3) (E.A 4) (E.A 5) (E.A 1) E.n (fun x=>s.T x&& !s.cZ x) (fE (cJ E.rs) (fun x=>s.T x&& !s.cZ x) E.n:Nat)/\cu (fun k=>k=E.A 3\/k=E.A 5) (w.drewN m).drew w'):=bU (fun m=>by
  have hD:=h.cA (bd (jh (bV _ _) m));exact xS hD.ar hD.rw hE.n1 hsub hD.mp.cx.pl hE.gd hz hu (ne 3 23 (by omega) (by omega) (by omega)) (ne 3 24 (by omega) (by omega) (by omega)) (ne 5 23 (by omega) (by omega) (by omega)) (ne 5 24 (by omega) (by omega) (by omega)) (hE.o2 3 (by omega)) (hE.o2 5 (by omega)) (ne 3 1 (by omega) (by omega) (by omega)) (ne 3 2 (by omega) (by omega) (by omega)) (ne 5 1 (by omega) (by omega) (by omega)) (ne 5 2 (by omega) (by omega) (by omega)) hD.mp.de hD.mp.d2)
 have HG:Hid (∀W,lE W (E.A 3) (E.A 4) (E.A 5) (E.A 1) E.n (fun x=>s.T x&& !s.cZ x) (fE (cJ E.rs) (fun x=>s.T x&& !s.cZ x) E.n:Nat)→(∃m,cu (fun k=>k=E.A 3\/k=E.A 5) (w.drewN m).drew W)→W.cell? (aj (E.A 22) 3)=some (af (aj (E.A 23)))/\ak 311 #[af (aj (E.A 23))] W fun e w3=>e=ae (.tuple #[])/\w3.cell? (aj (E.A 22) 5)=some (.bool s.sact)/\w3.frozen? (aj (E.A 22) 5)=false/\w3.cell? (aj (E.A 22) 4)=some (U s.sa)/\w3.frozen? (aj (E.A 22) 4)=false/\Hid (Co ((w3.setCell (aj (E.A 22) 5) (.bool false)).setCell (aj (E.A 22) 4) (U 0)) E ws {s with T:=fun x=>s.T x&& !s.cZ x,used:=(fE (cJ E.rs) (fun x=>s.T x&& !s.cZ x) E.n:Nat),cZ:=fun _=>false,sa:=0,sact:=false} N/\cu (Of E.A [3,5,22,24]) w ((w3.setCell (aj (E.A 22) 5) (.bool false)).setCell (aj (E.A 22) 4) (U 0)))):=bU (fun W hA ⟨m,hc⟩=>by
  have hc:cu (Of E.A [3,5]) w W:=((cu.refl _ w).drewN m).drew.trans (hc.up (fun k hk=>hk.elim (fun e=>⟨3,by simp,e⟩) (fun e=>⟨5,by simp,e⟩)));have TW:=h.rw.bY hc (hE.no (by decide)) (hE.no (by decide));have R9:=h.sb.bY hc (hE.no (by decide));refine⟨R9.cell 3,(Bt.oL TW hE.n1).mono ?_⟩;rintro e w3 ⟨rfl,r3,k3⟩;have k3:cu (Of E.A [24]) W w3:=k3.up (fun k hk=>⟨24,by simp,hk⟩);have OM:=R9.bY k3 (hE.no (by decide));have c1:=hc.up (Of.up (l':=[3,5,22,24]) (by decide));have c2:=c1.trans (k3.up (Of.up (by decide)));have c4:cu (Of E.A [22]) w3 ((w3.setCell (aj (E.A 22) 5) (.bool false)).setCell (aj (E.A 22) 4) (U 0)):=cu.stored (S:=Of E.A [22]) (OK 5 _) (.inl ⟨22,by simp,rfl⟩) _ _;have c3:=c2.trans (c4.up (Of.up (by decide)));refine⟨rfl,OM.cell 5,OM.cE 5,OM.cell 4,OM.cE 4,bU ⟨⟨cY.sw (cY.uc hE h.mp c3 (by decide)) _ _ _ _ _ s.phase,?_,(OM.set 5 (.bool false)).set 4 (U 0),r3.bY c4 (hE.no (by decide)) (hE.no (by decide))⟩,c3⟩⟩;exact(hA.bY k3 (hE.no (by decide)) (hE.no (by decide)) (hE.no (by decide))).bY c4 (hE.no (by decide)) (hE.no (by decide)) (hE.no (by decide)))
 have c3:w.cell? (aj (E.A 22) 3)=some (af (aj (E.A 23))):=h.sb.cell 3;have c0:w.cell? (aj (E.A 22))=some (af (aj (E.A 3))):=h.sb.cell 0;clear h hu e1;go_enter func292,ntmps292;go_wp2_with (first|(go_at_call 211;(with_reducible refine d0.mono ?_);rintro e w2 ⟨rfl,rfl⟩)|(go_at_call 164;(with_reducible refine dD.mono ?_);rintro e w2 ⟨rfl,m,rfl⟩;obtain⟨fc,dC⟩:=DC.out m)|(go_at_call 288;(with_reducible refine dC.mono ?_);rintro e w2 ⟨rfl,rfl⟩))
 obtain⟨W,hW⟩:=al (w.drewN m);have HGm:=bU (HGa.out m);have k3:W.cell? (aj (E.A 22) 3)=some (af (aj (E.A 23))):=by rw[←hW];exact c3
 have k0:W.cell? (aj (E.A 22))=some (af (aj (E.A 3))):=by rw[←hW];exact c0
 have HGw:Hid (∀W2,cu (fun k=>k=E.A 3\/k=E.A 5) W.drew W2→∃m,cu (fun k=>k=E.A 3\/k=E.A 5) (w.drewN m).drew W2):=bU (fun W2 h=>⟨m,by rw[hW];exact h⟩);rw[hW] at HGm ⊢;clear hW c3 c0 dC
 go_still_tail 8,(by kernel_rfl)
 change wpList _ _ _ _ _ W.drew
 clear k3 k0;go_wp2_with (first
  | (go_at_call 310;(with_reducible refine HGm.out.mono ?_);rintro e w3 ⟨rfl,hA,hc⟩;obtain⟨y3,dR⟩:=HG.out w3 hA (HGw.out _ hc);clear hA hc)
  | (go_at_call 311;(with_reducible refine dR.mono ?_);rintro e w4 ⟨rfl,x5,f5,x4,f4,hN⟩))
 go_ret2
 exact⟨_,rfl,hN.out.1,hN.out.2⟩
end Sw
namespace Mk
open Go.RowKit Go.bZ Go.Gc Go.Shelf Bt Ar
attribute [local go_sem] Oper.semAt_some
def pQ(hs:List Hand)(i:Nat):Bool:=match hs[i]? with|some h=>h.is|none=>false
theorem uh{hs:List Hand}{i:Nat}(hi:i<hs.length):pQ hs i=hs[i].is:=by unfold pQ;rw[aq hi]
theorem ML{w:World}{g:Nat}{hs:List Hand}(h:cj w g (dQ hs).toArray 264)(i:Nat)(hi:i<hs.length):w.cell? (aj g (i*3))=some (U hs[i].slot)/\w.cell? (aj g (i*3+1))=some (U hs[i].field)/\w.cell? (aj g (i*3+2))=some (.bool hs[i].is):=by
 obtain⟨a1,a2,a3⟩:=qj hs i hs[i] (aq hi);refine⟨(h.cell _).trans ?_,(h.cell _).trans ?_,(h.cell _).trans ?_⟩
 .rw[aO];exact a1
 .rw[aO];exact a2
 .rw[aO];exact a3
set_option maxHeartbeats 4000000 in
theorem Ga(m:Nat)(_hm:1<=m)(l q p g:Nat)(hs:List Hand)(hh:hs.length<=9)(K:Nat→Prop)(kg:K g)(J Jx:List {x:Nat//x<hs.length/\pQ hs x=true}→World→Prop)
 (hY:∀pre x W,J pre W→pre.length<hs.length→YieldAt Fence.wide (m-1) prog l #[U x.val] W fun e W'=>
   (e=ae (.bool true)/\J (pre++[x]) W'/\Same K W W')\/(e=ae (.bool false)/\Jx (pre++[x]) W'))
 (hAb:∀s W W',J s W→Below W.heap.size W W'→J s W')(W:World)(c1:cj W q #[af (aj p)] 139){C:Array Value}(c2:cj W p C 207)(hC:C[6]?=some (ai (aj g) hs.length hs.length))(hr:cj W g (dQ hs).toArray 264)(h0:J [] W):
  CallsIn Fence.wide m prog 220 #[.func (.yield l) #[] #[],af (aj q)] W fun e W'=>(∃v,e=ae v)/\
   ((∃xs,xs=iP (pQ hs) hs.length hs.length/\J xs W')\/(∃pre,(∃k,k<=hs.length/\pre=iP (pQ hs) hs.length k)/\Jx pre W')):=by
 refine callsIn_of_wp func220 rfl trivial ?_ rfl;simp only[ntmps220,aP,aC,aV,Nat.reduceAdd,Nat.reduceSub,aL,aK,aT,aM,aU,aX];have d1:W.cell? (aj q)=some (af (aj p)):=c1.cell 0;have d2:W.cell? (aj p 6)=some (ai (aj g) hs.length hs.length):=(c2.cell 6).trans hC;have HQ:Hid (∀W':World,Same K W W'→∀i,(hi:i<hs.length)→W'.cell? (aj g (i*3))=some (U hs[i].slot)/\W'.cell? (aj g (i*3+1))=some (U hs[i].field)/\W'.cell? (aj g (i*3+2))=some (.bool hs[i].is)):=bU (fun W' hw i hi=>ML (cj.pE hr hw kg) i hi);have HY:=bU hY;have HA:=bU hAb;have H0:=bU h0;clear hY hAb h0 hr c1 c2 hC
 gi_wp2
 clear d1 d2
 gi_loopw [10] (fun i wr=>∃a:Nat,a<=hs.length/\i=U a/\Hid (J (iP (pQ hs) hs.length a) wr)/\Hid (Same K W wr)) (fun i _=>hs.length-(intOf i).toNat)
 case atStart=>exact⟨0,by omega,rfl,H0,bU (Same.refl _ _)⟩
 case round=>
  obtain⟨a,ha,rfl,hJ,hS⟩:=hrel;by_cases hlt:a<hs.length
  .obtain⟨y0,y1,y2⟩:=HQ.out wr hS.out a hlt
   have hsf:=uh hlt;have hls:iP (pQ hs) hs.length (a+1)=iP (pQ hs) hs.length a++(if h:a<hs.length/\pQ hs a=true then[⟨a,h⟩] else[]):=rfl;generalize hs[a].slot=s0 at *;generalize hs[a].field=s1 at *;generalize hs[a].is=s2 at *;have HB:Hid (Below wr.heap.size wr (wr.alloc (.cells #[U s0,U s1,.bool s2] 264))):=bU (bA (bV _ _) (av _) _)
   cases s2 with
   | true=>
    have hst:pQ hs a=true:=hsf;rw[dif_pos ⟨hlt,hst⟩] at hls;obtain⟨fn,tmps,assign,body,hy,hR⟩:=HY.out _ ⟨a,⟨hlt,hst⟩⟩ (wr.alloc (.cells #[U s0,U s1,.bool true] 264)) (HA.out _ _ _ hJ.out HB.out) (by have:=mK (pQ hs) hs.length a;omega)
    dsimp only at hy
    rw[←hls] at hR;have I6:=hR.mono (R':=fun e W'=>∃b:Bool,e=ae (.bool b)/\Hid ((b=true/\J (iP (pQ hs) hs.length (a+1)) W'/\Same K (wr.alloc (.cells #[U s0,U s1,.bool true] 264)) W')\/(b=false/\Jx (iP (pQ hs) hs.length (a+1)) W'))) (by
     rintro e W' (⟨h1,h2,h3⟩|⟨h1,h2⟩)
     .exact⟨true,h1,bU (.inl ⟨rfl,h2,h3⟩)⟩
     .exact⟨false,h1,bU (.inr ⟨rfl,h2⟩)⟩)
    clear hR hls hsf hst
    gi_wp2_with (with_reducible refine I6.mono ?_;rintro e W3 ⟨b,rfl,h3⟩;cases b)
    .have h4:Jx (iP (pQ hs) hs.length (a+1)) W3:=by rcases h3.out with⟨h,_⟩|⟨_,h⟩;cases h;exact h
     refine bodyPost_ret (results_none rfl _ _ _) rfl ?_;exact⟨⟨_,rfl⟩,.inr ⟨_,⟨a+1,by omega,rfl⟩,h4⟩⟩
    .have h4:J (iP (pQ hs) hs.length (a+1)) W3/\Same K (wr.alloc (.cells #[U s0,U s1,.bool true] 264)) W3:=by rcases h3.out with⟨_,h⟩|⟨h,_⟩;exact h;cases h
     refine⟨⟨a+1,by omega,by go_num,bU h4.1,bU ((hS.out.trans (Same.below HB.out)).trans h4.2)⟩,by simp[intOf];omega⟩
   | false=>
    have hst:¬(a<hs.length/\pQ hs a=true):=by rw[hsf];simp
    rw[dif_neg hst,List.append_nil] at hls;have HLS:=bU hls;clear hls hsf hst;refine wpIn_wide.2 ?_;go_wp2_with fail;refine⟨⟨a+1,by omega,by go_num,bU (by rw[HLS.out];exact HA.out _ _ _ hJ.out HB.out),bU (hS.out.trans (Same.below HB.out))⟩,by simp[intOf];omega⟩
  .obtain rfl:a=hs.length:=by omega
   gi_wp2
   go_end0
   exact⟨⟨_,rfl⟩,.inl ⟨_,rfl,hJ.out⟩⟩
end Mk
namespace Mk
open Go.RowKit Go.bZ Go.Gc Go.Shelf Bt Ar
attribute [local go_sem] Oper.semAt_some
theorem qn(m p:Nat)(w:World):CallsIn Fence.wide m prog 167 #[af (aj p)] w fun e w'=>
  e=ae (.func (.func 220) #[] #[af (aj w.heap.size)])/\w'=w.alloc (.cells #[af (aj p)] 139):=by
 refine callsIn_of_wp func167 rfl trivial ?_ rfl;simp only[ntmps167,aP,aC,aV,Nat.reduceAdd,Nat.reduceSub,aL,aK,aT,aM,aU,aX]
 gi_wp2
 go_ret;exact⟨rfl,rfl⟩
theorem kW(m:Nat)(hm:1<=m)(q p g:Nat)(hs:List Hand)(hh:hs.length<=9)(K:Nat→Prop)(kg:K g)(w:World)(c1:cj w q #[af (aj p)] 139){C:Array Value}(c2:cj w p C 207)(hC:C[6]?=some (ai (aj g) hs.length hs.length))(hr:cj w g (dQ hs).toArray 264):
  SeqStopsK Fence.wide m prog 220 #[af (aj q)] (fun x:{x:Nat//x<hs.length/\pQ hs x=true}=>#[Value.int .i64 x.val]) (Same K) (fun xs=>xs=iP (pQ hs) hs.length hs.length) (fun pre=>∃k,k<=hs.length/\pre=iP (pQ hs) hs.length k) hs.length w:=fun l J Jx W hW hJ _ hY h0=>
 Ga m hm l q p g hs hh K kg J Jx hY (AbidesFrom.later hJ) W (c1.cA hW) (c2.cA hW) hC (hr.cA hW) h0
set_option maxHeartbeats 2000000 in
theorem Cz{w:World}{E:Env}(hE:E.Ok){ws:List Int}{s:St}{N:Int}(h:cY w E ws s N)(ha:s.act=true){i:Nat}{k:Hand}(he:s.hs[i]?=some k)(hk:k.is=true):ak 162 #[af (aj (E.A 20))] w fun e w'=>e=ae (.bool false)/\Below w.heap.size w w':=by
 have dj:Below w.heap.size w (w.alloc (.cells #[.bool false] 4)):=bA (bV _ _) (av _) _;have dA:=gJ (h.cA dj);rw[ha] at dA;have din:=callsIn_wide.1 (qn 0 (E.A 20) (w.alloc (.cells #[.bool false] 4)));refine(callsIn_wide (n:=3)).1 ?_;refine callsIn_of_wp_marks func162 rfl trivial ?_ rfl;simp only[ntmps162,aP,aC,aV,Nat.reduceAdd,Nat.reduceSub,aL,aK,aT,aM,aU,aX];refine wpIn_wide.2 ?_;go_wp2_with (first|(go_at_call 165;refine dA.mono ?_;rintro e w' ⟨rfl,rfl⟩)|(go_at_call 167;refine din.mono ?_;rintro e w' ⟨rfl,rfl⟩))
 refine(wpIn_wide (n:=3)).1 ?_;have q1:=cj.jf w #[.bool false] #[af (aj (E.A 20))] 4 139;have q0:=cj.gR w #[.bool false] #[af (aj (E.A 20))] 4 139;obtain⟨W,hW⟩:=al ((w.alloc (.cells #[.bool false] 4)).alloc (.cells #[af (aj (E.A 20))] 139));have hB:Below w.heap.size w W:=by rw[←hW];exact bA (bA (bV _ _) (av _) _) (av _) _
 have sW:W.heap.size=w.heap.size+1+1:=by rw[←hW];simp
 rw[hW] at q1 q0 ⊢;clear hW dA din;have h2:=h.cA hB;obtain⟨z,b0⟩:=h2.b0;have b1:=h2.b1;have hl:=h2.hl;have QQ:=hE.h2;have hgl:E.A 21<W.heap.size:=b1.lt;have hhs:#[Value.pointer (some ⟨E.A 0,0,none⟩),af (aj (E.A 1)),af (aj (E.A 6)),af (aj (E.A 8)),af (aj (E.A 12)),af (aj (E.A 14)),ai (aj (E.A 21)) E.hn E.hn,U s.root,.bool s.act,U z][6]?=some (ai (aj (E.A 21)) s.hs.length s.hs.length):=by rw[hl];rfl
 refine wpIn_rangeFunc_ownG rfl (by omega) (gf:=220) (lb:=#[af (aj (w.heap.size+1))]) rfl trivial (enters_of func220 (by kernel_rfl) rfl)
  (kW 2 (by omega) (w.heap.size+1) (E.A 20) (E.A 21) s.hs (by omega) (fun k=>k<W.heap.size) hgl W q1 b0 hhs b1) Same.trans (fun W l _ o' qd _ _ _=>Same.put (by intro k hk;exact hk) W l o' qd) (bV _ _) (fun _=>rfl)
  (fun pre V=>pre=[]/\Below W.heap.size W V)
  (fun c pre V=>c=.ret/\cj V w.heap.size #[.bool false] 4/\Below w.heap.size w V/\W.heap.size<=V.heap.size) ?hI ?hIx ?h0
  (fun x=>{tmps:=#[af (aj (E.A 20)),undef,af (aj w.heap.size),af (aj (E.A 20)),.bool true,.bool false,af (aj (E.A 20)),.func (.func 220) #[] #[af (aj (w.heap.size+1))],U x.val,undef,undef,undef,undef,undef,undef,undef,undef,undef,undef,undef,undef,undef,undef],defers:=[]}) ?assign ?body ?done ?stop
 case hI=>exact fJ (fun _ V hV=>hV.2.size) (fun _ V V' hV hb=>⟨hV.1,hV.2.trans hb⟩)
 case hIx=>
  intro c;refine fJ (fun _ V hV=>hV.2.2.2) (fun _ V V' hV hb=>?_);exact⟨hV.1,hV.2.1.bY (S:=fun k=>W.heap.size<=k) ⟨hb.os,hb.tape,hb.output,hb.size,fun k _ hk=>hb.block k (by have:¬W.heap.size<=k:=hk;omega)⟩ (by omega),hV.2.2.1.trans (hb.mono (by omega)),aE hV.2.2.2 hb.size⟩
 case h0=>exact⟨rfl,bV _ _⟩
 case assign=>
  intro l x V K hK
  gi_wp2
  have e8:(#[8].zip #[Value.int .i64 x.val]:Array (Nat×Value))=#[(8,U x.val)]:=by simp
  simpa[e8] using hK
 case body=>
  rintro l pre x V ⟨rfl,hV⟩ _;have B0:=q0.cA hV;have c0:=B0.cell 0;have f0:=B0.cE 0;have TX:=bU B0;have HV:=bU hV;clear hV B0
  gi_wp2
  have k:cu (fun k=>k=w.heap.size) V (V.setCell (aj w.heap.size) (.bool false)):=cu.stored (S:=fun k=>k=w.heap.size) (cu.refl _ V) (p:=w.heap.size) (.inl rfl) _ _;refine⟨gP k (by intro k hk;omega),rfl,TX.out.set 0 (.bool false),((hB.trans (HV.out.mono (by omega))).setCell (by exact av _) _),?_⟩;have:=HV.out.size;have:=k.size;omega
 case done=>
  rintro D ys V hD rfl ⟨hy,_⟩ _
  exfalso
  have hi:=(au.1 he).1;have:i∈gO (iP (pQ s.hs) s.hs.length s.hs.length):=(jz _ _).2 ⟨hi,hi,by unfold pQ;rw[he];exact hk⟩;rw[hy] at this;simp[gO] at this
 case stop=>
  rintro D c pre V hD ⟨j,hj,hpre⟩ ⟨rfl,MM,hbl,hsz⟩ hK
  gi_wp2
  have kD:cu (fun k=>k=D) V (V.putObj D (.deferred none)):=(cu.refl (fun k=>k=D) V).put (.inl rfl) _;have c4:=(MM.bY kD (by omega)).cell 0;refine⟨by simp,.inl ⟨_,_,rfl,run_takeDeferred hK,?_⟩⟩;refine⟨.bool false,?_,rfl,?_⟩
  .simp[results,Tryz.f162,go_sem,c4]
  .exact hbl.trans (kD.below (by have:=hbl.size;omega) (fun k hk=>by have hk:k=D:=hk;omega))
end Mk
namespace Mk
open Go.RowKit Go.bZ Go.Gc Go.Shelf Bt Ar
attribute [local go_sem] Oper.semAt_some
structure BX(w W:World)(D:Nat)(b:Bool):Prop where
 b0:cj (W.setCell (aj w.heap.size) (.bool b)) w.heap.size #[.bool b] 4
 de:(W.setCell (aj w.heap.size) (.bool b)).heap[D]?=some (.deferred (some []))
 bl:Below w.heap.size w (W.setCell (aj w.heap.size) (.bool b))
set_option maxHeartbeats 2000000 in
theorem CD{w:World}{E:Env}(hE:E.Ok){ws:List Int}{s:St}{N:Int}(h:cY w E ws s N)(ha:s.act=true)(he:∀k∈s.hs,k.is=false){em:Bool}(hem:s.root=E.L+E.n→∀W,Below w.heap.size w W→ak 210 #[af (aj (E.A 14))] W fun e w'=>e=ae (.bool em)/\Below W.heap.size W w'):ak 162 #[af (aj (E.A 20))] w fun e w'=>e=ae (.bool (decide (s.root=E.L+E.n)&&em))/\Below w.heap.size w w':=by
 have hf:∀x,x<s.hs.length→pQ s.hs x=false:=fun x hx=>by rw[uh hx];exact he _ (aF hx)
 have dj:Below w.heap.size w (w.alloc (.cells #[.bool false] 4)):=bA (bV _ _) (av _) _;have dA:=gJ (h.cA dj);rw[ha] at dA;have din:=callsIn_wide.1 (qn 0 (E.A 20) (w.alloc (.cells #[.bool false] 4)));refine(callsIn_wide (n:=3)).1 ?_;refine callsIn_of_wp_marks func162 rfl trivial ?_ rfl;simp only[ntmps162,aP,aC,aV,Nat.reduceAdd,Nat.reduceSub,aL,aK,aT,aM,aU,aX];refine wpIn_wide.2 ?_;go_wp2_with (first|(go_at_call 165;refine dA.mono ?_;rintro e w' ⟨rfl,rfl⟩)|(go_at_call 167;refine din.mono ?_;rintro e w' ⟨rfl,rfl⟩))
 refine(wpIn_wide (n:=3)).1 ?_;have q1:=cj.jf w #[.bool false] #[af (aj (E.A 20))] 4 139;have q0:=cj.gR w #[.bool false] #[af (aj (E.A 20))] 4 139;obtain⟨W,hW⟩:=al ((w.alloc (.cells #[.bool false] 4)).alloc (.cells #[af (aj (E.A 20))] 139));have hB:Below w.heap.size w W:=by rw[←hW];exact bA (bA (bV _ _) (av _) _) (av _) _
 have sW:W.heap.size=w.heap.size+1+1:=by rw[←hW];simp
 rw[hW] at q1 q0 ⊢;clear hW dA din;have h2:=h.cA hB;obtain⟨z,b0⟩:=h2.b0;have b1:=h2.b1;have hl:=h2.hl;have QQ:=hE.h2;have hgl:E.A 21<W.heap.size:=b1.lt;have hhs:#[Value.pointer (some ⟨E.A 0,0,none⟩),af (aj (E.A 1)),af (aj (E.A 6)),af (aj (E.A 8)),af (aj (E.A 12)),af (aj (E.A 14)),ai (aj (E.A 21)) E.hn E.hn,U s.root,.bool s.act,U z][6]?=some (ai (aj (E.A 21)) s.hs.length s.hs.length):=by rw[hl];rfl
 refine wpIn_rangeFunc_ownG rfl (by omega) (gf:=220) (lb:=#[af (aj (w.heap.size+1))]) rfl trivial (enters_of func220 (by kernel_rfl) rfl)
  (kW 2 (by omega) (w.heap.size+1) (E.A 20) (E.A 21) s.hs (by omega) (fun k=>k<W.heap.size) hgl W q1 b0 hhs b1) Same.trans (fun W l _ o' qd _ _ _=>Same.put (by intro k hk;exact hk) W l o' qd) (bV _ _) (fun _=>rfl)
  (fun _ V=>Below W.heap.size W V)
  (fun _ _ _=>False) ?hI ?hIx ?h0
  (fun x=>{tmps:=#[af (aj (E.A 20)),undef,af (aj w.heap.size),af (aj (E.A 20)),.bool true,.bool false,af (aj (E.A 20)),.func (.func 220) #[] #[af (aj (w.heap.size+1))],U x.val,undef,undef,undef,undef,undef,undef,undef,undef,undef,undef,undef,undef,undef,undef],defers:=[]}) ?assign ?body ?done ?stop
 case hI=>exact fJ (fun _ V hV=>hV.size) (fun _ V V' hV hb=>hV.trans hb)
 case hIx=>exact fun c=>fJ (fun _ V hV=>hV.elim) (fun _ V V' hV _=>hV.elim)
 case h0=>exact bV _ _
 case assign=>exact fun l x=>absurd x.property.2 (by rw[hf x.val x.property.1];simp)
 case body=>exact fun l pre x=>absurd x.property.2 (by rw[hf x.val x.property.1];simp)
 case done=>
  rintro D ys V hD rfl hV hK;have hBV:Below w.heap.size w V:=hB.trans (hV.mono (by omega));have hDw:w.heap.size+1+1<=D:=by have:=sW;omega
  have B0:=q0.cA hV;have HE:Hid (∀W2,Below V.heap.size V W2→cj W2 w.heap.size #[.bool false] 4/\W2.heap[D]?=some (.deferred (some []))/\W2.heap.size>=V.heap.size/\Below w.heap.size w W2):=bU (fun W2 h2=>⟨B0.cA h2,(h2.block D (aD.1 hK).1).trans hK,h2.size,hBV.trans (h2.mono (by have:=hBV.size;omega))⟩);have HR:Hid (∀W2,Below V.heap.size V W2→ak 209 #[af (aj (E.A 20))] W2 fun e w'=>e=ae (U ((E.L+E.n:Nat):Int))/\w'.cell? (aj (E.A 20) 5)=some (af (aj (E.A 14)))/\w'.cell? (aj (E.A 20) 7)=some (U s.root)/\w'.cell? (aj w.heap.size)=some (.bool false)/\w'.frozen? (aj w.heap.size)=false/\Hid (Below V.heap.size V w')):=bU (fun W2 h2=>by
   have h3:=h.cA (hBV.trans (h2.mono (by have:=hBV.size;omega)));refine(mN hE h3).mono ?_;rintro e w' ⟨rfl,m,rfl⟩;obtain⟨z,b⟩:=(h3.drewN m).b0;exact⟨rfl,b.cell 5,b.cell 7,(B0.cA (jh h2 m)).cell 0,(B0.cA (jh h2 m)).cE 0,bU (jh h2 m)⟩)
  obtain⟨z2,b2⟩:=(h.cA hBV).b0;have c7:V.cell? (aj (E.A 20) 7)=some (U s.root):=b2.cell 7;have c5:V.cell? (aj (E.A 20) 5)=some (af (aj (E.A 14))):=b2.cell 5;have HM:Hid (∀W2,Below V.heap.size V W2→s.root=E.L+E.n→ak 210 #[af (aj (E.A 14))] W2 fun e w'=>e=ae (.bool em)/\((w'.cell? (aj w.heap.size)=some (.bool false)/\w'.frozen? (aj w.heap.size)=false)/\(w'.cell? (aj (E.A 20) 7)=some (U s.root)/\w'.cell? (aj (E.A 20) 5)=some (af (aj (E.A 14))))/\(w'.setCell (aj w.heap.size) (.bool em)).cell? (aj (E.A 20) 7)=some (U s.root)/\(w'.setCell (aj w.heap.size) (.bool em)).cell? (aj (E.A 20) 5)=some (af (aj (E.A 14))))/\Hid (Below V.heap.size V w')):=bU (fun W2 h2 hr=>by
   refine(hem hr W2 (hBV.trans (h2.mono (by have:=hBV.size;omega)))).mono ?_;rintro e w' ⟨rfl,h3⟩;have h4:=fj h2 h3;obtain⟨z5,b5⟩:=(h.cA (hBV.trans (h4.mono (by have:=hBV.size;omega)))).b0;have hne:E.A 20≠w.heap.size:=by have:=h.lt (av w.heap.size);intro e;exact this ⟨20,by simp,e.symm⟩
   exact⟨rfl,⟨⟨(B0.cA h4).cell 0,(B0.cA h4).cE 0⟩,⟨b5.cell 7,b5.cell 5⟩,(b5.other hne 0 _).cell 7,(b5.other hne 0 _).cell 5⟩,bU h4⟩)
  have HF:Hid (∀(W2:World) (b:Bool),Below V.heap.size V W2→BX w W2 D b):=bU (fun W2 b h2=>by
   obtain⟨g1,g2,g3,g4⟩:=HE.out W2 h2;exact⟨g1.set 0 _,by rw[Below.heap_setCell W2 ⟨w.heap.size,0,none⟩ _ D (by show D≠w.heap.size;omega)];exact g2,g4.setCell (by exact av _) _⟩)
  have J5:=bU hDw;clear hBV hDw hK hV b2 h hem q1 hhs hl hB b0 b1 hgl he hD
  dsimp only
  by_cases hr:s.root=E.L+E.n
  .rw[hr] at c7
   have TY:=bU (fun W2 h2=>HM.out W2 h2 hr);clear HM;go_wp2_with fail;go_region_held3 (fun W2=>W2.cell? (aj (E.A 20) 7)=some (U ((E.L+E.n:Nat):Int))/\W2.cell? (aj (E.A 20) 5)=some (af (aj (E.A 14)))) (first|exact⟨x7,x5⟩|exact⟨z7,z5⟩|exact⟨y7,y5⟩|go_keep)
    (first|(go_at_call 209;(with_reducible refine(HR.out _ (bd (bV _ _))).mono ?_);rintro e w2 ⟨rfl,y5,y7,-,-,hY⟩;rw[hr] at y7)|(go_at_call 210;(with_reducible refine(TY.out _ hY.out).mono ?_);rintro e w3 ⟨rfl,⟨⟨z0,z1⟩,⟨z7,z5⟩,x7,x5⟩,hZ⟩;rw[hr] at z7 x7))
   all_goals
    have hX:=HF.out _ em hZ.out;go_wp2_with fail;have c4:=(hX.b0.bY ((cu.refl (fun k=>k=D) _).put (p:=D) (.inl rfl) (.deferred none)) (by have:=J5.out;omega)).cell 0;refine⟨by simp,.inl ⟨_,_,rfl,run_takeDeferred hX.de,?_⟩⟩;refine⟨.bool em,by simp[results,Tryz.f162,go_sem,c4],by rw[aw hr,Bool.true_and],?_⟩;exact hX.bl.trans (((cu.refl (fun k=>k=D) _).put (p:=D) (.inl rfl) (.deferred none)).below (by have:=hX.bl.size;omega) (fun k hk=>by have hk:k=D:=hk;have:=J5.out;omega))
  .have e1:(((s.root:Nat):Int)==((E.L+E.n:Nat):Int))=false:=by rw[aA];omega
   have e2:(decide (s.root=E.L+E.n)&&em)=false:=by rw[az hr,Bool.false_and]
   clear HM;obtain⟨LN,hLN⟩:=al (E.L+E.n);rw[hLN] at HR e1;go_wp2_with fail;first
    | go_region_with (go_at_call 209;(with_reducible refine(HR.out _ (bd (bV _ _))).mono ?_);rintro e w2 ⟨rfl,y5,y7,z0,z1,hY⟩)
    | fail
   all_goals
    have hX:=HF.out _ false hY.out;go_wp2_with fail;have c4:=(hX.b0.bY ((cu.refl (fun k=>k=D) _).put (p:=D) (.inl rfl) (.deferred none)) (by have:=J5.out;omega)).cell 0;refine⟨by simp,.inl ⟨_,_,rfl,run_takeDeferred hX.de,?_⟩⟩;refine⟨.bool false,by simp[results,Tryz.f162,go_sem,c4],by rw[e2],?_⟩;exact hX.bl.trans (((cu.refl (fun k=>k=D) _).put (p:=D) (.inl rfl) (.deferred none)).below (by have:=hX.bl.size;omega) (fun k hk=>by have hk:k=D:=hk;have:=J5.out;omega))
 case stop=>exact fun D c pre V hD _ hF=>hF.elim
end Mk
end Go.Proofs.YtgblmelijlgimaaGreatDoor
