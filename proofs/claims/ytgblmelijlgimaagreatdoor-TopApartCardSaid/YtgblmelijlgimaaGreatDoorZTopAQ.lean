/- Parts of the proof of TopApart. -/
import Derived.Test.YtgblmelijlgimaaGreatDoorZTopAP
set_option maxRecDepth 100000
namespace Go.Proofs.YtgblmelijlgimaaGreatDoor
open Go.Proofs.Tryz
namespace Mk
open Go.RowKit Go.bZ Go.Gc Sl Mm Hd Bd Gy Bt Tb Pn
open Ti (Tn)
theorem iE{P:Program}{f:FuncId}{args:Array Value}{w:World}{a b:Nat}{v:Value}(h:Calls P f args (w.drewN (a+b)) fun e w'=>e=ae v/\w.drewN (a+b)=w'):Calls P f args (w.drewN (a+b)) fun e OB=>e=ae v/\∃n,OB=w.drewN (a+n):=
 h.mono fun _ _ ⟨he,hm⟩=>⟨he,b,hm.symm⟩
theorem cY.JW{E:Env}{w:World}{l:List Nat}(k:Nat):cu (Of E.A l) w (w.drewN k):=(cu.refl _ w).drewN k
theorem mN{w:World}{E:Env}(hE:E.Ok){ws:List Int}{s:St}{N:Int}(h:cY w E ws s N):ak 209 #[af (aj (E.A 20))] w fun e w'=>e=ae (U ((E.L+E.n:Nat):Int))/\∃m,w'=w.drewN m:=by
 have D1:=bU (fun n=>Tb.gX (h.drewN n).tb);have D2:=bU (fun n=>ik (h.drewN n).cx.pl);rw[h.el] at D1;obtain⟨z,b0⟩:=h.b0;have c1:w.cell? (aj (E.A 20) 1)=some (af (aj (E.A 1))):=b0.cell 1;have c2:w.cell? (aj (E.A 20) 2)=some (af (aj (E.A 6))):=b0.cell 2;have l2:=hE.L2;have n2:=hE.n2;have D2:Hid (∀n,ak 68 #[af (aj (E.A 1))] (w.drewN n) fun e w'=>e=ae (U E.n)/\(w.drewN n)=w'):=D2;clear h b0 hE;generalize E.A 20=q at *;generalize E.A 1=q1 at *;generalize E.A 6=q6 at *;generalize E.L=L at *;generalize E.n=n at *;go_enter func209,ntmps209;go_wp2_with fail
 go_quiet ((first|(go_at_call 98;exact Calls.quiet_of_same ((D1.out _).mono (fun e w' h=>⟨h.1,h.2.symm⟩)))|(go_at_call 68;exact Calls.quiet_of_same ((D2.out _).mono (fun e w' h=>⟨h.1,h.2.symm⟩)))))
 go_wp2_with fail;go_ret;exact⟨by rw[aY];rfl,_,rfl⟩
theorem cY.uf{w:World}{E:Env}(hE:E.Ok){ws:List Int}{s:St}{N:Int}(h:cY w E ws s N)(r:Nat):cY (w.setCell (aj (E.A 20) 7) (U r)) E ws {s with root:=r} N:=by
 obtain⟨z,b0⟩:=h.b0;exact h.own hE ((ud (E:=E) (w:=w) 7 (U r)).up (Of.up (by decide))) (root:=r) (act:=s.act) (hs:=s.hs) ⟨z,b0.set 7 (U r)⟩ (h.b1.other (hE.ne (by decide)) 7 _) h.hl
theorem JX{w:World}{E:Env}(hE:E.Ok){ws:List Int}{s:St}{N:Int}(h:cY w E ws s N)(hr:s.root=E.L+E.n)(hv:Value):ak 213 #[af (aj (E.A 20)),hv] w fun e w'=>e=ae (.bool false)/\Below w.heap.size w w':=by
 have D:=bU (fun n=>mN hE (h.drewN n));obtain⟨z,b0⟩:=h.b0;have c7:w.cell? (aj (E.A 20) 7)=some (U s.root):=b0.cell 7;rw[hr] at c7;clear h b0 hE hr;generalize E.A 20=q at *;generalize E.L+E.n=L at *;go_enter func213,ntmps213;go_wp2_with fail
 go_quiet ((go_at_call 209;exact Calls.quiet_of (D.out _)))
 go_wp2_with fail;go_ret;exact⟨rfl,jh (bV _ _) _⟩
theorem FO{w:World}{p g:Nat}{es:List eG}{gens:Nat}(h:eP w p g es gens)(k:Nat):
  ak 260 #[af (aj p),U k] w fun x w'=>x=ae (.tuple #[U (((iN es k).getD 0:Nat):Int),.bool (iN es k).isSome])/\w=w':=by
 cases he:iN es k with
 | some s=>exact Fq h k s he
 | none=>exact zw h k he
theorem FP{es:List eG}{cs:List Int}{r:Nat}(h:r<es.length):rootOf es cs r=iN es r:=by
 unfold rootOf iN;rw[if_pos h]
 rfl
theorem FQ{w:World}{E:Env}(hE:E.Ok){ws:List Int}{s:St}{N:Int}(h:cY w E ws s N)(hr:s.root<E.L)(hx:∀x,rootOf s.es s.cs s.root=some x→x<E.n)(hq:s.q.length<=E.dv)(hv:Value):
  ak 213 #[af (aj (E.A 20)),hv] w fun e w'=>e=ae (.bool true)/\cY w' E ws (jA E.K s) N/\cu (Of E.A [12,13,14,15,16,17,18,19,20]) w w':=by
 have D:=bU (fun n=>mN hE (h.drewN n));have D1:=bU (fun n=>Tb.gX (h.drewN n).tb);have D3:=bU (fun n=>FO (h.drewN n).tb s.root);rw[h.el] at D1;have hro:rootOf s.es s.cs s.root=iN s.es s.root:=FP (by rw[h.el];exact hr);rw[hro] at hx;have DS:Hid (∀n x,iN s.es s.root=some x→ak 261 #[af (aj (E.A 20)),U x] (w.drewN n) fun e w'=>e=ae (.tuple #[])/\w'.cell? (aj (E.A 20) 7)=some (U s.root)/\w'.frozen? (aj (E.A 20) 7)=false/\Hid (cY (w'.setCell (aj (E.A 20) 7) (U (s.root+1:Nat))) E ws (jA E.K s) N/\cu (Of E.A [12,13,14,15,16,17,18,19,20]) w (w'.setCell (aj (E.A 20) 7) (U (s.root+1:Nat))))):=bU (fun n x he=>by
  refine(ox hE (h.drewN n) (hx x he) hq).mono ?_;rintro e w' ⟨rfl,hp,hc⟩;obtain⟨z,b0⟩:=hp.b0;rw[kR] at b0;refine⟨rfl,b0.cell 7,b0.cE 7,bU ⟨?_,?_⟩⟩
  .have:=hp.uf hE (s.root+1)
   have e2:jA E.K s={fO E.K s x with root:=s.root+1}:=by unfold jA;rw[hro,he];rfl
   rw[e2];exact this
  .exact((cY.JW n).trans (hc.up (Of.up (by decide)))).trans ((ud 7 _).up (Of.up (by decide))))
 have DN:Hid (∀n,iN s.es s.root=none→cY ((w.drewN n).setCell (aj (E.A 20) 7) (U (s.root+1:Nat))) E ws (jA E.K s) N/\cu (Of E.A [12,13,14,15,16,17,18,19,20]) w ((w.drewN n).setCell (aj (E.A 20) 7) (U (s.root+1:Nat)))):=bU (fun n he=>by
  refine⟨?_,(cY.JW n).trans ((ud 7 _).up (Of.up (by decide)))⟩;have:=(h.drewN n).uf hE (s.root+1);have e2:jA E.K s={s with root:=s.root+1}:=by unfold jA;rw[hro,he];rfl
  rw[e2];exact this)
 obtain⟨z,b0⟩:=h.b0;have c2:w.cell? (aj (E.A 20) 2)=some (af (aj (E.A 6))):=b0.cell 2;have c7:w.cell? (aj (E.A 20) 7)=some (U s.root):=b0.cell 7;have f7:=b0.cE 7;have L2:=hE.L2;have hne:((s.root:Int)==((E.L+E.n:Nat):Int))=false:=by rw[aA];omega
 have hwr:IntKind.i64.wrap ((s.root:Int)-(E.L:Int))=(s.root:Int)-(E.L:Int):=by rw[IntKind.wrap_i64];omega
 have hge:decide ((0:Int)<=(s.root:Int)-(E.L:Int))=false:=az (by omega);clear h b0 hE hro;have e1:((s.root+1:Nat):Int)=(s.root:Int)+1:=by omega
 simp only[e1] at DS DN;clear e1;generalize E.A 20=q at *;generalize E.A 6=q6 at *;generalize E.L+E.n=T at *;generalize E.L=L at *;generalize s.root=r at *
 cases hs:iN s.es r with
 | some x=>
  rw[hs] at D3;have D3:Hid (∀n,ak 260 #[af (aj q6),U r] (w.drewN n) fun e w'=>e=ae (.tuple #[U x,.bool true])/\w.drewN n=w'):=D3;go_enter func213,ntmps213;go_wp2_with fail
  go_quiet ((go_at_call 209;exact Calls.quiet_of (D.out _)))
  go_wp2_with fail
  go_quiet ((go_at_call 260;exact iE (D3.out _)))
  go_wp2_with fail
  go_quiet ((go_at_call 98;exact iE (D1.out _)))
  go_wp2_with (go_at_call 261;(with_reducible refine(DS.out _ x hs).mono ?_);rintro e w2 ⟨rfl,y7,g7,hp⟩)
  go_ret;exact⟨rfl,hp.out⟩
 | none=>
  rw[hs] at D3;have D3:Hid (∀n,ak 260 #[af (aj q6),U r] (w.drewN n) fun e w'=>e=ae (.tuple #[U 0,.bool false])/\w.drewN n=w'):=D3;go_enter func213,ntmps213;go_wp2_with fail
  go_quiet ((go_at_call 209;exact Calls.quiet_of (D.out _)))
  go_wp2_with fail
  go_quiet ((go_at_call 260;exact iE (D3.out _)))
  go_wp2_with fail
  go_quiet ((go_at_call 98;exact iE (D1.out _)))
  go_wp2_with fail;go_ret;exact⟨rfl,DN.out _ hs⟩
end Mk
namespace Mk
open Go.RowKit Go.bZ Go.Gc Sl Mm Hd Bd Gy Bt Tb Pn
open Ti (Tn)
theorem FR{w:World}{E:Env}(hE:E.Ok){ws:List Int}{s:St}{N:Int}(h:cY w E ws s N)(hr:E.L<=s.root)(AW:s.root<E.L+E.n)(hq:s.q.length<=E.dv)(hv:Value):
  ak 213 #[af (aj (E.A 20)),hv] w fun e w'=>e=ae (.bool true)/\cY w' E ws (jA E.K s) N/\cu (Of E.A [12,13,14,15,16,17,18,19,20]) w w':=by
 have R8:s.root-E.L<s.cs.length:=by rw[h.cl];omega
 have D:=bU (fun n=>mN hE (h.drewN n));have D1:=bU (fun n=>Tb.gX (h.drewN n).tb);have D3:=bU (fun n=>zw (h.drewN n).tb s.root (by unfold iN;rw[List.getElem?_eq_none (by rw[h.el];exact hr)]));have D4:=bU (fun n=>uZ (h.drewN n).pn (s.root-E.L) R8);rw[h.el] at D1;have hro:rootOf s.es s.cs s.root=if 0<s.cs[s.root-E.L] then some (s.root-E.L) else none:=by
  unfold rootOf;rw[if_neg (by rw[h.el];omega),h.el,ao,aq R8]
  rfl
 have DS:Hid (∀n,0<s.cs[s.root-E.L]→ak 261 #[af (aj (E.A 20)),U ((s.root-E.L:Nat):Int)] (w.drewN n) fun e w'=>e=ae (.tuple #[])/\w'.cell? (aj (E.A 20) 7)=some (U s.root)/\w'.frozen? (aj (E.A 20) 7)=false/\Hid (cY (w'.setCell (aj (E.A 20) 7) (U (s.root+1:Nat))) E ws (jA E.K s) N/\cu (Of E.A [12,13,14,15,16,17,18,19,20]) w (w'.setCell (aj (E.A 20) 7) (U (s.root+1:Nat))))):=bU (fun n he=>by
  refine(ox hE (h.drewN n) (x:=s.root-E.L) (by omega) hq).mono ?_;rintro e w' ⟨rfl,hp,hc⟩;obtain⟨z,b0⟩:=hp.b0;rw[kR] at b0;refine⟨rfl,b0.cell 7,b0.cE 7,bU ⟨?_,?_⟩⟩
  .have:=hp.uf hE (s.root+1)
   have e2:jA E.K s={fO E.K s (s.root-E.L) with root:=s.root+1}:=by unfold jA;rw[hro,if_pos he];rfl
   rw[e2];exact this
  .exact((cY.JW n).trans (hc.up (Of.up (by decide)))).trans ((ud 7 _).up (Of.up (by decide))))
 have DN:Hid (∀n,¬0<s.cs[s.root-E.L]→cY ((w.drewN n).setCell (aj (E.A 20) 7) (U (s.root+1:Nat))) E ws (jA E.K s) N/\cu (Of E.A [12,13,14,15,16,17,18,19,20]) w ((w.drewN n).setCell (aj (E.A 20) 7) (U (s.root+1:Nat)))):=bU (fun n he=>by
  refine⟨?_,(cY.JW n).trans ((ud 7 _).up (Of.up (by decide)))⟩;have:=(h.drewN n).uf hE (s.root+1);have e2:jA E.K s={s with root:=s.root+1}:=by unfold jA;rw[hro,if_neg he];rfl
  rw[e2];exact this)
 obtain⟨z,b0⟩:=h.b0;have c2:w.cell? (aj (E.A 20) 2)=some (af (aj (E.A 6))):=b0.cell 2;have c3:w.cell? (aj (E.A 20) 3)=some (af (aj (E.A 8))):=b0.cell 3;have c7:w.cell? (aj (E.A 20) 7)=some (U s.root):=b0.cell 7;have f7:=b0.cE 7;have L2:=hE.L2;have n2:=hE.n2;have hne:((s.root:Int)==((E.L+E.n:Nat):Int))=false:=by rw[aA];omega
 have hwr:IntKind.i64.wrap ((s.root:Int)-(E.L:Int))=((s.root-E.L:Nat):Int):=by rw[IntKind.wrap_i64];omega
 have TH:s.root<=131072:=by omega
 have TI:s.root-E.L<=65536:=by omega
 clear h b0 hE hro;have e1:((s.root+1:Nat):Int)=(s.root:Int)+1:=by omega
 simp only[e1] at DS DN;clear e1;obtain⟨v,hvv⟩:=al (s.cs[s.root-E.L]);rw[hvv] at D4 DS DN;clear hvv;generalize E.A 20=q at *;generalize E.A 6=q6 at *;generalize E.A 8=q8 at *;generalize E.L+E.n=T at *;generalize s.root-E.L=j at *;generalize E.L=L at *;generalize s.root=r at *;by_cases hs:0<v
 .have hd:decide (0<v)=true:=aw hs
  go_enter func213,ntmps213;go_wp2_with fail
  go_quiet ((go_at_call 209;exact Calls.quiet_of (D.out _)))
  go_wp2_with fail
  go_quiet ((go_at_call 260;exact iE (D3.out _)))
  go_wp2_with fail
  go_quiet ((go_at_call 98;exact iE (D1.out _)))
  go_wp2_with (first|(go_at_call 193;(with_reducible refine(D4.out _).mono ?_);rintro e w2 ⟨rfl,rfl⟩)|(go_at_call 261;(with_reducible refine(DS.out _ hs).mono ?_);rintro e w2 ⟨rfl,y7,g7,hp⟩))
  go_ret;exact⟨rfl,hp.out⟩
 .have hd:decide (0<v)=false:=az hs
  go_enter func213,ntmps213;go_wp2_with fail
  go_quiet ((go_at_call 209;exact Calls.quiet_of (D.out _)))
  go_wp2_with fail
  go_quiet ((go_at_call 260;exact iE (D3.out _)))
  go_wp2_with fail
  go_quiet ((go_at_call 98;exact iE (D1.out _)))
  go_wp2_with (first|(go_at_call 193;(with_reducible refine(D4.out _).mono ?_);rintro e w2 ⟨rfl,rfl⟩))
  go_ret;exact⟨rfl,DN.out _ hs⟩
theorem JY{w:World}{E:Env}(hE:E.Ok){ws:List Int}{s:St}{N:Int}(h:cY w E ws s N)(hr:s.root<E.L+E.n)(hx:∀x,rootOf s.es s.cs s.root=some x→x<E.n)(hq:s.q.length<=E.dv)(hv:Value):
  ak 213 #[af (aj (E.A 20)),hv] w fun e w'=>e=ae (.bool true)/\cY w' E ws (jA E.K s) N/\cu (Of E.A [12,13,14,15,16,17,18,19,20]) w w':=by
 by_cases c:s.root<E.L
 .exact FQ hE h c hx hq hv
 .exact FR hE h (by omega) hr hq hv
end Mk
namespace Mk
open Go.RowKit Go.bZ Go.Gc Sl Mm Hd Bd Gy Bt Tb Pn
open Ti (Tn)
theorem Ci(l:List Hand):(dQ l).length=l.length*3:=by
 induction l with
 | nil=>rfl
 | cons a l ih=>simp only[dQ,List.flatMap_cons,aJ,aC] at ih ⊢;rw[ih];simp only[mZ,aC,aV];omega
theorem qj:∀(l:List Hand) (i:Nat) (h:Hand),l[i]?=some h→(dQ l)[i*3]?=some (U h.slot)/\(dQ l)[i*3+1]?=some (U h.field)/\(dQ l)[i*3+2]?=some (.bool h.is)
 | [],i,h,e=>by simp at e
 | a::l,0,h,e=>by
   simp at e;subst e;simp[dQ,mZ]
 | a::l,i+1,h,e=>by
   have ih:=qj l i h (by simpa using e);have hh:dQ (a::l)=mZ a++dQ l:=by simp[dQ]
   rw[hh,show(i+1)*3=i*3+3 by omega,aS (by simp[mZ]),aS (by simp[mZ]),aS (by simp[mZ])];simp only[mZ,aC,aV];rw[show i*3+3-(0+1+1+1)=i*3 by omega,show i*3+3+1-(0+1+1+1)=i*3+1 by omega,show i*3+3+2-(0+1+1+1)=i*3+2 by omega];exact ih
theorem rk:∀(l:List Hand) (i:Nat) (h g:Hand),l[i]?=some h→(((dQ l).set (i*3) (U g.slot)).set (i*3+1) (U g.field)).set (i*3+2) (.bool g.is)=dQ (l.set i g)
 | [],i,h,g,e=>by simp at e
 | a::l,0,h,g,e=>by simp[dQ,mZ]
 | a::l,i+1,h,g,e=>by
   have ih:=rk l i h g (by simpa using e);have hh:∀l',dQ (a::l')=U a.slot::.int .i64 a.field::.bool a.is::dQ l':=fun l'=>by simp[dQ,mZ]
   rw[List.set_cons_succ,hh,hh,show(i+1)*3=i*3+1+1+1 by omega];simp only[List.set_cons_succ,show i*3+1+1+1+1=i*3+1+1+1+1 from rfl,show i*3+1+1+1+2=i*3+2+1+1+1 by omega];rw[←ih]
theorem FT(w:World)(g o:Nat)(x:Nat){v0 v1 v2:Value}(c0:w.cell? (aj g o)=some v0)(c1:w.cell? (aj g (o+1))=some v1)(c2:w.cell? (aj g (o+2))=some v2)(f0:w.frozen? (aj g o)=false)(f1:w.frozen? (aj g (o+1))=false)(f2:w.frozen? (aj g (o+2))=false):
  ak 216 #[af (aj g o),U x] w fun e w'=>e=ae (.tuple #[])/\w'=((w.setCell (aj g o) (U x)).setCell (aj g (o+1)) (U 0)).setCell (aj g (o+2)) (.bool true):=by
 go_enter func216,ntmps216;go_wp2_with fail
 go_end0
 exact⟨rfl,rfl⟩
def jX(w:World)(g i:Nat)(h:Hand):World:=((w.setCell (aj g (i*3)) (U h.slot)).setCell (aj g (i*3+1)) (U h.field)).setCell (aj g (i*3+2)) (.bool h.is)
theorem set_toArray(l:List Value)(i:Nat)(v:Value):l.toArray.setIfInBounds i v=(l.set i v).toArray:=by simp
theorem cj.jX{w:World}{g i:Nat}{l:List Hand}{h:Hand}(hb:cj w g (dQ l).toArray 264)(he:l[i]?=some h)(k:Hand):cj (jX w g i k) g (dQ (l.set i k)).toArray 264:=by
 have:=((hb.set (i*3) (U k.slot)).set (i*3+1) (U k.field)).set (i*3+2) (.bool k.is);simp only[set_toArray] at this;rw[rk l i h k he] at this;exact this
theorem FU{w:World}{g i:Nat}(h:Hand){S:Nat→Prop}(hg:S g):cu S w (jX w g i h):=
 cu.stored (S:=S) (cu.stored (S:=S) (cu.stored (S:=S) (cu.refl S w) (.inl hg) _ _) (.inl hg) _ _) (.inl hg) _ _
theorem cY.hand{w:World}{E:Env}(hE:E.Ok){ws:List Int}{s:St}{N:Int}(h:cY w E ws s N){i:Nat}{k:Hand}(he:s.hs[i]?=some k)(g:Hand):cY (jX w (E.A 21) i g) E ws {s with hs:=s.hs.set i g} N/\cu (Of E.A [21]) w (jX w (E.A 21) i g):=by
 have hc:cu (Of E.A [21]) w (jX w (E.A 21) i g):=FU g ⟨21,by simp,rfl⟩;obtain⟨z,b0⟩:=h.b0;exact⟨h.own hE (hc.up (Of.up (by decide))) (root:=s.root) (act:=s.act) ⟨z,b0.bY hc (hE.no (by decide))⟩ (cj.jX h.b1 he g) (by rw[aI];exact h.hl),hc⟩
theorem cY.fu{w:World}{E:Env}{ws:List Int}{s:St}{N:Int}(h:cY w E ws s N){i:Nat}{k:Hand}(he:s.hs[i]?=some k):w.cell? (aj (E.A 21) (i*3))=some (U k.slot)/\w.cell? (aj (E.A 21) (i*3+1))=some (U k.field)/\w.cell? (aj (E.A 21) (i*3+2))=some (.bool k.is):=by
 obtain⟨a1,a2,a3⟩:=qj s.hs i k he;refine⟨(h.b1.cell _).trans ?_,(h.b1.cell _).trans ?_,(h.b1.cell _).trans ?_⟩
 .rw[aO];exact a1
 .rw[aO];exact a2
 .rw[aO];exact a3
theorem FV{l:List Value}{i:Nat}{v:Value}(h:l[i]?=some v):l.set i v=l:=by
 apply List.ext_getElem?;intro j;rw[bG]
 split
 .rename_i e
  subst e;have:=(au.1 h).1;rw[if_pos this,h]
 .rfl
theorem xW{l:List Hand}{i:Nat}{h:Hand}(e:l[i]?=some h)(f:Nat):(dQ l).set (i*3+1) (U f)=dQ (l.set i {h with field:=f}):=by
 obtain⟨a1,a2,a3⟩:=qj l i h e;have:=rk l i h {h with field:=f} e;rw[←this,FV a1];rw[FV (l:=(dQ l).set (i*3+1) _) (by rw[List.getElem?_set_ne (by omega)];exact a3)]
theorem cY.MJ{w:World}{E:Env}(hE:E.Ok){ws:List Int}{s:St}{N:Int}(h:cY w E ws s N){i:Nat}{k:Hand}(he:s.hs[i]?=some k)(f:Nat):cY (w.setCell (aj (E.A 21) (i*3+1)) (U f)) E ws {s with hs:=s.hs.set i {k with field:=f}} N/\cu (Of E.A [21]) w (w.setCell (aj (E.A 21) (i*3+1)) (U f)):=by
 have hc:cu (Of E.A [21]) w (w.setCell (aj (E.A 21) (i*3+1)) (U f)):=cu.stored (S:=Of E.A [21]) (cu.refl _ w) (.inl ⟨21,by simp,rfl⟩) _ _;obtain⟨z,b0⟩:=h.b0;have b1:=h.b1.set (i*3+1) (U f);rw[set_toArray,xW he] at b1;exact⟨h.own hE (hc.up (Of.up (by decide))) (root:=s.root) (act:=s.act) ⟨z,b0.bY hc (hE.no (by decide))⟩ b1 (by rw[aI];exact h.hl),hc⟩
theorem cY.lt{w:World}{E:Env}{ws:List Int}{s:St}{N:Int}(h:cY w E ws s N){k:Nat}(hk:w.heap.size<=k):¬Of E.A [12,13,14,15,16,17,18,19,20,21] k:=by
 obtain⟨f,ring,g⟩:=h.gy;obtain⟨z,b0⟩:=h.b0;have l0:=b0.lt;have l1:=h.b1.lt;have l2:=h.tn.lt;have l3:=g.ro.lt;have l4:=g.rd.lt;have l5:=g.b0.lt;have l6:=g.b1.lt;rintro ⟨i,hi,rfl⟩;simp only[List.mem_cons,List.not_mem_nil,or_false] at hi;have l5:E.A 14<w.heap.size:=l5;have l6:E.A 19<w.heap.size:=l6;have l3:E.A 15<w.heap.size/\E.A 16<w.heap.size:=l3;have l4:E.A 17<w.heap.size/\E.A 18<w.heap.size:=l4;rcases hi with rfl|rfl|rfl|rfl|rfl|rfl|rfl|rfl|rfl|rfl <;> omega
theorem cY.ptr{w:World}{E:Env}{ws:List Int}{s:St}{N:Int}(h:cY w E ws s N):w.cell? (aj (E.A 20))=some (af (aj (E.A 0)))/\w.cell? (aj (E.A 20) 1)=some (af (aj (E.A 1)))/\w.cell? (aj (E.A 20) 2)=some (af (aj (E.A 6)))/\w.cell? (aj (E.A 20) 3)=some (af (aj (E.A 8)))/\w.cell? (aj (E.A 20) 4)=some (af (aj (E.A 12)))/\w.cell? (aj (E.A 20) 5)=some (af (aj (E.A 14))):=by
 obtain⟨z,b0⟩:=h.b0;exact⟨b0.cell 0,b0.cell 1,b0.cell 2,b0.cell 3,b0.cell 4,b0.cell 5⟩
theorem vM{w:World}{E:Env}(hE:E.Ok){ws:List Int}{s:St}{N:Int}(h:cY w E ws s N){x:Nat}(hx:x<E.n):ak 262 #[af (aj (E.A 12)),U x] w fun e w'=>e=ae (U 0)/\cY w' E ws {s with col:=cP s.col x 2} N/\cu (Of E.A [12,13]) w w':=by
 have hin:0<=(x:Int)/\(x:Int)<(iu E.n s.col).length:=by rw[l9];omega
 refine(Ti.xV w (E.A 12) (E.A 13) (iu E.n s.col) N x h.tn).mono ?_;rintro e w' ⟨rfl,ht,ho⟩;have hc:cu (Of E.A [12,13]) w w':=mM ho (by simp) (by simp);have e4:Ti.MF (iu E.n s.col) x=iu E.n (cP s.col x 2):=by
  unfold Ti.MF;rw[if_pos hin,aG];exact vL E.n s.col x 2 hx
 rw[e4] at ht;refine⟨by unfold Ti.s9;rw[if_pos hin],h.OG hE (hc.up (Of.up (by decide))) ht (j4 hE h.gy hc (by decide)),hc⟩
theorem me{w:World}{E:Env}(hE:E.Ok){ws:List Int}{s:St}{N:Int}(h:cY w E ws s N){x v u:Nat}(hx:x<E.n)(hh:cU E.K s.M x=some (v,u)):∃k r X,Ob E.c ws x k v u r X:=by
 obtain⟨k,r,sx⟩:=gq hE.gd hx;have ha:=jM hE.gd hx;have hz:cJ E.rs x=r.size:=by unfold cJ;rw[sx.gL]
 have hp:=(hE.K).sz x hx;have hp:0<cJ E.rs x:=hp;obtain⟨X,e1,e2,-,-⟩:=Ctx.word h.cx (a:=addrOf E.pw E.rs x) (show addrOf E.pw E.rs x<E.pg*E.pw by omega);have hm:s.M (addrOf E.pw E.rs x)=X:=(h.mem _ (by omega)).trans e1;unfold cU at hh;have hh:(match MH (s.M (addrOf E.pw E.rs x)) with|some (c,r,v)=>if c=kA E.rs x/\r+v+1<=cJ E.rs x then some (r,v) else none|none=>none)=some (v,u):=hh;rw[hm] at hh;unfold MH at hh;rw[aG] at hh
 split at hh
 .rename_i c r' v' e
  split at hh
  .rename_i hc
   injection hh with hh;injection hh with q1 q2;subst q1 q2;refine⟨k,r,X,sx,hx,e1,?_,by rw[←hz];have:=hc.2;omega⟩;rw[e,hc.1,sx.cl]
  .cases hh
 .cases hh
end Mk
end Go.Proofs.YtgblmelijlgimaaGreatDoor
