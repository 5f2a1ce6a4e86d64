/- Parts of the proof of TopApart. -/
import Derived.Test.YtgblmelijlgimaaGreatDoorZTopAV
import Derived.Laws.EntriesVeiled
set_option maxRecDepth 100000
namespace Go.Proofs.YtgblmelijlgimaaGreatDoor
open Go.Proofs.Tryz
namespace Cy
open Go.RowKit Go.bZ Go.Gc Bd Gy Bt Tb Pn Ar Mk Sw
open Ti (Tn)
theorem gF.QU{w w':World}{E:Env}(hE:E.Ok){ws:List Int}{s:St}{N:Int}(h:gF w E ws s N)(hc:cu (fun k=>k=E.A 6\/k=E.A 7) w w'){es:List eG}(ht:eP w' (E.A 6) (E.A 7) es E.gens)(hl:es.length=E.L):gF w' E ws {s with es:=es} N/\cu (Of E.A [6,7]) w w':=by
 have hc:cu (Of E.A [6,7]) w w':=hc.up (fun k hk=>hk.elim (fun e=>⟨6,by simp,e⟩) (fun e=>⟨7,by simp,e⟩));have g:=h.co.mp;obtain⟨z,b0⟩:=g.b0;obtain⟨-,-,-,-,f5⟩:=hE.uc (l:=[6,7]) (by decide);refine⟨h.parts hE (hc.up (Om.of (l':=[6,7]) (by decide))) (by decide) (h.co.vR hE hc (t:={s with es:=es}) ?_ (by decide) rfl rfl rfl rfl rfl) rfl,hc⟩;exact⟨rj hE g.cx hc (by decide),g.mem,ht,hl,g.pn.bY hc (hE.no (by decide)) (hE.no (by decide)) (hE.no (by decide)) (hE.no (by decide)),g.cl,ib g.tn hc (hE.no (by decide)) (hE.no (by decide)),j4 hE g.gy hc (by decide),⟨z,b0.bY hc (hE.no (by decide))⟩,g.b1.bY hc (hE.no (by decide)),g.hl,iQ g.de g.d2 hc f5,aB g.d2 hc.size⟩
theorem gF.AY{w w':World}{E:Env}(hE:E.Ok){ws:List Int}{s:St}{N:Int}(h:gF w E ws s N)(hc:cu (fun k=>k=E.A 9\/k=E.A 11) w w'){cs:List Int}(ht:iV w' (E.A 8) (E.A 9) (E.A 10) (E.A 11) cs)(hl:cs.length=E.n):gF w' E ws {s with cs:=cs} N/\cu (Of E.A [9,11]) w w':=by
 have hc:cu (Of E.A [9,11]) w w':=hc.up (fun k hk=>hk.elim (fun e=>⟨9,by simp,e⟩) (fun e=>⟨11,by simp,e⟩));have g:=h.co.mp;obtain⟨z,b0⟩:=g.b0;obtain⟨-,-,-,-,f5⟩:=hE.uc (l:=[9,11]) (by decide);refine⟨h.parts hE (hc.up (Om.of (l':=[9,11]) (by decide))) (by decide) (h.co.vR hE hc (t:={s with cs:=cs}) ?_ (by decide) rfl rfl rfl rfl rfl) rfl,hc⟩;exact⟨rj hE g.cx hc (by decide),g.mem,g.tb.bY hc (hE.no (by decide)) (hE.no (by decide)),g.el,ht,hl,ib g.tn hc (hE.no (by decide)) (hE.no (by decide)),j4 hE g.gy hc (by decide),⟨z,b0.bY hc (hE.no (by decide))⟩,g.b1.bY hc (hE.no (by decide)),g.hl,iQ g.de g.d2 hc f5,aB g.d2 hc.size⟩
theorem gF.take{w w':World}{E:Env}(hE:E.Ok){ws:List Int}{s:St}{N:Int}(h:gF w E ws s N)(hc:cu (fun k=>k=E.A 3\/k=E.A 5) w w'){T:Nat→Bool}{u:Int}(ha:lE w' (E.A 3) (E.A 4) (E.A 5) (E.A 1) E.n T u):gF w' E ws {s with T:=T,used:=u} N/\cu (Of E.A [3,5]) w w':=by
 have hc:cu (Of E.A [3,5]) w w':=hc.up (fun k hk=>hk.elim (fun e=>⟨3,by simp,e⟩) (fun e=>⟨5,by simp,e⟩));exact⟨h.parts hE (hc.up (Om.of (l':=[3,5]) (by decide))) (by decide) ⟨cY.sw (cY.uc hE h.co.mp hc (by decide)) T u s.cZ s.sa s.sact s.phase,ha,h.co.sb.bY hc (hE.no (by decide)),h.co.rw.bY hc (hE.no (by decide)) (hE.no (by decide))⟩ rfl,hc⟩
theorem gF.mem{w w':World}{E:Env}(hE:E.Ok){ws cR:List Int}{s:St}{N:Int}(h:gF w E ws s N)(hx:Cx w' E.c cR)(hc:cu (· =E.mw) w w'){M:Nat→Int}(hM:∀a,a<E.pg*E.pw→M a=at' E.bs E.tn cR a):gF w' E cR {s with M:=M} N:=
 h.parts hE (l:=[]) (hc.up (fun k hk=>.inl hk)) (by decide) (h.co.J3 hE hx hc hM) rfl
theorem Ua{E:Env}(hE:E.Ok):0<E.pg:=Nat.lt_of_le_of_lt (aW _) (hE.K.RN 0 hE.n1)
theorem Gj{w:World}{E:Env}(hE:E.Ok){ws:List Int}{s:St}{N:Int}(h:gF w E ws s N)(hp:s.phase=0)(ha:s.act=false)(hN:N<1000000):ak 269 #[af (aj (E.A 25))] w fun e w'=>e=ae (U 0)/\gF w' E ws (Go.Gc.begun s) (N+1)/\cu (Of E.A [12,13,14,15,16,17,18,19,20,21,25]) w w':=by
 have d:=cC h;obtain⟨z,b⟩:=h.cy;have c8:w.cell? (aj (E.A 25) 8)=some (ab s.phase):=b.cell 8;have c9:w.cell? (aj (E.A 25) 9)=some (U z):=b.cell 9;have f8:=b.cE 8;have f9:=b.cE 9;rw[hp] at c8;have k1:cu (Of E.A [25]) w ((w.setCell (aj (E.A 25) 8) (ab 1)).setCell (aj (E.A 25) 9) (U 0)):=cu.stored (S:=Of E.A [25]) (Ee 8 _) (.inl ⟨25,by simp,rfl⟩) _ _;have h1:gF ((w.setCell (aj (E.A 25) 8) (ab 1)).setCell (aj (E.A 25) 9) (U 0)) E ws {s with phase:=1} N:=h.own hE k1 ⟨0,(b.set 8 _).set 9 _⟩;have c5:((w.setCell (aj (E.A 25) 8) (ab 1)).setCell (aj (E.A 25) 9) (U 0)).cell? (aj (E.A 25) 5)=some (af (aj (E.A 20))):=((b.set 8 _).set 9 _).cell 5;have dS:=rq hE h1.co.mp ha hN (Ua hE);have HS:Hid (∀w',cY w' E ws (Go.Gc.begun {s with phase:=1}) (N+1)→cu (Of E.A [12,13,14,15,16,17,18,19,20,21]) ((w.setCell (aj (E.A 25) 8) (ab 1)).setCell (aj (E.A 25) 9) (U 0)) w'→gF w' E ws (Go.Gc.begun s) (N+1)/\cu (Of E.A [12,13,14,15,16,17,18,19,20,21,25]) w w'):=bU (fun w' hm hc=>⟨h1.parts hE (hc.up (Om.of (l':=[12,13,14,15,16,17,18,19,20,21]) (by decide))) (by decide) (h1.co.vR hE hc (t:=Go.Gc.begun s) hm (by decide) rfl rfl rfl rfl rfl) rfl,(k1.up (Of.up (by decide))).trans (hc.up (Of.up (by decide)))⟩);clear h h1 b k1 ha;go_enter func269,ntmps269;go_wp2_with (first|(go_at_call 111;(with_reducible refine d.mono ?_);rintro e w' ⟨rfl,rfl⟩)|(go_at_call 297;(with_reducible refine dS.mono ?_);rintro e w' ⟨rfl,hm,hc⟩;have HZ:=bU (HS.out w' hm hc);clear hm hc))
 go_ret;exact⟨rfl,HZ.out⟩
theorem Gk{w:World}{E:Env}(hE:E.Ok){ws:List Int}{s:St}{N:Int}(h:gF w E ws s N)(ha:s.phase=1→s.act=true){x:Nat}(hx:x<E.n)(hq:s.q.length<=E.dv):ak 188 #[af (aj (E.A 25)),U x] w fun e w'=>e=ae (U 0)/\gF w' E ws (fW E.K s x) N/\cu (Of E.A [12,13,14,15,16,17,18,19]) w w':=by
 have d:=cC h;have dO:=oA h.co.mp hx;obtain⟨z,b⟩:=h.cy;have c8:w.cell? (aj (E.A 25) 8)=some (ab s.phase):=b.cell 8;have c5:w.cell? (aj (E.A 25) 5)=some (af (aj (E.A 20))):=b.cell 5;by_cases hp:s.phase=1
 .have dS:=F8 hE h.co.mp hx (ha hp) hq
  have e1:fW E.K s x=fO E.K s x:=by unfold fW;rw[if_pos hp]
  have HS:Hid (∀w',cY w' E ws (fO E.K s x) N→cu (Of E.A [12,13,14,15,16,17,18,19]) w w'→gF w' E ws (fW E.K s x) N):=bU (fun w' hm hc=>by
   have l:=jq E.K s x;rw[e1];exact h.parts hE (hc.up (Om.of (l':=[12,13,14,15,16,17,18,19]) (by decide))) (by decide) (h.co.vR hE hc hm (by decide) l.T l.used l.cZ l.sa l.sact) l.phase)
  rw[hp] at c8;clear h b ha;go_enter func188,ntmps188;go_wp2_with (first|(go_at_call 111;(with_reducible refine d.mono ?_);rintro e w' ⟨rfl,rfl⟩)|(go_at_call 103;(with_reducible refine dO.mono ?_);rintro e w' ⟨rfl,rfl⟩)|(go_at_call 244;(with_reducible refine dS.mono ?_);rintro e w' ⟨rfl,hm,hc⟩))
  go_ret;exact⟨rfl,HS.out w' hm hc,hc⟩
 .have e1:fW E.K s x=s:=by unfold fW;rw[if_neg hp]
  have e2:((s.phase:Int)==1)=false:=by rw[aA];omega
  have HS:=bU h;clear h b ha;generalize s.phase=ph at *;go_enter func188,ntmps188;go_wp2_with (first|(go_at_call 111;(with_reducible refine d.mono ?_);rintro e w' ⟨rfl,rfl⟩)|(go_at_call 103;(with_reducible refine dO.mono ?_);rintro e w' ⟨rfl,rfl⟩))
  go_ret;rw[e1];exact⟨rfl,HS.out,cu.refl _ _⟩
def o4(s:St)(x:Nat):St:={s with col:=if s.act then cP s.col x 2 else s.col}
theorem Gl{w:World}{E:Env}(hE:E.Ok){ws:List Int}{s:St}{N:Int}(h:gF w E ws s N){x:Nat}(hx:x<E.n):ak 182 #[af (aj (E.A 25)),U x] w fun e w'=>e=ae (U 0)/\gF w' E ws (o4 s x) N/\cu (Of E.A [12,13]) w w':=by
 have d:=cC h;obtain⟨z,b⟩:=h.cy;have c5:w.cell? (aj (E.A 25) 5)=some (af (aj (E.A 20))):=b.cell 5;have dB:ak 235 #[af (aj (E.A 20)),U x] w fun e w'=>e=ae (U 0)/\gF w' E ws (o4 s x) N/\cu (Of E.A [12,13]) w w':=by
  by_cases ha:s.act=true
  .have e:o4 s x={s with col:=cP s.col x 2}:=by unfold o4;rw[if_pos ha]
   rw[e];refine(F9 hE h.co.mp hx ha).mono ?_;rintro e w' ⟨rfl,hm,hc⟩;exact⟨rfl,h.parts hE (hc.up (Om.of (l':=[12,13]) (by decide))) (by decide) (h.co.vR hE hc (t:={s with col:=cP s.col x 2}) hm (by decide) rfl rfl rfl rfl rfl) rfl,hc⟩
  .have e:o4 s x=s:=by unfold o4;rw[if_neg ha]
   rw[e];refine(Cv h.co.mp hx (by simpa using ha)).mono ?_;rintro e w' ⟨rfl,hb⟩;exact⟨rfl,h.cA hb,cu.cD hb⟩
 clear h b;go_enter func182,ntmps182;go_wp2_with (first|(go_at_call 111;(with_reducible refine d.mono ?_);rintro e w' ⟨rfl,rfl⟩)|(go_at_call 235;(with_reducible refine dB.mono ?_);rintro e w' ⟨rfl,hm,hc⟩))
 go_ret;exact⟨rfl,hm,hc⟩
end Cy
end Go.Proofs.YtgblmelijlgimaaGreatDoor
namespace Go.Gc
def nu(K:eV)(s:St):Nat:=if s.phase=1 then mu K s+K.n+2 else if s.phase=2 then K.n-s.sa+1 else 0
structure Gm(K:eV)(t:St)(G:Nat→Bool)(t':St):Prop where
 inv:Inv K t' G
 vs:lJ K t' G=lJ K t G
 nu:nu K t'<=nu K t
 ph:t'.phase≠0
theorem CJ{K:eV}(hK:K.Ok){t:St}{G:Nat→Bool}(I:fh K t G)(hp:t.phase=1)(D:mS K t):Gm K t G (nZ t):=by
 have hn:=hK.pos;have h0:t.sa=0:=I.sq (by omega);refine⟨⟨vh I hp D,fun h=>(by cases h),fun _=>by show t.sa<K.n;omega⟩,rfl,?_,by show 2≠0;decide⟩;unfold Go.Gc.nu;rw[if_pos hp,if_neg (by show ¬2=1;decide),if_pos (by rfl)];show K.n-t.sa+1<=_;omega
theorem Gp{K:eV}{t:St}{G:Nat→Bool}(I:fh K t G)(hp:t.phase=1)(D:¬mS K t):Gm K t G t:=⟨⟨I,fun _=>D,fun h=>by omega⟩,rfl,av _,by omega⟩
theorem xZ{K:eV}{t:St}{G:Nat→Bool}(I:fh K t G)(hp:t.phase=2)(hs:t.sa=K.n):Gm K t G (tR t):=by
 refine⟨⟨vj I hp hs,fun h=>(by cases h),fun h=>(by cases h)⟩,rfl,?_,by show 3≠0;decide⟩;unfold Go.Gc.nu;rw[if_neg (by show ¬3=1;decide),if_neg (by show ¬3=2;decide)];omega
theorem ya{K:eV}{t:St}{G:Nat→Bool}(I:fh K t G)(hp:t.phase=2)(hs:t.sa≠K.n):Gm K t G t:=⟨⟨I,fun h=>by omega,fun _=>by have:=I.vc;omega⟩,rfl,av _,by omega⟩
theorem Gq{K:eV}(hK:K.Ok){s t:St}{G:Nat→Bool}(m:iB K s t)(I:fh K s G)(hp:s.phase=1):fh K t G/\lJ K t G=lJ K s G/\t.phase=1/\nu K t<nu K s:=by
 obtain⟨J,hm⟩:=m.inv hK I hp;have l:=m.left;have po:t.phase=1:=l.phase.trans hp;refine⟨J,vF l,po,?_⟩;unfold nu;rw[if_pos hp,if_pos po];omega
theorem Gr{K:eV}(hK:K.Ok){s:St}{G:Nat→Bool}(I:fh K s G)(hp:s.phase=2)(hs:s.sa<K.n):fh K (ji K s) G/\lJ K (ji K s) G=lJ K s G/\(ji K s).phase=2/\nu K (ji K s)<nu K s:=by
 have h1:(ji K s).phase=2:=by unfold ji;split <;> exact hp
 have h2:(ji K s).sa=s.sa+1:=by unfold ji;split <;> rfl
 refine⟨Bi hK I hp hs,BM hK I hp hs,h1,?_⟩;unfold nu;rw[if_neg (by omega),if_pos h1,if_neg (by omega),if_pos hp,h2];omega
end Go.Gc
namespace Go.Proofs.YtgblmelijlgimaaGreatDoor
open Go.Proofs.Tryz
namespace Cy
open Go.RowKit Go.bZ Go.Gc Bd Mk Sw
def mj(E:Env)(ws:List Int)(t:St)(N:Int)(G:Nat→Bool)(w w':World):Prop:=∃t',gF w' E ws t' N/\cu (Of E.A [22,25]) w w'/\Gm E.K t G t'
theorem gF.drewN{w:World}{E:Env}{ws:List Int}{s:St}{N:Int}(h:gF w E ws s N)(k:Nat):gF (w.drewN k) E ws s N:=h.cA (jh (bV _ _) k)
theorem CK{w:World}{E:Env}(hE:E.Ok){ws:List Int}{t:St}{N:Int}{G:Nat→Bool}(h:gF w E ws t N)(I:fh E.K t G)(hp:t.phase=1):ak 129 #[af (aj (E.A 25))] w fun e w'=>e=ae (.tuple #[])/\mj E ws t N G w w':=by
 obtain⟨z,b⟩:=h.cy;have c8:w.cell? (aj (E.A 25) 8)=some (ab t.phase):=b.cell 8;have c5:w.cell? (aj (E.A 25) 5)=some (af (aj (E.A 20))):=b.cell 5;rw[hp] at c8;have dD:ak 162 #[af (aj (E.A 20))] w fun e w1=>∃b,e=ae (.bool b)/\w1.cell? (aj (E.A 25) 8)=some (ab 1)/\w1.cell? (aj (E.A 25) 6)=some (af (aj (E.A 22)))/\Hid ((b=true↔Go.Gc.mS E.K t)/\Below w.heap.size w w1):=by
  refine(Gg hE h.co.mp I hp).mono ?_;rintro e w1 ⟨b,rfl,hb,hB⟩;obtain⟨z1,b1⟩:=(h.cA hB).cy;have Sb:w1.cell? (aj (E.A 25) 8)=some (ab t.phase):=b1.cell 8;rw[hp] at Sb;exact⟨b,rfl,Sb,b1.cell 6,bU ⟨hb,hB⟩⟩
 have hsact:t.sact=false:=by rw[I.sc,hp];rfl
 have hsa:=I.sq (by omega);have hn:=hE.n1;have DS:Hid (∀w1,Below w.heap.size w w1→ak 163 #[af (aj (E.A 22))] w1 fun e w2=>e=ae (U 0)/\(w2.cell? (aj (E.A 25) 8)=some (ab 1)/\w2.frozen? (aj (E.A 25) 8)=false)/\(w2.setCell (aj (E.A 25) 8) (ab 2)).cell? (aj (E.A 25) 6)=some (af (aj (E.A 22)))/\ak 164 #[af (aj (E.A 22))] (w2.setCell (aj (E.A 25) 8) (ab 2)) fun e w3=>e=ae (.bool false)/\Hid (gF w3 E ws (nZ t) N/\cu (Of E.A [22,25]) w w3)):=bU (fun w1 hB=>by
  have h1:=h.cA hB;refine(Sw.rq hE h1.co hsact).mono ?_;rintro e w2 ⟨rfl,c2,k2⟩;have h2:gF w2 E ws {t with sact:=true} N:=h1.parts hE (k2.up (Om.of (l':=[22]) (by decide))) (by decide) c2 rfl;obtain⟨z2,b2⟩:=h2.cy;have Sc:w2.cell? (aj (E.A 25) 8)=some (ab t.phase):=b2.cell 8;rw[hp] at Sc;have h3:gF (w2.setCell (aj (E.A 25) 8) (ab 2)) E ws (nZ t) N:=h2.own hE (Ee 8 _) (ph:=2) ⟨z2,b2.set 8 _⟩;obtain⟨z3,b3⟩:=h3.cy;refine⟨rfl,⟨Sc,b2.cE 8⟩,b3.cell 6,(Sw.qk h3.co rfl).mono ?_⟩;rintro e w3 ⟨rfl,m,rfl⟩;refine⟨?_,bU ⟨h3.drewN m,(((cu.cD hB).trans (k2.up (Of.up (by decide)))).trans ((Ee 8 _).up (Of.up (by decide)))).drewN m⟩⟩
  congr 2
  rw[aA];show((t.sa:Nat):Int)≠_;omega)
 have HY:Hid (∀w',Go.Gc.mS E.K t→gF w' E ws (nZ t) N→cu (Of E.A [22,25]) w w'→mj E ws t N G w w'):=bU (fun w' hD hc hk=>⟨_,hc,hk,CJ hE.K I hp hD⟩);have HN:Hid (∀w',¬Go.Gc.mS E.K t→Below w.heap.size w w'→mj E ws t N G w w'):=bU (fun w' hD hB=>⟨_,h.cA hB,cu.cD hB,Gp I hp hD⟩);clear h b I hsact hsa;go_enter func129,ntmps129;go_wp2_with (go_at_call 162;(with_reducible refine dD.mono ?_);rintro e w1 ⟨b,rfl,y8,y6,hb⟩;cases b)
 .go_wp2_with fail
  go_end0
  exact⟨rfl,HN.out _ (fun hD=>by have:=hb.out.1.2 hD;cases this) hb.out.2⟩
 .have d1:=DS.out _ hb.out.2
  go_wp2_with (first
   | (go_at_call 163;(with_reducible refine d1.mono ?_);rintro e w2 ⟨rfl,⟨x8,f8⟩,x6,d2⟩)
   | (go_at_call 164;(with_reducible refine d2.mono ?_);rintro e w3 ⟨rfl,hZ⟩))
  go_end0
  exact⟨rfl,HY.out _ (hb.out.1.1 trivial) hZ.out.1 hZ.out.2⟩
theorem yc{w:World}{E:Env}(hE:E.Ok){ws:List Int}{t:St}{N:Int}{G:Nat→Bool}(h:gF w E ws t N)(I:fh E.K t G)(hp:t.phase=2):ak 129 #[af (aj (E.A 25))] w fun e w'=>e=ae (.tuple #[])/\mj E ws t N G w w':=by
 obtain⟨z,b⟩:=h.cy;have c8:w.cell? (aj (E.A 25) 8)=some (ab t.phase):=b.cell 8;have c6:w.cell? (aj (E.A 25) 6)=some (af (aj (E.A 22))):=b.cell 6;rw[hp] at c8;have hsact:t.sact=true:=by rw[I.sc,hp];rfl
 have dD:ak 164 #[af (aj (E.A 22))] w fun e w3=>∃b,e=ae (.bool b)/\(w3.cell? (aj (E.A 25) 8)=some (ab 2)/\w3.frozen? (aj (E.A 25) 8)=false)/\Hid ((b=true→mj E ws t N G w (w3.setCell (aj (E.A 25) 8) (ab 3)))/\(b=false→mj E ws t N G w w3)):=by
  refine(Sw.qk h.co hsact).mono ?_;rintro e w3 ⟨rfl,m,rfl⟩;have h3:=h.drewN m;obtain⟨z3,b3⟩:=h3.cy;have OP:(w.drewN m).cell? (aj (E.A 25) 8)=some (ab t.phase):=b3.cell 8;rw[hp] at OP;refine⟨_,rfl,⟨OP,b3.cE 8⟩,bU ⟨fun hb=>?_,fun hb=>?_⟩⟩
  .rw[beq_iff_eq] at hb
   exact⟨tR t,h3.own hE (Ee 8 _) (ph:=3) ⟨z3,b3.set 8 _⟩,((cu.refl _ w).drewN m).trans ((Ee 8 _).up (Of.up (by decide))),xZ I hp (by show t.sa=E.n;omega)⟩
  .rw[aA] at hb
   exact⟨t,h3,(cu.refl _ w).drewN m,ya I hp (by show t.sa≠E.n;omega)⟩
 clear h b I hsact hE;go_enter func129,ntmps129;go_wp2_with (go_at_call 164;(with_reducible refine dD.mono ?_);rintro e w1 ⟨b,rfl,⟨y8,f8⟩,hb⟩;cases b)
 .go_wp2_with fail
  go_end0
  exact⟨rfl,hb.out.2 trivial⟩
 .go_wp2_with fail
  go_end0
  exact⟨rfl,hb.out.1 trivial⟩
theorem zW{w:World}{E:Env}:ak 105 #[af (aj (E.A 25)),.bool false] w fun e w'=>e=ae (.bool false)/\w=w':=by
 go_enter func105,ntmps105;go_wp2_with fail;go_ret;exact⟨rfl,rfl⟩
theorem vX{w:World}{E:Env}(hE:E.Ok){ws:List Int}{t:St}{N:Int}{G:Nat→Bool}(h:gF w E ws t N)(I:fh E.K t G)(hp:t.phase=1\/t.phase=2):ak 105 #[af (aj (E.A 25)),.bool true] w fun e w'=>e=ae (.bool true)/\mj E ws t N G w w':=by
 obtain⟨z,b⟩:=h.cy;have c9:w.cell? (aj (E.A 25) 9)=some (U z):=b.cell 9;have f9:=b.cE 9;have DG:Hid (∀y:Int,ak 129 #[af (aj (E.A 25))] (w.setCell (aj (E.A 25) 9) (U y)) fun e w'=>e=ae (.tuple #[])/\mj E ws t N G w w'):=bU (fun y=>by
  have h1:gF (w.setCell (aj (E.A 25) 9) (U y)) E ws t N:=h.own hE (Ee 9 _) (ph:=t.phase) ⟨y,b.set 9 _⟩;have hf:∀(e:Ending) (w':World),(e=ae (.tuple #[])/\mj E ws t N G (w.setCell (aj (E.A 25) 9) (U y)) w')→e=ae (.tuple #[])/\mj E ws t N G w w':=fun e w' ⟨e1,t',e2,e3,e4⟩=>⟨e1,t',e2,((Ee 9 _).up (Of.up (by decide))).trans e3,e4⟩
  rcases hp with hp|hp
  .exact(CK hE h1 I hp).mono hf
  .exact(yc hE h1 I hp).mono hf)
 clear h b I hE hp;go_enter func105,ntmps105;go_wp2_with (go_at_call 129;(with_reducible refine(DG.out _).mono ?_);rintro e w1 ⟨rfl,hZ⟩)
 go_ret;exact⟨rfl,hZ⟩
end Cy
namespace Cy
open Go.RowKit Go.bZ Go.Gc Bd Mk Sw
theorem ui{w:World}{E:Env}{ws:List Int}{s:St}{N:Int}(h:gF w E ws s N):Hid (∀W,W=(w.alloc (.cells #[af (aj (E.A 25))] 114)).alloc (.cells #[.nilFunc,.nilFunc] 214)→Below w.heap.size w W/\(ak 130 #[af (aj (E.A 25))] W fun e w'=>e=ae (ab s.phase)/\W=w')/\(W.cell? (aj w.heap.size)=some (af (aj (E.A 25)))/\W.cell? (aj (E.A 25) 5)=some (af (aj (E.A 20)))/\W.cell? (aj (E.A 25) 6)=some (af (aj (E.A 22)))/\W.cell? (aj (w.heap.size+1))=some .nilFunc/\W.cell? (aj (w.heap.size+1) 1)=some .nilFunc/\W.frozen? (aj (w.heap.size+1))=false/\W.frozen? (aj (w.heap.size+1) 1)=false)/\cj W w.heap.size #[af (aj (E.A 25))] 114/\cj W (w.heap.size+1) #[.nilFunc,.nilFunc] 214):=bU (fun W hW=>by
 subst hW;have hB:=bA (bA (bV w.heap.size w) (av _) (.cells #[af (aj (E.A 25))] 114)) (av _) (.cells #[.nilFunc,.nilFunc] 214);have h1:=h.cA hB;obtain⟨z,b⟩:=h1.cy;have B0:=cj.gR w #[af (aj (E.A 25))] #[.nilFunc,.nilFunc] 114 214;have B1:=cj.jf w #[af (aj (E.A 25))] #[.nilFunc,.nilFunc] 114 214;exact⟨hB,tm h1,⟨B0.cell 0,b.cell 5,b.cell 6,B1.cell 0,B1.cell 1,B1.cE 0,B1.cE 1⟩,B0,B1⟩)
attribute [local irreducible] wpStill in
theorem tp{w:World}{E:Env}{ws:List Int}{s:St}{N:Int}(h:gF w E ws s N)(hp:s.phase=1):ak 106 #[af (aj (E.A 25))] w fun e w'=>e=ae (.agg #[.func (.func 131) #[af (aj (E.A 20))] #[],.func (.func 132) #[af (aj (E.A 20))] #[]])/\Below w.heap.size w w':=by
 obtain⟨W,hW⟩:=al ((w.alloc (.cells #[af (aj (E.A 25))] 114)).alloc (.cells #[.nilFunc,.nilFunc] 214));obtain⟨hB,dP,⟨c0,c5,c6,n0,n1,f0,f1⟩,B0,B1⟩:=(ui h).out W hW.symm;rw[hp] at dP;have HB:=bU hB;have xv:=bU B1;clear h hB B0 B1 c6;go_enter func106,ntmps106
 go_upto_region 1 with fail
 clear hW;go_wp2_with (go_at_call 130;(with_reducible refine dP.mono ?_);rintro e w' ⟨rfl,rfl⟩)
 go_still_tail 11,(by kernel_rfl)
 change wpList _ _ _ _ _ W.drew
 go_wp2_with fail;have r0:=(xv.out.set 0 (.func (.func 131) #[af (aj (E.A 20))] #[])).cell 0;have r1:=((xv.out.set 0 (.func (.func 131) #[af (aj (E.A 20))] #[])).set 1 (.func (.func 132) #[af (aj (E.A 20))] #[])).cell 1;refine bodyPost_ret (v:=.agg #[.func (.func 131) #[af (aj (E.A 20))] #[],.func (.func 132) #[af (aj (E.A 20))] #[]]) (by simp[results,Tryz.results106,go_sem,r0,r1]) rfl ⟨rfl,?_⟩;exact((bd HB.out).setCell (by exact Nat.le_succ _) _).setCell (by exact Nat.le_succ _) _
theorem rB{w:World}{E:Env}{ws:List Int}{s:St}{N:Int}(h:gF w E ws s N)(hp:s.phase=2):ak 106 #[af (aj (E.A 25))] w fun e w'=>e=ae (.agg #[.func (.func 133) #[] #[af (aj w.heap.size)],.func (.func 134) #[af (aj (E.A 22))] #[]])/\Below w.heap.size w w'/\cj w' w.heap.size #[af (aj (E.A 25))] 114:=by
 obtain⟨W,hW⟩:=al ((w.alloc (.cells #[af (aj (E.A 25))] 114)).alloc (.cells #[.nilFunc,.nilFunc] 214));obtain⟨hB,dP,⟨c0,c5,c6,n0,n1,f0,f1⟩,B0,B1⟩:=(ui h).out W hW.symm;rw[hp] at dP;have HB:=bU hB;have xv:=bU B1;clear h hB c5;go_enter func106,ntmps106
 go_upto_region 1 with fail
 clear hW;go_wp2_with (go_at_call 130;(with_reducible refine dP.mono ?_);rintro e w' ⟨rfl,rfl⟩)
 clear dP;have r0:=(xv.out.set 0 (.func (.func 133) #[] #[af (aj w.heap.size)])).cell 0;have r1:=((xv.out.set 0 (.func (.func 133) #[] #[af (aj w.heap.size)])).set 1 (.func (.func 134) #[af (aj (E.A 22))] #[])).cell 1;refine bodyPost_ret (v:=.agg #[.func (.func 133) #[] #[af (aj w.heap.size)],.func (.func 134) #[af (aj (E.A 22))] #[]]) (by simp[results,Tryz.results106,go_sem,r0,r1]) rfl ⟨rfl,?_,?_⟩
 .exact(HB.out.setCell (by exact Nat.le_succ _) _).setCell (by exact Nat.le_succ _) _
 .exact(B0.other (by omega) _ _).other (by omega) _ _
theorem tu{w:World}{E:Env}{ws:List Int}{s:St}{N:Int}(h:gF w E ws s N)(hp:s.phase=0\/s.phase=3):ak 106 #[af (aj (E.A 25))] w fun e w'=>e=ae (.agg #[.func (.func 135) #[] #[],.func (.func 136) #[] #[]])/\Below w.heap.size w w':=by
 obtain⟨W,hW⟩:=al ((w.alloc (.cells #[af (aj (E.A 25))] 114)).alloc (.cells #[.nilFunc,.nilFunc] 214));obtain⟨hB,dP,⟨c0,c5,c6,n0,n1,f0,f1⟩,B0,B1⟩:=(ui h).out W hW.symm;have e1:((s.phase:Int)==1)=false:=by rw[aA];omega
 have e2:((s.phase:Int)==2)=false:=by rw[aA];omega
 have HB:=bU hB;have xv:=bU B1;clear h hB c5 c6 hp;generalize s.phase=ph at *;go_enter func106,ntmps106
 go_upto_region 1 with fail
 clear hW;go_wp2_with (go_at_call 130;(with_reducible refine dP.mono ?_);rintro e w' ⟨rfl,rfl⟩)
 clear dP;have r0:=(xv.out.set 0 (.func (.func 135) #[] #[])).cell 0;have r1:=((xv.out.set 0 (.func (.func 135) #[] #[])).set 1 (.func (.func 136) #[] #[])).cell 1;refine bodyPost_ret (v:=.agg #[.func (.func 135) #[] #[],.func (.func 136) #[] #[]]) (by simp[results,Tryz.results106,go_sem,r0,r1]) rfl ⟨rfl,?_⟩
 .exact(HB.out.setCell (by exact Nat.le_succ _) _).setCell (by exact Nat.le_succ _) _
end Cy
namespace Cy
open Go.RowKit Go.bZ Go.Gc Bd Mk Sw
theorem OQ(a d:Fn)(b c e f:Array Value)(W:World):(Instr.field 214 (.agg #[.func a b c,.func d e f]) 0).run prog W=.ok (.func a b c) W:=by kernel_rfl
theorem OR(a d:Fn)(b c e f:Array Value)(W:World):(Instr.field 214 (.agg #[.func a b c,.func d e f]) 1).run prog W=.ok (.func d e f) W:=by kernel_rfl
def Cl:List Nat:=[12,13,14,15,16,17,18,19,20,21,22,24,25]
structure Made(w w':World)(E:Env)(ws:List Int)(s:St)(N:Int)(G:Nat→Bool)(b:Bool)(cR:List Int)(s':St):Prop where
 cy:gF w' E cR s' N
 rg:nc E.bs E.tn ws cR
 ch:cu (Om E Cl) w w'
 inv:Inv E.K s' G
 vs:lJ E.K s' G=lJ E.K s G
 ph:s'.phase=0↔s.phase=0
 le:Go.Gc.nu E.K s'<=Go.Gc.nu E.K s
 lt:b=true→Go.Gc.nu E.K s'<Go.Gc.nu E.K s
def mo(E:Env)(ws:List Int)(s:St)(N:Int)(G:Nat→Bool)(f:Prop)(w:World)(e:Ending)(w':World):Prop:=∃b cR s',e=ae (.bool b)/\Made w w' E ws s N G b cR s'/\(b=false→f)
theorem Made.no{w w':World}{E:Env}{ws:List Int}{s:St}{N:Int}{G:Nat→Bool}(h:gF w E ws s N)(I:Inv E.K s G)(hb:Below w.heap.size w w'):Made w w' E ws s N G false ws s:=⟨h.cA hb,nc.refl _ _ _,cu.cD hb,I,rfl,Iff.rfl,av _,fun h=>(by cases h)⟩
theorem Gs{w:World}{i z:Int}{q:Nat}(hz:z≠5):ak 133 #[U i,ab z,af (aj q)] w fun e w'=>e=ae (.bool false)/\w=w':=by
 have e1:(z==5)=false:=by rw[aA];exact hz
 go_enter func133,ntmps133;go_wp2_with fail;go_ret;exact⟨rfl,rfl⟩
theorem Gt{w:World}{E:Env}(hE:E.Ok){ws:List Int}{s:St}{N:Int}(h:gF w E ws s N)(ha:s.sact=true)(hs:s.sa<E.n){i q:Nat}(hi:i<E.hn)(hq:cj w q #[af (aj (E.A 25))] 114):ak 133 #[U i,ab 5,af (aj q)] w fun e w'=>e=ae (.bool true)/\∃cR,Co w' E cR (ji E.K s) N/\nc E.bs E.tn ws cR/\cu (Om E [22,24]) w w':=by
 have d:=Sw.qm hE h.co ha hs;obtain⟨z,b⟩:=h.cy;have c7:w.cell? (aj (E.A 25) 7)=some (U ((E.hn-1:Nat):Int)):=b.cell 7;have c6:w.cell? (aj (E.A 25) 6)=some (af (aj (E.A 22))):=b.cell 6;have cq:w.cell? (aj q)=some (af (aj (E.A 25))):=hq.cell 0;have e1:decide ((0:Int)<=(i:Int))=true:=aw (by omega);have e2:decide ((i:Int)<=((E.hn-1:Nat):Int))=true:=aw (by omega);clear h b hq;go_enter func133,ntmps133;go_wp2_with (go_at_call 134;(with_reducible refine d.mono ?_);rintro e w' ⟨rfl,hZ⟩)
 go_ret;exact⟨rfl,hZ⟩
theorem zX{w w1 w2:World}{E:Env}{ws cR:List Int}{s t:St}{N:Int}{G:Nat→Bool}(hp:s.phase≠0)(hr:nc E.bs E.tn ws cR)(hc:cu (Om E Cl) w w1)(hv:lJ E.K t G=lJ E.K s G)(hn:nu E.K t<nu E.K s)(h:mj E cR t N G w1 w2):∃s',Made w w2 E ws s N G true cR s':=by
 obtain⟨t',c,k,g⟩:=h;exact⟨t',c,hr,hc.trans (k.up (Om.of (by decide))),g.inv,g.vs.trans hv,⟨fun h=>absurd h g.ph,fun h=>absurd h hp⟩,bL (Nat.lt_of_le_of_lt g.nu hn),fun _=>Nat.lt_of_le_of_lt g.nu hn⟩
theorem tw{w w0 w1:World}{E:Env}(hE:E.Ok){ws:List Int}{s:St}{N:Int}{G:Nat→Bool}{f:Prop}(h:gF w E ws s N)(I:Inv E.K s G)(hp:s.phase=1)(hb:Below w.heap.size w w0){e:Ending}(hS:nR E ws s N f w0 e w1):∃b,e=ae (.bool b)/\ak 105 #[af (aj (E.A 25)),.bool b] w1 (mo E ws s N G f w):=by
 obtain⟨b,t,rfl,h1,h2,h3,h4⟩:=hS;refine⟨b,rfl,?_⟩;have hc:cu (Om E Cl) w w1:=(cu.cD hb).trans (h4.up (Om.of (by decide)))
 cases b with
 | true=>
  have m:=h1 rfl;have l:=m.left;obtain⟨J,hv,po,hn⟩:=Gq hE.K m I.tofh hp;have hcy:gF w1 E ws t N:=(h.cA hb).parts hE (h4.up (Om.of (l':=mU) (by decide))) (by decide) ((h.cA hb).co.vR hE h4 h3 (by decide) l.T l.used l.cZ l.sa l.sact) l.phase;refine(vX hE hcy J (.inl po)).mono ?_;rintro e w2 ⟨rfl,hg⟩;obtain⟨s',hm⟩:=zX (s:=s) (by omega) (nc.refl _ _ _) hc hv hn hg;exact⟨true,ws,s',rfl,hm,fun h=>(by cases h)⟩
 | false=>
  obtain⟨rfl,hf⟩:=h2 rfl;refine zW.mono ?_;rintro e w2 ⟨rfl,rfl⟩;have hcy:gF w1 E ws t N:=(h.cA hb).parts hE (h4.up (Om.of (l':=mU) (by decide))) (by decide) ((h.cA hb).co.vR hE h4 h3 (by decide) rfl rfl rfl rfl rfl) rfl;exact⟨false,ws,t,rfl,⟨hcy,nc.refl _ _ _,hc,I,rfl,Iff.rfl,av _,fun h=>(by cases h)⟩,fun _=>hf⟩
theorem rC{w w0 w1:World}{E:Env}(hE:E.Ok){ws:List Int}{s:St}{N:Int}{G:Nat→Bool}(h:gF w E ws s N)(I:Inv E.K s G)(hp:s.phase=2)(hb:Below w.heap.size w w0){cR:List Int}(h3:Co w1 E cR (ji E.K s) N)(hr:nc E.bs E.tn ws cR)(h4:cu (Om E [22,24]) w0 w1)(f:Prop):ak 105 #[af (aj (E.A 25)),.bool true] w1 (mo E ws s N G f w):=by
 have hc:cu (Om E Cl) w w1:=(cu.cD hb).trans (h4.up (Om.up (by decide)));obtain⟨J,hv,po,hn⟩:=Gr hE.K I.tofh hp (I.ns hp);have hcy:gF w1 E cR (ji E.K s) N:=(h.cA hb).parts hE h4 (by decide) h3 (by rw[po,hp]);refine(vX hE hcy J (.inr po)).mono ?_;rintro e w2 ⟨rfl,hg⟩;obtain⟨s',hm⟩:=zX (s:=s) (by omega) hr hc hv hn hg;exact⟨true,cR,s',rfl,hm,fun h=>(by cases h)⟩
theorem o5{w w0 w1:World}{E:Env}{ws:List Int}{s:St}{N:Int}{G:Nat→Bool}(h:gF w E ws s N)(I:Inv E.K s G)(hb:Below w.heap.size w w0)(h1:w0=w1){f:Prop}(hf:f):ak 105 #[af (aj (E.A 25)),.bool false] w1 (mo E ws s N G f w):=by
 subst h1;refine zW.mono ?_;rintro e w2 ⟨rfl,rfl⟩;exact⟨false,ws,s,rfl,Made.no h I hb,fun _=>hf⟩
theorem CL(w:World)(i:Int)(z:Int):ak 135 #[U i,ab z] w fun e w'=>e=ae (.bool false)/\w=w':=by
 go_enter func135,ntmps135;go_wp2_with fail;go_ret;exact⟨rfl,rfl⟩
theorem CM(w:World):ak 136 #[] w fun e w'=>e=ae (.bool false)/\w=w':=by
 go_enter func136,ntmps136;go_wp2_with fail;go_ret;exact⟨rfl,rfl⟩
theorem qm{w:World}{E:Env}(hE:E.Ok){ws:List Int}{s:St}{N:Int}{G:Nat→Bool}(h:gF w E ws s N)(I:Inv E.K s G)(hd:ny E.K s G){i:Nat}(hi:i<E.hn){z:Int}(iX:0<=z)(jm:z<256):ak 74 #[af (aj (E.A 25)),U i,ab z] w (mo E ws s N G True w):=by
 have hph:=I.ph;have x0:=OQ;have x1:=OR;by_cases h1:s.phase=1
 .have dW:=tp h h1
  have D:Hid (∀w0,Below w.heap.size w w0→ak 131 #[af (aj (E.A 20)),U i,ab z] w0 fun e w1=>∃b,e=ae (.bool b)/\ak 105 #[af (aj (E.A 25)),.bool b] w1 (mo E ws s N G True w)):=bU (fun w0 hb=>(Gf hE (h.cA hb).co.mp I.tofh hd h1 hi iX jm).mono (fun e w1 hS=>tw hE h I h1 hb hS));clear h I hd hE;go_enter func74,ntmps74;go_wp2_with (first
   | (go_at_call 106;(with_reducible refine dW.mono ?_);rintro e w0 ⟨rfl,hb⟩;have d:=D.out w0 hb)
   | (go_at_call 131;(with_reducible refine d.mono ?_);rintro e w1 ⟨b,rfl,dM⟩)
   | (go_at_call 105;(with_reducible refine dM.mono ?_);rintro e w2 ⟨b2,cR,s',rfl,hm⟩))
  go_ret;exact⟨b2,cR,s',rfl,hm⟩
 .by_cases h2:s.phase=2
  .have dW:=rB h h2
   have D:Hid (∀w0,Below w.heap.size w w0→cj w0 w.heap.size #[af (aj (E.A 25))] 114→ak 133 #[U i,ab z,af (aj w.heap.size)] w0 fun e w1=>∃b,e=ae (.bool b)/\ak 105 #[af (aj (E.A 25)),.bool b] w1 (mo E ws s N G True w)):=bU (fun w0 hb hq=>by
    by_cases hz:z=5
    .subst hz
     refine(Gt hE (h.cA hb) (by rw[I.sc,h2];rfl) (I.ns h2) hi hq).mono ?_;rintro e w1 ⟨rfl,cR,c1,c2,c3⟩;exact⟨true,rfl,rC hE h I h2 hb c1 c2 c3 True⟩
    .refine(Gs hz).mono ?_
     rintro e w1 ⟨rfl,hw⟩;exact⟨false,rfl,o5 h I hb hw trivial⟩)
   clear h I hd hE;go_enter func74,ntmps74;go_wp2_with (first
    | (go_at_call 106;(with_reducible refine dW.mono ?_);rintro e w0 ⟨rfl,hb,hq⟩;have d:=D.out w0 hb hq)
    | (go_at_call 133;(with_reducible refine d.mono ?_);rintro e w1 ⟨b,rfl,dM⟩)
    | (go_at_call 105;(with_reducible refine dM.mono ?_);rintro e w2 ⟨b2,cR,s',rfl,hm⟩))
   go_ret;exact⟨b2,cR,s',rfl,hm⟩
  .have dW:=tu h (by omega)
   have D:Hid (∀w0,Below w.heap.size w w0→ak 135 #[U i,ab z] w0 fun e w1=>e=ae (.bool false)/\ak 105 #[af (aj (E.A 25)),.bool false] w1 (mo E ws s N G True w)):=bU (fun w0 hb=>(CL w0 i z).mono (fun e w1 ⟨a,b⟩=>⟨a,o5 h I hb b trivial⟩));clear h I hd hE;go_enter func74,ntmps74;go_wp2_with (first
    | (go_at_call 106;(with_reducible refine dW.mono ?_);rintro e w0 ⟨rfl,hb⟩;have d:=D.out w0 hb)
    | (go_at_call 135;(with_reducible refine d.mono ?_);rintro e w1 ⟨rfl,dM⟩)
    | (go_at_call 105;(with_reducible refine dM.mono ?_);rintro e w2 ⟨b2,cR,s',rfl,hm⟩))
   go_ret;exact⟨b2,cR,s',rfl,hm⟩
theorem zY{w:World}{E:Env}(hE:E.Ok){ws:List Int}{s:St}{N:Int}{G:Nat→Bool}(h:gF w E ws s N)(I:Inv E.K s G)(hd:ny E.K s G):ak 240 #[af (aj (E.A 25))] w (mo E ws s N G (s.phase=0\/s.phase=3) w):=by
 have hph:=I.ph;have x0:=OQ;have x1:=OR;by_cases h1:s.phase=1
 .have dW:=tp h h1
  have D:Hid (∀w0,Below w.heap.size w w0→ak 132 #[af (aj (E.A 20))] w0 fun e w1=>∃b,e=ae (.bool b)/\ak 105 #[af (aj (E.A 25)),.bool b] w1 (mo E ws s N G (s.phase=0\/s.phase=3) w)):=bU (fun w0 hb=>(Gh hE (h.cA hb).co.mp I.tofh hd h1).mono (fun e w1 hS=>tw hE h I h1 hb (hS.Ke (fun hD=>absurd hD (I.nd h1)))));clear h I hd hE;go_enter func240,ntmps240;go_wp2_with (first
   | (go_at_call 106;(with_reducible refine dW.mono ?_);rintro e w0 ⟨rfl,hb⟩;have d:=D.out w0 hb)
   | (go_at_call 132;(with_reducible refine d.mono ?_);rintro e w1 ⟨b,rfl,dM⟩)
   | (go_at_call 105;(with_reducible refine dM.mono ?_);rintro e w2 ⟨b2,cR,s',rfl,hm⟩))
  go_ret;exact⟨b2,cR,s',rfl,hm⟩
 .by_cases h2:s.phase=2
  .have dW:=rB h h2
   have D:Hid (∀w0,Below w.heap.size w w0→ak 134 #[af (aj (E.A 22))] w0 fun e w1=>e=ae (.bool true)/\ak 105 #[af (aj (E.A 25)),.bool true] w1 (mo E ws s N G (s.phase=0\/s.phase=3) w)):=bU (fun w0 hb=>by
    refine(Sw.qm hE (h.cA hb).co (by rw[I.sc,h2];rfl) (I.ns h2)).mono ?_;rintro e w1 ⟨rfl,cR,c1,c2,c3⟩;exact⟨rfl,rC hE h I h2 hb c1 c2 c3 _⟩)
   clear h I hd hE;go_enter func240,ntmps240;go_wp2_with (first
    | (go_at_call 106;(with_reducible refine dW.mono ?_);rintro e w0 ⟨rfl,hb,hq⟩;have d:=D.out w0 hb)
    | (go_at_call 134;(with_reducible refine d.mono ?_);rintro e w1 ⟨rfl,dM⟩)
    | (go_at_call 105;(with_reducible refine dM.mono ?_);rintro e w2 ⟨b2,cR,s',rfl,hm⟩))
   go_ret;exact⟨b2,cR,s',rfl,hm⟩
  .have Sd:s.phase=0\/s.phase=3:=by omega
   have dW:=tu h Sd;have D:Hid (∀w0,Below w.heap.size w w0→ak 136 #[] w0 fun e w1=>e=ae (.bool false)/\ak 105 #[af (aj (E.A 25)),.bool false] w1 (mo E ws s N G (s.phase=0\/s.phase=3) w)):=bU (fun w0 hb=>(CM w0).mono (fun e w1 ⟨a,b⟩=>⟨a,o5 h I hb b Sd⟩));clear h I hd hE;go_enter func240,ntmps240;go_wp2_with (first
    | (go_at_call 106;(with_reducible refine dW.mono ?_);rintro e w0 ⟨rfl,hb⟩;have d:=D.out w0 hb)
    | (go_at_call 136;(with_reducible refine d.mono ?_);rintro e w1 ⟨rfl,dM⟩)
    | (go_at_call 105;(with_reducible refine dM.mono ?_);rintro e w2 ⟨b2,cR,s',rfl,hm⟩))
   go_ret;exact⟨b2,cR,s',rfl,hm⟩
end Cy
end Go.Proofs.YtgblmelijlgimaaGreatDoor
