/- Parts of the proof of TopApart. -/
import Derived.Test.YtgblmelijlgimaaGreatDoorZTopAU
import Derived.Test.YtgblmelijlgimaaGreatDoorZTopAS
set_option maxRecDepth 100000
namespace Go.Proofs.YtgblmelijlgimaaGreatDoor
open Go.Proofs.Tryz
namespace Mk
open Go.RowKit Go.bZ Go.Gc Go.Shelf Sl Mm Hd Bd Gy Bt Tb Pn Ar
open Ti (Tn)
attribute [local go_sem] Oper.semAt_some
theorem cY.names{w:World}{E:Env}{ws:List Int}{s:St}{N:Int}(h:cY w E ws s N):(∀i,i<22→(i<3\/5<i)→E.A i<w.heap.size)/\E.mp<w.heap.size/\E.mw<w.heap.size/\E.mb<w.heap.size/\0<w.heap.size/\2<w.heap.size:=by
 obtain⟨f,ring,g⟩:=h.gy;obtain⟨z,b0⟩:=h.b0;obtain⟨rest,t,qJ⟩:=h.cx.pl.b1;have hb:E.mb<w.heap.size:=World.block_lt_of_cell? w _ (h.cx.mm.b2 0 (by have:=h.cx.mm.two;omega));refine⟨fun i h1 h2=>?_,h.cx.mm.b0.lt,h.cx.mm.b1.lt,hb,by have:=h.d2;omega,h.d2⟩;have:i=0\/i=1\/i=2\/i=6\/i=7\/i=8\/i=9\/i=10\/i=11\/i=12\/i=13\/i=14\/i=15\/i=16\/i=17\/i=18\/i=19\/i=20\/i=21:=by omega
 rcases this with rfl|rfl|rfl|rfl|rfl|rfl|rfl|rfl|rfl|rfl|rfl|rfl|rfl|rfl|rfl|rfl|rfl|rfl|rfl
 .exact cj.lt h.cx.bd
 .exact h.cx.pl.b0.lt
 .exact qJ.lt
 .exact h.tb.b0.lt
 .exact h.tb.b1.lt
 .exact h.pn.b0.lt
 .exact h.pn.b1.lt
 .exact h.pn.row.lt.1
 .exact h.pn.row.lt.2
 .exact h.tn.lt.1
 .exact h.tn.lt.2
 .exact g.b0.lt
 .exact g.ro.lt.1
 .exact g.ro.lt.2
 .exact g.rd.lt.1
 .exact g.rd.lt.2
 .exact g.b1.lt
 .exact b0.lt
 .exact h.b1.lt
theorem cY.tk{S:Nat→Prop}{w w':World}{E:Env}{ws:List Int}{s:St}{N:Int}(h:cY w E ws s N)(hc:cu S w w')(no:∀i,i<22→(i<3\/5<i)→¬S (E.A i))(f:¬S E.mp/\¬S E.mw/\¬S E.mb/\¬S 0/\¬S 2):cY w' E ws s N:=by
 obtain⟨f1,f2,f3,f4,f5⟩:=f;obtain⟨z,b0⟩:=h.b0;exact⟨h.cx.bY hc f4 (no 0 (by omega) (by omega)) (no 1 (by omega) (by omega)) (no 2 (by omega) (by omega)) f1 f2 f3,h.mem,h.tb.bY hc (no 6 (by omega) (by omega)) (no 7 (by omega) (by omega)),h.el,h.pn.bY hc (no 8 (by omega) (by omega)) (no 9 (by omega) (by omega)) (no 10 (by omega) (by omega)) (no 11 (by omega) (by omega)),h.cl,
  ib h.tn hc (no 12 (by omega) (by omega)) (no 13 (by omega) (by omega)),h.gy.bY hc (fun k hk=>by rcases hk with rfl|rfl|rfl|rfl|rfl|rfl <;> exact no _ (by omega) (by omega)),⟨z,b0.bY hc (no 20 (by omega) (by omega))⟩,h.b1.bY hc (no 21 (by omega) (by omega)),h.hl,iQ h.de h.d2 hc f5,aB h.d2 hc.size⟩
theorem mh{B:Nat}{w w':World}(hb:Below B w w'):cu (fun k=>B<=k) w w':=⟨hb.os,hb.tape,hb.output,hb.size,fun k _ hk=>hb.block k (Nat.lt_of_not_le hk)⟩
theorem cY.iv{w0 w w':World}{E:Env}{ws cR:List Int}{s s':St}{N N':Int}{B:Nat}(h0:cY w0 E cR s' N')(h:cY w E ws s N)(hb:Below B w w')(hB:w0.heap.size<=B):cY w' E ws s N:=by
 obtain⟨n1,n2,n3,n4,n5,n6⟩:=h0.names;exact h.tk (mh hb) (fun i h1 h2=>by have:=n1 i h1 h2;omega) ⟨by omega,by omega,by omega,by omega,by omega⟩
structure HB(w W V:World)(E:Env)(ws:List Int)(s:St)(N:Int):Prop where
 sz:W.heap.size<=V.heap.size
 st:∃t,iB E.K s t/\cj V (w.heap.size+1) #[.bool true] 4/\cY V E ws t N/\cu (Of E.A mU) w V
theorem HB.iv{w W V V':World}{E:Env}{ws:List Int}{s:St}{N:Int}(hH:HB w W V E ws s N)(h:cY w E ws s N)(hb:Below W.heap.size V V')(hW:w.heap.size+2<=W.heap.size):HB w W V' E ws s N:=by
 obtain⟨hsz,t,e1,e2,e3,e4⟩:=hH;exact⟨aE hsz hb.size,t,e1,e2.bY (mh hb) (by omega),cY.iv h e3 hb (by omega),e4.tr (mh hb) (fun k h1 h2=>by have h2:W.heap.size<=k:=h2;omega)⟩
set_option maxHeartbeats 2000000 in
theorem CG{w:World}{E:Env}(hE:E.Ok){ws:List Int}{s:St}{N:Int}(h:cY w E ws s N){G:Nat→Bool}(I:fh E.K s G)(hd:ny E.K s G)(hp:s.phase=1){i:Nat}{k:Hand}(he:s.hs[i]?=some k)(hk:k.is=true):ak 132 #[af (aj (E.A 20))] w fun e w'=>e=ae (.bool true)/\∃t,iB E.K s t/\cY w' E ws t N/\cu (Of E.A mU) w w':=by
 have ha:s.act=true:=by rw[I.ac,hp];rfl
 have dj:Below w.heap.size w ((w.alloc (.cells #[af (aj (E.A 20))] 139)).alloc (.cells #[.bool false] 4)):=bA (bA (bV _ _) (av _) _) (av _) _;have dA:=gJ (h.cA dj);rw[ha] at dA;have din:=callsIn_wide.1 (qn 0 (E.A 20) ((w.alloc (.cells #[af (aj (E.A 20))] 139)).alloc (.cells #[.bool false] 4)));refine(callsIn_wide (n:=3)).1 ?_;refine callsIn_of_wp_marks func132 rfl trivial ?_ rfl;simp only[ntmps132,aP,aC,aV,Nat.reduceAdd,Nat.reduceSub,aL,aK,aT,aM,aU,aX];refine wpIn_wide.2 ?_;go_wp2_with (first|(go_at_call 165;refine dA.mono ?_;rintro e w' ⟨rfl,rfl⟩)|(go_at_call 167;refine din.mono ?_;rintro e w' ⟨rfl,rfl⟩))
 refine(wpIn_wide (n:=3)).1 ?_;have q0:=(cj.gR w #[af (aj (E.A 20))] #[.bool false] 139 4).alloc (.cells #[af (aj (E.A 20))] 139);have qr:=(cj.jf w #[af (aj (E.A 20))] #[.bool false] 139 4).alloc (.cells #[af (aj (E.A 20))] 139);have q1:cj (((w.alloc (.cells #[af (aj (E.A 20))] 139)).alloc (.cells #[.bool false] 4)).alloc (.cells #[af (aj (E.A 20))] 139)) (w.heap.size+1+1) #[af (aj (E.A 20))] 139:=by
  have:=cj.new ((w.alloc (.cells #[af (aj (E.A 20))] 139)).alloc (.cells #[.bool false] 4)) #[af (aj (E.A 20))] 139
  rwa [World.size_alloc,World.size_alloc] at this
 obtain⟨W,hW⟩:=al (((w.alloc (.cells #[af (aj (E.A 20))] 139)).alloc (.cells #[.bool false] 4)).alloc (.cells #[af (aj (E.A 20))] 139));have hB:Below w.heap.size w W:=by rw[←hW];exact bA (bA (bA (bV _ _) (av _) _) (av _) _) (av _) _
 have sW:W.heap.size=w.heap.size+1+1+1:=by rw[←hW];simp
 rw[hW] at q1 q0 qr ⊢;clear hW dA din;have h2:=h.cA hB;obtain⟨z,b0⟩:=h2.b0;have b1:=h2.b1;have hl:=h2.hl;have QQ:=hE.h2;have hgl:E.A 21<W.heap.size:=b1.lt;have hhs:#[Value.pointer (some ⟨E.A 0,0,none⟩),af (aj (E.A 1)),af (aj (E.A 6)),af (aj (E.A 8)),af (aj (E.A 12)),af (aj (E.A 14)),ai (aj (E.A 21)) E.hn E.hn,U s.root,.bool s.act,U z][6]?=some (ai (aj (E.A 21)) s.hs.length s.hs.length):=by rw[hl];rfl
 refine wpIn_rangeFunc_ownG rfl (by omega) (gf:=220) (lb:=#[af (aj (w.heap.size+1+1))]) rfl trivial (enters_of func220 (by kernel_rfl) rfl)
  (kW 2 (by omega) (w.heap.size+1+1) (E.A 20) (E.A 21) s.hs (by omega) (fun k=>k<W.heap.size) hgl W q1 b0 hhs b1) Same.trans (fun W l _ o' qd _ _ _=>Same.put (by intro k hk;exact hk) W l o' qd) (bV _ _) (fun _=>rfl)
  (fun pre V=>pre=[]/\Below W.heap.size W V)
  (fun c pre V=>c=.ret/\HB w W V E ws s N) ?hI ?hIx ?h0
  (fun x=>{tmps:=#[af (aj (E.A 20)),af (aj w.heap.size),af (aj (w.heap.size+1)),U x.val,undef,af (aj (E.A 20)),.bool true,.bool false,af (aj (E.A 20)),.func (.func 220) #[] #[af (aj (w.heap.size+1+1))],U x.val,undef,undef,undef,undef,undef,undef,undef,undef,undef,undef,undef,undef,undef,undef,undef,undef,undef,undef,undef,undef,undef,undef],defers:=[]}) ?assign ?body ?done ?stop
 case hI=>exact fJ (fun _ V hV=>hV.2.size) (fun _ V V' hV hb=>⟨hV.1,hV.2.trans hb⟩)
 case hIx=>exact fun c=>fJ (fun _ V hV=>hV.2.sz) (fun _ V V' hV hb=>⟨hV.1,hV.2.iv h hb (by omega)⟩)
 case h0=>exact⟨rfl,bV _ _⟩
 case assign=>
  intro l x V K hK
  gi_wp2
  have e8:(#[10].zip #[Value.int .i64 x.val]:Array (Nat×Value))=#[(10,U x.val)]:=by simp
  simpa[e8] using hK
 case body=>
  rintro l pre x V ⟨rfl,hV⟩ _;have hBV:Below w.heap.size w V:=hB.trans (hV.mono (by omega));have c0:=(q0.cA hV).cell 0;have hx:s.hs[x.val]?=some s.hs[x.val]:=aq x.property.1;have hxi:s.hs[x.val].is=true:=by rw[←uh x.property.1];exact x.property.2
  have BR:=qr.cA hV;have hg:∀m,CallsIn Fence.wide m prog 131 #[af (aj (E.A 20)),U x.val,ab 3] V fun e w'=>e=ae (.bool true)/\w'.cell? (aj (w.heap.size+1))=some (.bool false)/\w'.frozen? (aj (w.heap.size+1))=false/\Hid (KeepsFrom W.heap.size V (w'.setCell (aj (w.heap.size+1)) (.bool true))/\HB w W (w'.setCell (aj (w.heap.size+1)) (.bool true)) E ws s N):=fun m=>callsIn_wide.2 ((zR hE (h.cA hBV) I hd hp hx hxi).mono (fun e w' ⟨a,t,b1,b2,b3⟩=>by
   have hno:¬Of E.A mU (w.heap.size+1):=h.lt (by omega);have B2:=BR.bY b3 hno;have k1:cu (fun k=>Of E.A mU k\/k=w.heap.size+1) V (w'.setCell (aj (w.heap.size+1)) (.bool true)):=cu.stored (S:=fun k=>Of E.A mU k\/k=w.heap.size+1) (b3.up (fun _ hk=>.inl hk)) (p:=w.heap.size+1) (.inl (.inr rfl)) _ _;have hsz:=b3.size;have T8:=hV.size;refine⟨a,B2.cell 0,B2.cE 0,bU ⟨gP k1 (fun k hk=>?_),⟨by have:=k1.size;omega,t,b1,B2.set 0 _,?_,?_⟩⟩⟩
   .rcases hk with hk|rfl
    .have:¬w.heap.size<=k:=fun Ec=>h.lt Ec hk
     omega
    .omega
   .exact cY.iv h b2 (((bV (w.heap.size+1) w').setCell (av _) (.bool true))) (by omega)
   .exact((cu.cD hBV).trans b3).stored (.inr (by omega)) _ _))
  clear h I hd hB q0 q1 qr b0 b1 hl hhs hV hBV BR he hx hxi hE hgl;generalize x.val=y at *
  gi_wp2_with (refine⟨trivial,?_⟩;gi_at_call 131;refine(CallsIn.inRound l (hg _)).mono ?_;rintro e w' ⟨rfl,y1,y2,hZ⟩)
  exact⟨hZ.out.1,rfl,hZ.out.2⟩
 case done=>
  rintro D ys V hD rfl ⟨hy,_⟩ _
  exfalso
  have hi:=(au.1 he).1;have:i∈gO (iP (pQ s.hs) s.hs.length s.hs.length):=(jz _ _).2 ⟨hi,hi,by unfold pQ;rw[he];exact hk⟩;rw[hy] at this;simp[gO] at this
 case stop=>
  rintro D c pre V hD ⟨j,hj,hpre⟩ ⟨rfl,hH⟩ hK;obtain⟨hsz,t,e1,e2,e3,e4⟩:=hH;have kM:=bU e2;clear e2
  gi_wp2
  have kD:cu (fun k=>k=D) V (V.putObj D (.deferred none)):=(cu.refl (fun k=>k=D) V).put (.inl rfl) _;have c4:=(kM.out.bY kD (by omega)).cell 0;refine⟨by simp,.inl ⟨_,_,rfl,run_takeDeferred hK,?_⟩⟩;refine⟨.bool true,?_,rfl,t,e1,?_,?_⟩
  .simp[results,Tryz.f132,go_sem,c4]
  .exact e3.tk kD (fun i h1 h2=>by have:=h.names.1 i h1 h2;omega) (by obtain⟨-,n2,n3,n4,n5,n6⟩:=h.names;exact⟨by omega,by omega,by omega,by omega,by omega⟩)
  .exact e4.tr kD (fun k h1 h2=>absurd h1 (by have h2:k=D:=h2;omega))
end Mk
namespace Mk
open Go.RowKit Go.bZ Go.Gc Go.Shelf Sl Mm Hd Bd Gy Bt Tb Pn Ar
open Ti (Tn)
attribute [local go_sem] Oper.semAt_some
structure HN(w V:World)(D:Nat)(E:Env)(ws:List Int)(t:St)(N:Int):Prop where
 mp:cY V E ws t N
 bx:cj V w.heap.size #[af (aj (E.A 20))] 139
 br:cj V (w.heap.size+1) #[.bool false] 4
 de:V.heap[D]?=some (.deferred (some []))
 ch:cu (Of E.A mU) w V
def QT(w:World)(D:Nat)(E:Env)(ws:List Int)(s:St)(N:Int)(f:Prop)(e:Ending)(w':World):Prop:=∃b,e=ae (.bool b)/\w'.cell? (aj w.heap.size)=some (af (aj (E.A 20)))/\w'.cell? (aj (w.heap.size+1))=some (.bool false)/\w'.frozen? (aj (w.heap.size+1))=false/\Hid (∃t,HN w w' D E ws t N/\(b=true→iB E.K s t)/\(b=false→t=s/\f))
theorem HN.step{w V:World}{D:Nat}{E:Env}{ws:List Int}{s:St}{N:Int}(h:HN w V D E ws s N){uO:List Int}{s0:St}{N0:Int}(hw:cY w E uO s0 N0)(hD:w.heap.size<=D){f:Prop}{i:Nat}{z:Int}(c:ak 131 #[af (aj (E.A 20)),U i,ab z] V (nR E ws s N f V)):
  ak 131 #[af (aj (E.A 20)),U i,ab z] V (QT w D E ws s N f):=by
 refine c.mono ?_;rintro e w' ⟨b,t,rfl,h1,h2,h3,h4⟩;have b1:=h.bx.bY h4 (hw.lt (av _));have b2:=h.br.bY h4 (hw.lt (by omega));exact⟨b,rfl,b1.cell 0,b2.cell 0,b2.cE 0,bU ⟨t,⟨h3,b1,b2,(h4.block D (aD.1 h.de).1 (hw.lt hD)).trans h.de,h.ch.trans h4⟩,h1,h2⟩⟩
theorem HN.fin{w V:World}{D:Nat}{E:Env}{ws:List Int}{t:St}{N:Int}(h:HN w V D E ws t N){uO:List Int}{s0:St}{N0:Int}(hw:cY w E uO s0 N0)(hD:w.heap.size+2<=D)(b:Bool):
  (V.setCell (aj (w.heap.size+1)) (.bool b)).heap[D]?=some (.deferred (some []))/\((V.setCell (aj (w.heap.size+1)) (.bool b)).putObj D (.deferred none)).cell? (aj (w.heap.size+1))=some (.bool b)/\cY ((V.setCell (aj (w.heap.size+1)) (.bool b)).putObj D (.deferred none)) E ws t N/\cu (Of E.A mU) w ((V.setCell (aj (w.heap.size+1)) (.bool b)).putObj D (.deferred none)):=by
 have k1:cu (fun k=>k=w.heap.size+1\/k=D) V (V.setCell (aj (w.heap.size+1)) (.bool b)):=cu.stored (S:=fun k=>k=w.heap.size+1\/k=D) (cu.refl _ V) (p:=w.heap.size+1) (.inl (.inl rfl)) _ _;have kd:cu (fun k=>k=D) (V.setCell (aj (w.heap.size+1)) (.bool b)) ((V.setCell (aj (w.heap.size+1)) (.bool b)).putObj D (.deferred none)):=(cu.refl (fun k=>k=D) _).put (.inl rfl) _;have k2:=k1.trans (kd.up (fun k hk=>.inr hk));obtain⟨n1,n2,n3,n4,n5,n6⟩:=hw.names;refine⟨(Below.heap_setCell V ⟨w.heap.size+1,0,none⟩ _ D (by show D≠w.heap.size+1;omega)).trans h.de,((h.br.set 0 (.bool b)).bY kd (by omega)).cell 0,h.mp.tk k2 (fun i h1 h2=>by have:=n1 i h1 h2;omega) ⟨by omega,by omega,by omega,by omega,by omega⟩,h.ch.tr k2 (fun k h1 h2=>absurd h1 (by omega))⟩
set_option maxHeartbeats 2000000 in
theorem CI{w:World}{E:Env}(hE:E.Ok){ws:List Int}{s:St}{N:Int}(h:cY w E ws s N){G:Nat→Bool}(I:fh E.K s G)(hp:s.phase=1)(he:∀k∈s.hs,k.is=false):ak 132 #[af (aj (E.A 20))] w (nR E ws s N (Go.Gc.mS E.K s) w):=by
 have ha:s.act=true:=by rw[I.ac,hp];rfl
 have hf:∀x,x<s.hs.length→pQ s.hs x=false:=fun x hx=>by rw[uh hx];exact he _ (aF hx)
 have dj:Below w.heap.size w ((w.alloc (.cells #[af (aj (E.A 20))] 139)).alloc (.cells #[.bool false] 4)):=bA (bA (bV _ _) (av _) _) (av _) _;have dA:=gJ (h.cA dj);rw[ha] at dA;have din:=callsIn_wide.1 (qn 0 (E.A 20) ((w.alloc (.cells #[af (aj (E.A 20))] 139)).alloc (.cells #[.bool false] 4)));refine(callsIn_wide (n:=3)).1 ?_;refine callsIn_of_wp_marks func132 rfl trivial ?_ rfl;simp only[ntmps132,aP,aC,aV,Nat.reduceAdd,Nat.reduceSub,aL,aK,aT,aM,aU,aX];refine wpIn_wide.2 ?_;go_wp2_with (first|(go_at_call 165;refine dA.mono ?_;rintro e w' ⟨rfl,rfl⟩)|(go_at_call 167;refine din.mono ?_;rintro e w' ⟨rfl,rfl⟩))
 refine(wpIn_wide (n:=3)).1 ?_;have q0:=(cj.gR w #[af (aj (E.A 20))] #[.bool false] 139 4).alloc (.cells #[af (aj (E.A 20))] 139);have qr:=(cj.jf w #[af (aj (E.A 20))] #[.bool false] 139 4).alloc (.cells #[af (aj (E.A 20))] 139);have q1:cj (((w.alloc (.cells #[af (aj (E.A 20))] 139)).alloc (.cells #[.bool false] 4)).alloc (.cells #[af (aj (E.A 20))] 139)) (w.heap.size+1+1) #[af (aj (E.A 20))] 139:=by
  have:=cj.new ((w.alloc (.cells #[af (aj (E.A 20))] 139)).alloc (.cells #[.bool false] 4)) #[af (aj (E.A 20))] 139
  rwa [World.size_alloc,World.size_alloc] at this
 obtain⟨W,hW⟩:=al (((w.alloc (.cells #[af (aj (E.A 20))] 139)).alloc (.cells #[.bool false] 4)).alloc (.cells #[af (aj (E.A 20))] 139));have hB:Below w.heap.size w W:=by rw[←hW];exact bA (bA (bA (bV _ _) (av _) _) (av _) _) (av _) _
 have sW:W.heap.size=w.heap.size+1+1+1:=by rw[←hW];simp
 rw[hW] at q1 q0 qr ⊢;clear hW dA din;have h2:=h.cA hB;obtain⟨z,b0⟩:=h2.b0;have b1:=h2.b1;have hl:=h2.hl;have QQ:=hE.h2;have hgl:E.A 21<W.heap.size:=b1.lt;have hhs:#[Value.pointer (some ⟨E.A 0,0,none⟩),af (aj (E.A 1)),af (aj (E.A 6)),af (aj (E.A 8)),af (aj (E.A 12)),af (aj (E.A 14)),ai (aj (E.A 21)) E.hn E.hn,U s.root,.bool s.act,U z][6]?=some (ai (aj (E.A 21)) s.hs.length s.hs.length):=by rw[hl];rfl
 refine wpIn_rangeFunc_ownG rfl (by omega) (gf:=220) (lb:=#[af (aj (w.heap.size+1+1))]) rfl trivial (enters_of func220 (by kernel_rfl) rfl)
  (kW 2 (by omega) (w.heap.size+1+1) (E.A 20) (E.A 21) s.hs (by omega) (fun k=>k<W.heap.size) hgl W q1 b0 hhs b1) Same.trans (fun W l _ o' qd _ _ _=>Same.put (by intro k hk;exact hk) W l o' qd) (bV _ _) (fun _=>rfl)
  (fun _ V=>Below W.heap.size W V)
  (fun _ _ _=>False) ?hI ?hIx ?h0
  (fun x=>{tmps:=#[af (aj (E.A 20)),af (aj w.heap.size),af (aj (w.heap.size+1)),U x.val,undef,af (aj (E.A 20)),.bool true,.bool false,af (aj (E.A 20)),.func (.func 220) #[] #[af (aj (w.heap.size+1+1))],U x.val,undef,undef,undef,undef,undef,undef,undef,undef,undef,undef,undef,undef,undef,undef,undef,undef,undef,undef,undef,undef,undef,undef],defers:=[]}) ?assign ?body ?done ?stop
 case hI=>exact fJ (fun _ V hV=>hV.size) (fun _ V V' hV hb=>hV.trans hb)
 case hIx=>exact fun c=>fJ (fun _ V hV=>hV.elim) (fun _ V V' hV _=>hV.elim)
 case h0=>exact bV _ _
 case assign=>exact fun l x=>absurd x.property.2 (by rw[hf x.val x.property.1];simp)
 case body=>exact fun l pre x=>absurd x.property.2 (by rw[hf x.val x.property.1];simp)
 case done=>
  rintro D ys V hD rfl hV hK;have hBV:Below w.heap.size w V:=hB.trans (hV.mono (by omega));have hDw:w.heap.size+2<=D:=by have:=sW;omega
  have H0:HN w V D E ws s N:=⟨h.cA hBV,q0.cA hV,qr.cA hV,hK,cu.cD hBV⟩;have h1:=hE.h1;have hgt:s.hs[E.hn-1]?=some (s.hs[E.hn-1]'(by rw[hl];omega)):=aq _;have hgi:=he _ (aH hgt);have e9:((E.hn:Int)-1)=((E.hn-1:Nat):Int):=by omega
  have D2:=HN.step H0 h (by omega) (zT hE H0.mp I hp hgt hgi);have D1:Hid (∀V1,HN w V1 D E ws s N→ak 131 #[af (aj (E.A 20)),U ((E.hn-1:Nat):Int),ab 1] V1 (QT w D E ws s N (s.root=E.L+E.n))):=bU (fun V1 H1=>HN.step H1 h (by omega) (zS hE H1.mp I hp hgt));have D4:Hid (∀V1,HN w V1 D E ws s N→ak 131 #[af (aj (E.A 20)),U ((E.hn-1:Nat):Int),ab 4] V1 (QT w D E ws s N (s.wa=s.we/\(s.q≠[]\/∀p,p<E.pg→s.dq p=false)))):=bU (fun V1 H1=>HN.step H1 h (by omega) (zU hE H1.mp I hp hgt hgi));obtain⟨z2,b2⟩:=H0.mp.b0;have c6:V.cell? (aj (E.A 20) 6)=some (ai (aj (E.A 21)) E.hn E.hn):=b2.cell 6;have cb:V.cell? (aj w.heap.size)=some (af (aj (E.A 20))):=H0.bx.cell 0;have HF:Hid (∀V1 t b,HN w V1 D E ws t N→_):=bU (fun V1 t b (H1:HN w V1 D E ws t N)=>H1.fin h hDw b);have HS:Hid (s.q=[]→s.root=E.L+E.n→(s.wa=s.we/\(s.q≠[]\/∀p,p<E.pg→s.dq p=false))→Go.Gc.mS E.K s):=bU (fun g1 g2 g3=>xC hE.K I he g1 g2 g3.1 (g3.2.resolve_left (fun hq=>hq g1)));clear hBV hDw hK hV b2 h q1 q0 qr hhs hl hB b0 b1 hgl he hD H0 I hgt hgi hE hf
  dsimp only
  go_wp2_with (go_at_call 131;(with_reducible refine D2.mono ?_);rintro e w1 ⟨b,rfl,y0,y1,y2,hZ⟩;cases b)
  .go_wp2_with (go_at_call 131;(with_reducible refine(D1.out _ (by obtain⟨t,k1,-,k2⟩:=hZ.out;exact(k2 trivial).1▸k1)).mono ?_);rintro e w2 ⟨b,rfl,z0,z1,z2,hY⟩;cases b)
   .go_wp2_with (go_at_call 131;(with_reducible refine(D4.out _ (by obtain⟨t,k1,-,k2⟩:=hY.out;exact(k2 trivial).1▸k1)).mono ?_);rintro e w3 ⟨b,rfl,x0,x1,x2,hX⟩)
    obtain⟨t,k1,k2,k3⟩:=hX.out;have hF:=HF.out _ _ b k1;go_wp2_with fail;refine⟨by simp,.inl ⟨_,_,rfl,run_takeDeferred hF.1,?_⟩⟩;refine⟨.bool b,by simp[results,Tryz.f132,go_sem,hF.2.1],b,t,rfl,k2,fun h=>⟨(k3 h).1,HS.out (by obtain⟨_,_,-,k⟩:=hZ.out;exact(k trivial).2) (by obtain⟨_,_,-,k⟩:=hY.out;exact(k trivial).2) (k3 h).2⟩,hF.2.2.1,hF.2.2.2⟩
   .obtain⟨t,k1,k2,k3⟩:=hY.out
    have hX:=HF.out _ _ true k1;go_wp2_with fail;refine⟨by simp,.inl ⟨_,_,rfl,run_takeDeferred hX.1,?_⟩⟩;refine⟨.bool true,by simp[results,Tryz.f132,go_sem,hX.2.1],true,t,rfl,fun _=>k2 trivial,fun h=>(by cases h),hX.2.2.1,hX.2.2.2⟩
  .obtain⟨t,k1,k2,k3⟩:=hZ.out
   have hX:=HF.out _ _ true k1;go_wp2_with fail;refine⟨by simp,.inl ⟨_,_,rfl,run_takeDeferred hX.1,?_⟩⟩;refine⟨.bool true,by simp[results,Tryz.f132,go_sem,hX.2.1],true,t,rfl,fun _=>k2 trivial,fun h=>(by cases h),hX.2.2.1,hX.2.2.2⟩
 case stop=>exact fun D c pre V hD _ hF=>hF.elim
end Mk
namespace Mk
open Go.RowKit Go.bZ Go.Gc Gy
theorem zV(l:List Hand):(∃(i:Nat) (k:Hand),l[i]?=some k/\k.is=true)\/∀k∈l,k.is=false:=by
 by_cases c:∀k∈l,k.is=false
 .exact .inr c
 .refine .inl (Classical.byContradiction fun hn=>c fun k hk=>?_)
  obtain⟨i,hi⟩:=List.getElem?_of_mem hk
  cases e:k.is
  .rfl
  .exact absurd ⟨i,k,hi,e⟩ hn
theorem Gg{w:World}{E:Env}(hE:E.Ok){ws:List Int}{s:St}{N:Int}{G:Nat→Bool}(h:cY w E ws s N)(I:fh E.K s G)(hp:s.phase=1):ak 162 #[af (aj (E.A 20))] w fun e w'=>∃b,e=ae (.bool b)/\(b=true↔Go.Gc.mS E.K s)/\Below w.heap.size w w':=by
 have ha:s.act=true:=by rw[I.ac,hp];rfl
 rcases zV s.hs with⟨i,k,he,hk⟩|he
 .refine(Cz hE h ha he hk).mono ?_
  rintro e w' ⟨rfl,hb⟩;exact⟨false,rfl,⟨fun h=>(by cases h),fun hD=>by have:=hD.1 k (aH he);rw[hk] at this;cases this⟩,hb⟩
 .have hEm:∃em:Bool,(em=true↔(s.q=[]/\s.wa=s.we/\∀x,s.eI x=false))/\∀W,Below w.heap.size w W→ak 210 #[af (aj (E.A 14))] W fun e w'=>e=ae (.bool em)/\Below W.heap.size W w':=by
   cases hq:s.q with
   | cons x l=>
    refine⟨false,⟨fun h=>(by cases h),fun h=>(by cases h.1)⟩,fun W hW=>?_⟩;have g:=(h.cA hW).gy;rw[hq] at g;exact xI (i:=E.i) g
   | nil=>
    have hww:=I.ww;by_cases c:s.wa<s.we
    .refine⟨false,⟨fun h=>(by cases h),fun h=>(by have:=h.2.1;omega)⟩,fun W hW=>?_⟩
     have g:=(h.cA hW).gy;rw[hq] at g;exact xJ (i:=E.i) g c
    .have hw:s.wa=s.we:=by omega
     refine⟨@decide (∀x,s.eI x=false) (Classical.propDecidable _),⟨fun h=>⟨rfl,hw,@of_decide_eq_true _ (Classical.propDecidable _) h⟩,fun h=>@decide_eq_true _ (Classical.propDecidable _) h.2.2⟩,fun W hW=>?_⟩;have g:=(h.cA hW).gy;rw[hq,←hw] at g;refine(xK (i:=E.i) g).mono ?_;rintro e w' ⟨b,rfl,hb,hB⟩;refine⟨?_,hB⟩
     congr 2
     rw[Bool.eq_iff_iff,hb];exact⟨fun h=>@decide_eq_true _ (Classical.propDecidable _) h,fun h=>@of_decide_eq_true _ (Classical.propDecidable _) h⟩
  obtain⟨em,hem,hc⟩:=hEm;refine(CD hE h ha he (fun _=>hc)).mono ?_;rintro e w' ⟨rfl,hb⟩;refine⟨_,rfl,?_,hb⟩;rw[Bool.and_eq_true,decide_eq_true_iff,hem];exact⟨fun⟨a,b,c,d⟩=>⟨he,a,b,c,d⟩,fun⟨_,a,b,c,d⟩=>⟨a,b,c,d⟩⟩
theorem Gh{w:World}{E:Env}(hE:E.Ok){ws:List Int}{s:St}{N:Int}{G:Nat→Bool}(h:cY w E ws s N)(I:fh E.K s G)(hd:ny E.K s G)(hp:s.phase=1):ak 132 #[af (aj (E.A 20))] w (nR E ws s N (Go.Gc.mS E.K s) w):=by
 rcases zV s.hs with⟨i,k,he,hk⟩|he
 .exact(CG hE h I hd hp he hk).mono (fun _ _ h=>nR.yes h)
 .exact CI hE h I hp he
end Mk
namespace Cy
open Go.RowKit Go.bZ Go.Gc Bd Mk Sw
def Sa(E:Env)(ph:Nat)(z:Int):Array Value:=#[af (aj (E.A 1)),af (aj (E.A 3)),af (aj (E.A 0)),af (aj (E.A 6)),af (aj (E.A 8)),af (aj (E.A 20)),af (aj (E.A 22)),U ((E.hn-1:Nat):Int),ab ph,U z]
structure gF(w:World)(E:Env)(ws:List Int)(s:St)(N:Int):Prop where
 co:Co w E ws s N
 cy:∃z:Int,cj w (E.A 25) (Sa E s.phase z) 142
theorem gF.cA{w w':World}{E:Env}{ws:List Int}{s:St}{N:Int}(h:gF w E ws s N)(hb:Below w.heap.size w w'):gF w' E ws s N:=by
 obtain⟨z,b⟩:=h.cy;exact⟨h.co.cA hb,z,b.cA hb⟩
theorem gF.parts{w w':World}{E:Env}(hE:E.Ok){ws cR:List Int}{s t:St}{N N':Int}(h:gF w E ws s N){l:List Nat}(hc:cu (Om E l) w w')(hl:(l.all (fun i=>decide (i<64))&& !l.contains 25)=true)(ht:Co w' E cR t N')(hp:t.phase=s.phase):gF w' E cR t N':=by
 obtain⟨z,b⟩:=h.cy;simp only[Bool.and_eq_true,Bool.not_eq_true',List.contains_eq_mem,decide_eq_false_iff_not] at hl;refine⟨ht,z,?_⟩;rw[hp];exact b.bY hc (fun hk=>hk.elim (fun e=>hE.mw 25 (by omega) e) (fun hk=>Cs hE hl.1 (by omega) hl.2 hk))
theorem Ee{E:Env}{w:World}(i:Nat)(v:Value):cu (Of E.A [25]) w (w.setCell (aj (E.A 25) i) v):=(cu.refl _ w).stored (.inl ⟨25,by simp,rfl⟩) i v
theorem Co.uc{w w':World}{E:Env}(hE:E.Ok){ws:List Int}{s:St}{N:Int}(h:Co w E ws s N){l:List Nat}(hc:cu (Of E.A l) w w')(hl:l.all (fun i=>decide (i<64/\25<=i))=true):Co w' E ws s N:=by
 rw[bg] at hl;have hl:∀i∈l,i<64/\25<=i:=fun i hi=>of_decide_eq_true (hl i hi)
 have zJ:l.all (fun i=>decide (i<64))=true:=by rw[bg];exact fun i hi=>aw (hl i hi).1
 have no:∀j,j<25→¬Of E.A l (E.A j):=fun j h1=>Cs hE zJ (by omega) (fun hj=>by have:=hl j hj;omega)
 exact⟨cY.uc hE h.mp hc (by rw[bg];exact fun i hi=>aw (by have:=hl i hi;omega)),h.ar.bY hc (no 3 (by omega)) (no 4 (by omega)) (no 5 (by omega)),h.sb.bY hc (no 22 (by omega)),h.rw.bY hc (no 23 (by omega)) (no 24 (by omega))⟩
theorem gF.own{w w':World}{E:Env}(hE:E.Ok){ws:List Int}{s:St}{N:Int}(h:gF w E ws s N)(hc:cu (Of E.A [25]) w w'){ph:Nat}(hb:∃z:Int,cj w' (E.A 25) (Sa E ph z) 142):gF w' E ws {s with phase:=ph} N:=⟨(Co.uc hE h.co hc (by decide)).ph ph,hb⟩
theorem cC{w:World}{E:Env}{ws:List Int}{s:St}{N:Int}(h:gF w E ws s N):ak 111 #[af (aj (E.A 25))] w fun e w'=>e=ae (.bool false)/\w=w':=by
 obtain⟨z,b⟩:=h.cy;have c0:w.cell? (aj (E.A 25))=some (af (aj (E.A 1))):=b.cell 0;clear h b;generalize E.A 25=q at *;go_enter func111,ntmps111;go_wp2_with fail;go_ret;exact⟨rfl,rfl⟩
theorem j6{w:World}{E:Env}{ws:List Int}{s:St}{N:Int}(h:gF w E ws s N):ak 109 #[af (aj (E.A 25))] w fun e w'=>e=ae (af (aj (E.A 1)))/\w=w':=by
 have d:=cC h;obtain⟨z,b⟩:=h.cy;have c0:w.cell? (aj (E.A 25))=some (af (aj (E.A 1))):=b.cell 0;clear h b;generalize E.A 25=q at *;go_enter func109,ntmps109;go_wp2_with (go_at_call 111;refine d.mono ?_;rintro e w' ⟨rfl,rfl⟩)
 go_ret;exact⟨rfl,rfl⟩
theorem oZ{w:World}{E:Env}{ws:List Int}{s:St}{N:Int}(h:gF w E ws s N):ak 77 #[af (aj (E.A 25))] w fun e w'=>e=ae (af (aj (E.A 3)))/\w=w':=by
 have d:=cC h;obtain⟨z,b⟩:=h.cy;have c0:w.cell? (aj (E.A 25) 1)=some (af (aj (E.A 3))):=b.cell 1;clear h b;generalize E.A 25=q at *;go_enter func77,ntmps77;go_wp2_with (go_at_call 111;refine d.mono ?_;rintro e w' ⟨rfl,rfl⟩)
 go_ret;exact⟨rfl,rfl⟩
theorem ic{w:World}{E:Env}{ws:List Int}{s:St}{N:Int}(h:gF w E ws s N):ak 180 #[af (aj (E.A 25))] w fun e w'=>e=ae (af (aj (E.A 0)))/\w=w':=by
 have d:=cC h;obtain⟨z,b⟩:=h.cy;have c0:w.cell? (aj (E.A 25) 2)=some (af (aj (E.A 0))):=b.cell 2;clear h b;generalize E.A 25=q at *;go_enter func180,ntmps180;go_wp2_with (go_at_call 111;refine d.mono ?_;rintro e w' ⟨rfl,rfl⟩)
 go_ret;exact⟨rfl,rfl⟩
theorem mO{w:World}{E:Env}{ws:List Int}{s:St}{N:Int}(h:gF w E ws s N):ak 145 #[af (aj (E.A 25))] w fun e w'=>e=ae (af (aj (E.A 6)))/\w=w':=by
 have d:=cC h;obtain⟨z,b⟩:=h.cy;have c0:w.cell? (aj (E.A 25) 3)=some (af (aj (E.A 6))):=b.cell 3;clear h b;generalize E.A 25=q at *;go_enter func145,ntmps145;go_wp2_with (go_at_call 111;refine d.mono ?_;rintro e w' ⟨rfl,rfl⟩)
 go_ret;exact⟨rfl,rfl⟩
theorem rA{w:World}{E:Env}{ws:List Int}{s:St}{N:Int}(h:gF w E ws s N):ak 191 #[af (aj (E.A 25))] w fun e w'=>e=ae (af (aj (E.A 8)))/\w=w':=by
 have d:=cC h;obtain⟨z,b⟩:=h.cy;have c0:w.cell? (aj (E.A 25) 4)=some (af (aj (E.A 8))):=b.cell 4;clear h b;generalize E.A 25=q at *;go_enter func191,ntmps191;go_wp2_with (go_at_call 111;refine d.mono ?_;rintro e w' ⟨rfl,rfl⟩)
 go_ret;exact⟨rfl,rfl⟩
theorem tm{w:World}{E:Env}{ws:List Int}{s:St}{N:Int}(h:gF w E ws s N):ak 130 #[af (aj (E.A 25))] w fun e w'=>e=ae (ab s.phase)/\w=w':=by
 have d:=cC h;obtain⟨z,b⟩:=h.cy;have c0:w.cell? (aj (E.A 25) 8)=some (ab s.phase):=b.cell 8;clear h b;generalize E.A 25=q at *;go_enter func130,ntmps130;go_wp2_with (go_at_call 111;refine d.mono ?_;rintro e w' ⟨rfl,rfl⟩)
 go_ret;exact⟨rfl,rfl⟩
end Cy
end Go.Proofs.YtgblmelijlgimaaGreatDoor
