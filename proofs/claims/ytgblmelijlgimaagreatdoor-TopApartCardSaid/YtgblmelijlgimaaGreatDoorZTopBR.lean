/- Parts of the proof of TopApart. -/
import Derived.Test.YtgblmelijlgimaaGreatDoorZTopBQ
set_option maxRecDepth 100000
namespace Go.Proofs.YtgblmelijlgimaaGreatDoor
open Go.Proofs.Tryz
namespace Cy
open Go.RowKit Go.bZ Go.Gc Go.Cf Cn Sl Mm Hd Bd Gy Bt Tb Pn Mk Sw Ar
open Ti (Tn)
def yR:Gi:=⟨0,0,0,0,0,0,0,0,0,0⟩
def pt(b:Nat):Value:=af (aj b)
def nl:Value:=af none
theorem Pp{w V:World}{c:cF}{t mp mw mb cO y:Nat}{ws:List Int}(H:Bs w c t mp mw mb cO ws)(h:Al 0 w V c t mp y (yC nl nl nl nl nl nl nl c.wk) 0 0 0 0 0 0 0 0 0 0 0 0 0 yR 0 0 0 0):ak 63 #[cF.val c,U t] V fun e W=>∃p g cap,e=ae (.tuple #[af (aj p),U 0])/\(W.cell? (aj y)=some (af none)/\W.frozen? (aj y)=false)/\Hid (∀V',W.setCell (aj y) (af (aj p))=V'→Al 1 w V' c t mp y (yC (pt p) nl nl nl nl nl nl c.wk) p g cap 0 0 0 0 0 0 0 0 0 0 yR 0 0 0 0):=by
 have H':=H.cA h.hB;refine(Sl.fQ H'.cf H'.k t H'.ht).mono ?_;rintro e W ⟨p,g,cap,rfl,pl,hb,l1,l2⟩;exact⟨p,g,cap,rfl,⟨(h.yb.cA hb).cell 0,(h.yb.cA hb).cE 0⟩,bU (fun V' hV=>hV▸Al.slot (p:=p) (g:=g) (cap:=cap) ⟨h.hB,h.bx,h.yb,h.ly,fun l=>absurd l (by omega),fun l=>absurd l (by omega),fun l=>absurd l (by omega),fun l=>absurd l (by omega),fun l=>absurd l (by omega),fun l=>absurd l (by omega),fun l=>absurd l (by omega),fun l=>absurd l (by omega),h.nd⟩ hb pl l1 l2 0 (pt p))⟩
theorem Pq{w V:World}{c:cF}{t mp mw mb cO y:Nat}{ws:List Int}(H:Bs w c t mp mw mb cO ws){p g cap:Nat}(h:Al 1 w V c t mp y (yC (pt p) nl nl nl nl nl nl c.wk) p g cap 0 0 0 0 0 0 0 0 0 0 yR 0 0 0 0):ak 64 #[af (aj mp),U t,af (aj p)] V fun e W=>∃b,e=ae (.tuple #[af (aj b),U 0])/\(W.cell? (aj y 2)=some (af none)/\W.frozen? (aj y 2)=false)/\Hid (∀V',W.setCell (aj y 2) (af (aj b))=V'→Al 2 w V' c t mp y (yC (pt p) nl (pt b) nl nl nl nl c.wk) p g cap b 0 0 0 0 0 0 0 0 0 yR 0 0 0 0):=by
 have H':=H.cA h.hB;refine(Bd.fQ H'.mm (h.pl (by omega)).1 (by rw[gI];have:=H.ht;omega) (Ax c H.ht) (rU H.k H.ht)).mono ?_;rintro e W ⟨b,rfl,bd,hb,l1⟩;exact⟨b,rfl,⟨(h.yb.cA hb).cell 2,(h.yb.cA hb).cE 2⟩,bU (fun V' hV=>hV▸h.body hb bd l1 2 (pt b))⟩
theorem NJ{w V:World}{c:cF}{t mp mw mb cO y:Nat}{ws:List Int}(H:Bs w c t mp mw mb cO ws){p g cap b:Nat}(h:Al 2 w V c t mp y (yC (pt p) nl (pt b) nl nl nl nl c.wk) p g cap b 0 0 0 0 0 0 0 0 0 yR 0 0 0 0):ak 65 #[af (aj p)] V fun e W=>∃a r ga,e=ae (.tuple #[af (aj a),U 0])/\(W.cell? (aj y 1)=some (af none)/\W.frozen? (aj y 1)=false)/\Hid (∀V',W.setCell (aj y 1) (af (aj a))=V'→Al 3 w V' c t mp y (yC (pt p) (pt a) (pt b) nl nl nl nl c.wk) p g cap b a r ga 0 0 0 0 0 0 yR 0 0 0 0):=by
 refine(Ar.fQ (h.pl (by omega)).1 (rU H.k H.ht)).mono ?_;rintro e W ⟨a,r,ga,rfl,ar,hb,l1,l2,l3⟩;exact⟨a,r,ga,rfl,⟨(h.yb.cA hb).cell 1,(h.yb.cA hb).cE 1⟩,bU (fun V' hV=>hV▸h.Po hb ar l1 l2 l3 1 (pt a))⟩
theorem LU{c:cF}(k:Go.Cf.Ok c){t:Nat}(ht:t<c.ts.length):1<=ld c t/\ld c t<=1024:=⟨k.a1 _ (mI ht),k.a2 _ (mI ht)⟩
structure Pr(w V:World)(c:cF)(t:Nat):Prop where
 b2:V.cell? (aj w.heap.size 2)=some (ai (aj c.gt c.ot) c.ts.length c.ct)
 b3:V.cell? (aj w.heap.size 3)=some (U c.wk)
 b4:V.cell? (aj w.heap.size 4)=some (U c.gy)
 b5:V.cell? (aj w.heap.size 5)=some (U c.gn)
 ca:V.cell? (aj c.gt (c.ot+t*4+2))=some (U (ld c t))
theorem Al.Qj{lv:Nat}{w V:World}{c:cF}{t mp mw mb cO y:Nat}{ws:List Int}(H:Bs w c t mp mw mb cO ws){arr:Array Value}{p g cap b a r ga t1 tg q q2 q3 q4:Nat}{i:Gi}{p1 p2 m hg:Nat}(h:Al lv w V c t mp y arr p g cap b a r ga t1 tg q q2 q3 q4 i p1 p2 m hg):Pr w V c t:=by
 have H':=H.cA h.hB;refine⟨h.bx.cell 2,h.bx.cell 3,h.bx.cell 4,h.bx.cell 5,?_⟩;have:=(H'.cf.LD t H.ht).2.2.1;rw[this];unfold ld;rw[ao,aq H.ht]
 rfl
theorem Ay{w V W:World}{c:cF}{t:Nat}(h:Pr w V c t)(hb:Below V.heap.size V W):Pr w W c t:=by
 have e:∀{a:Addr} {v:Value},V.cell? a=some v→W.cell? a=some v:=fun {a v} hv=>(hb.cell (World.block_lt_of_cell? V _ hv)).trans hv
 exact⟨e h.b2,e h.b3,e h.b4,e h.b5,e h.ca⟩
theorem NK{w V:World}{c:cF}{t mp mw mb cO y:Nat}{ws:List Int}(H:Bs w c t mp mw mb cO ws){p g cap b a r ga:Nat}(h:Al 3 w V c t mp y (yC (pt p) (pt a) (pt b) nl nl nl nl c.wk) p g cap b a r ga 0 0 0 0 0 0 yR 0 0 0 0):ak 66 #[U (ld c t),U (c.gn)] V.drew fun e W=>∃t1 tg,e=ae (.tuple #[af (aj t1),U 0])/\(W.cell? (aj w.heap.size 2)=some (ai (aj c.gt c.ot) c.ts.length c.ct)/\W.cell? (aj w.heap.size 5)=some (U c.gn)/\W.cell? (aj c.gt (c.ot+t*4+2))=some (U (ld c t)))/\(W.cell? (aj y 3)=some (af none)/\W.frozen? (aj y 3)=false)/\Hid (∀V',W.setCell (aj y 3) (af (aj t1))=V'→Al 4 w V' c t mp y (yC (pt p) (pt a) (pt b) (pt t1) nl nl nl c.wk) p g cap b a r ga t1 tg 0 0 0 0 yR 0 0 0 0):=by
 obtain⟨a1,a2⟩:=LU H.k H.ht;have hd:=h.drew;refine(Tb.fQ V.drew (ld c t) c.gn a1 a2 H.k.n1 H.k.n2).mono ?_;rintro e W ⟨t1,tg,rfl,tb,hb,l1,l2⟩;have cf:=Ay (hd.Qj H) hb;exact⟨t1,tg,rfl,⟨cf.b2,cf.b5,cf.ca⟩,⟨(hd.yb.cA hb).cell 3,(hd.yb.cA hb).cE 3⟩,bU (fun V' hV=>hV▸hd.table hb tb l1 l2 3 (pt t1))⟩
theorem Ps{w V:World}{c:cF}{t mp mw mb cO y:Nat}{ws:List Int}(_H:Bs w c t mp mw mb cO ws){p g cap b a r ga t1 tg:Nat}(h:Al 4 w V c t mp y (yC (pt p) (pt a) (pt b) (pt t1) nl nl nl c.wk) p g cap b a r ga t1 tg 0 0 0 0 yR 0 0 0 0):(ak 68 #[af (aj p)] V fun e W=>e=ae (U (nN c t:Nat))/\V=W)/\ak 67 #[U (nN c t:Nat)] V fun e W=>∃q q2 q3 q4,e=ae (.tuple #[af (aj q),U 0])/\(W.cell? (aj y 4)=some (af none)/\W.frozen? (aj y 4)=false)/\Hid (∀V',W.setCell (aj y 4) (af (aj q))=V'→Al 5 w V' c t mp y (yC (pt p) (pt a) (pt b) (pt t1) (pt q) nl nl c.wk) p g cap b a r ga t1 tg q q2 q3 q4 yR 0 0 0 0):=by
 have pl:=(h.pl (by omega)).1;refine⟨ik pl,(Pn.kP V (nN c t) pl.jU).mono ?_⟩;rintro e W ⟨q,q2,q3,q4,rfl,pn,hb,l1,l2,l3,l4⟩;exact⟨q,q2,q3,q4,rfl,⟨(h.yb.cA hb).cell 4,(h.yb.cA hb).cE 4⟩,bU (fun V' hV=>hV▸h.pins hb pn l1 l2 l3 l4 4 (pt q))⟩
theorem Pt{w V:World}{c:cF}{t mp mw mb cO y:Nat}{ws:List Int}(H:Bs w c t mp mw mb cO ws){p g cap b a r ga t1 tg q q2 q3 q4:Nat}(h:Al 5 w V c t mp y (yC (pt p) (pt a) (pt b) (pt t1) (pt q) nl nl c.wk) p g cap b a r ga t1 tg q q2 q3 q4 yR 0 0 0 0):ak 69 #[af (aj b),af (aj p),af (aj t1),af (aj q),U (c.wk),U (c.gy)] V.drew fun e W=>∃i p1 p2 m hg,e=ae (.tuple #[af (aj m),U 0])/\(W.cell? (aj y)=some (af (aj p))/\W.cell? (aj y 2)=some (af (aj b))/\W.cell? (aj y 3)=some (af (aj t1))/\W.cell? (aj y 4)=some (af (aj q))/\W.cell? (aj w.heap.size 3)=some (U c.wk)/\W.cell? (aj w.heap.size 4)=some (U c.gy))/\(W.cell? (aj y 5)=some (af none)/\W.frozen? (aj y 5)=false)/\Hid (∀V',W.setCell (aj y 5) (af (aj m))=V'→Al 6 w V' c t mp y (yC (pt p) (pt a) (pt b) (pt t1) (pt q) (pt m) nl c.wk) p g cap b a r ga t1 tg q q2 q3 q4 i p1 p2 m hg):=by
 have hd:=h.drew;have pl:=(hd.pl (by omega)).1;refine(Mk.fQ (hd.cx H (by omega)) (H.zr _) (rU H.k H.ht) pl.jU (by
  show nP c t<=65536;have:=jB (f:=jg c t) (b:=2048) c.cl.length (fun i hi=>(oQ H.k H.ht hi).g2);have:=H.k.c8;unfold nP;omega) (hd.tb (by omega)).1 (hd.pn (by omega)).1 (aN ..) H.k.wk ⟨H.k.g1,H.k.g2⟩ 1 (by omega) (by omega)).mono ?_
 rintro e W ⟨m,hg,p1,p2,i,rfl,hi,hb⟩;have yb:=hd.yb.cA hb.bl;have cf:=Ay (hd.Qj H) hb.bl;exact⟨i,p1,p2,m,hg,rfl,⟨yb.cell 0,yb.cell 2,yb.cell 3,yb.cell 4,cf.b3,cf.b4⟩,⟨yb.cell 5,yb.cE 5⟩,bU (fun V' hV=>hV▸hd.mark hi hb 5 (pt m))⟩
def ng(c:cF)(t mp mw mb cO cap:Nat)(A:Nat→Nat):Env:=⟨A,mp,t,cap,Dy c t,nN c t,nP c t,c.cB,mw,mb,cO,mB c,ld c t,c.gn,c.gy,c.wk+1⟩
def Ag(l:List Nat)(A:Nat→Nat):Prop:=∀i,i<l.length→A i=l.getD i 0
def Pu(b p g a r ga t1 tg q q2 q3 q4:Nat)(i:Gi)(p1 p2 m hg:Nat):List Nat:=[b,p,g,a,r,ga,t1,tg,q,q2,q3,q4,p1,p2,i.q,i.ro,i.go,i.rd,i.gd,i.rg,m,hg]
theorem Dz(n:Nat):iu n (fun _=>0)=List.replicate n 0:=by
 unfold iu;apply List.ext_getElem?;intro j;rw[aR,List.getElem?_replicate];by_cases h:j<n
 .rw[List.getElem?_range h,if_pos h];rfl
 .rw[if_neg h,List.getElem?_eq_none (by simpa using h)];rfl
theorem Al.SS{lv:Nat}{w V:World}{c:cF}{t mp mw mb cO y:Nat}{ws:List Int}(H:Bs w c t mp mw mb cO ws){arr:Array Value}{p g cap b a r ga t1 tg q q2 q3 q4:Nat}{i:Gi}{p1 p2 m hg:Nat}(h:Al lv w V c t mp y arr p g cap b a r ga t1 tg q q2 q3 q4 i p1 p2 m hg)(l:6<=lv){A:Nat→Nat}(hA:Ag (Pu b p g a r ga t1 tg q q2 q3 q4 i p1 p2 m hg) A):cY V (ng c t mp mw mb cO cap A) ws (K0 (nN c t) (ld c t) (c.wk+1)) 1/\lE V (A 3) (A 4) (A 5) (A 1) (nN c t) (fun _=>false) 0:=by
 have H':=H.cA h.hB;have e0:A 0=b:=hA 0 (by show 0<22;omega);have e1:A 1=p:=hA 1 (by show 1<22;omega);have e2:A 2=g:=hA 2 (by show 2<22;omega);have e3:A 3=a:=hA 3 (by show 3<22;omega);have e4:A 4=r:=hA 4 (by show 4<22;omega);have e5:A 5=ga:=hA 5 (by show 5<22;omega);have e6:A 6=t1:=hA 6 (by show 6<22;omega);have e7:A 7=tg:=hA 7 (by show 7<22;omega);have e8:A 8=q:=hA 8 (by show 8<22;omega);have e9:A 9=q2:=hA 9 (by show 9<22;omega);have Vm:A 10=q3:=hA 10 (by show 10<22;omega);have Vn:A 11=q4:=hA 11 (by show 11<22;omega);have SU:A 12=p1:=hA 12 (by show 12<22;omega);have Vo:A 13=p2:=hA 13 (by show 13<22;omega);have SW:A 14=i.q:=hA 14 (by show 14<22;omega);have Vp:A 15=i.ro:=hA 15 (by show 15<22;omega);have Vq:A 16=i.go:=hA 16 (by show 16<22;omega);have Vr:A 17=i.rd:=hA 17 (by show 17<22;omega);have Vs:A 18=i.gd:=hA 18 (by show 18<22;omega);have Vt:A 19=i.rg:=hA 19 (by show 19<22;omega);have Vu:A 20=m:=hA 20 (by show 20<22;omega);have SX:A 21=hg:=hA 21 (by show 21<22;omega);obtain⟨⟨gy,-⟩,i1,i2,i3,i4⟩:=h.gy (by omega);obtain⟨⟨k1,k2⟩,-,-⟩:=h.mr (by omega);have ec:(ng c t mp mw mb cO cap A).c=Qi c t mp mw mb cO b p g cap:=by
  show(⟨A 0,mp,t,A 1,A 2,cap,Dy c t,nN c t,nP c t,c.cB,mw,mb,cO,mB c⟩:Bc)=_;rw[e0,e1,e2]
  rfl
 have ei:(ng c t mp mw mb cO cap A).i=i:=by
  show(⟨A 14,A 15,A 16,A 17,A 18,A 19,A 1,nN c t,nP c t,c.gy⟩:Gi)=i;rw[SW,Vp,Vq,Vr,Vs,Vt,e1,←i1,←i2,←i3,←i4]
 refine⟨⟨by rw[ec];exact h.cx H (by omega),fun x _=>(H.zr x).symm,by show eP V (A 6) (A 7) _ _;rw[e6,e7];exact(h.tb (by omega)).1,aN ..,by show iV V (A 8) (A 9) (A 10) (A 11) _;rw[e8,e9,Vm,Vn];exact(h.pn (by omega)).1,aN ..,by show Tn V (A 12) (A 13) (iu _ (fun _=>0)) 1;rw[SU,Vo,Dz];exact(h.tn (by omega)).1,by rw[ei];exact gy,⟨0,?_⟩,by show cj V (A 21) _ _;rw[SX];exact k2,aN ..,H'.de,H'.d2⟩,?_⟩
 .show cj V (A 20) #[af (aj (A 0)),af (aj (A 1)),af (aj (A 6)),af (aj (A 8)),af (aj (A 12)),af (aj (A 14)),ai (aj (A 21)) (c.wk+1) (c.wk+1),U 0,.bool false,U 0] _
  rw[Vu,e0,e1,e6,e8,SU,SW,SX];exact k1
 .rw[e3,e4,e5,e1]
  exact(h.ar (by omega)).1
def Il(w:World)(c:cF)(t mp mw mb cO:Nat)(ws:List Int)(e:Ending)(w':World):Prop:=∃l cap,e=ae (.tuple #[af (aj (l.getD 25 0)),U 0])/\l.length=26/\l.Nodup/\(∀x∈l,w.heap.size<=x/\x<w'.heap.size)/\Below w.heap.size w w'/\∀A,Ag l A→gF w' (ng c t mp mw mb cO cap A) ws (K0 (nN c t) (ld c t) (c.wk+1)) 1
theorem yS{L:List Nat}(h:L.Nodup){p:List Nat}(hp:p.Nodup)(ha:∀k∈p,k<L.length):(p.map (fun k=>L.getD k 0)).Nodup:=by
 refine List.pairwise_map.2 (hp.imp_of_mem ?_);intro x z hx hz hne he;have h1:=ha x hx;have h2:=ha z hz;rw[ao,ao,aq h1,aq h2] at he;have hp:=List.pairwise_iff_getElem.1 h;rcases Nat.lt_trichotomy x z with k|k|k
 .exact hp x z h1 h2 k he
 .exact hne k
 .exact hp z x h2 h1 k he.symm
theorem Im{L p:List Nat}(ha:∀k∈p,k<L.length){x:Nat}(hx:x∈p.map (fun k=>L.getD k 0)):x∈L:=by
 obtain⟨k,hk,rfl⟩:=List.mem_map.1 hx;rw[ao,aq (ha k hk)];exact aF _
set_option maxHeartbeats 1000000 in
theorem NL{w V:World}{c:cF}{t mp mw mb cO y:Nat}{ws:List Int}(H:Bs w c t mp mw mb cO ws){p g cap b a r ga t1 tg q q2 q3 q4:Nat}{i:Gi}{p1 p2 m hg:Nat}(h:Al 6 w V c t mp y (yC (pt p) (pt a) (pt b) (pt t1) (pt q) (pt m) nl c.wk) p g cap b a r ga t1 tg q q2 q3 q4 i p1 p2 m hg):ak 70 #[af (aj p),af (aj a),af (aj b),af (aj m)] V.drew fun e W=>∃s,e=ae (.tuple #[af (aj s),U 0])/\(W.cell? (aj y)=some (af (aj p))/\W.cell? (aj y 1)=some (af (aj a))/\W.cell? (aj y 2)=some (af (aj b))/\W.cell? (aj y 5)=some (af (aj m)))/\(W.cell? (aj y 6)=some (af none)/\W.frozen? (aj y 6)=false)/\∃V7,W.setCell (aj y 6) (af (aj s))=V7/\(V7.cell? (aj y)=some (af (aj p))/\V7.cell? (aj y 1)=some (af (aj a))/\V7.cell? (aj y 2)=some (af (aj b))/\V7.cell? (aj y 5)=some (af (aj m)))/\Hid (Il w c t mp mw mb cO ws (ae (.tuple #[af (aj y),U 0])) V7):=by
 have hd:=h.drew;obtain⟨mk,ar⟩:=hd.SS H (by omega) (A:=fun j=>(Pu b p g a r ga t1 tg q q2 q3 q4 i p1 p2 m hg).getD j 0) (fun j _=>rfl);have d:=Sw.fQ mk ar (H.zr _) (rU H.k H.ht);refine Calls.mono (args:=#[af (aj p),af (aj a),af (aj b),af (aj m)]) d ?_;rintro e W ⟨s,sr,sg,rfl,sb,SY,hb,⟨l1,l2⟩,l3,l4⟩;have yb:=hd.yb.cA hb;refine⟨s,rfl,⟨yb.cell 0,yb.cell 1,yb.cell 2,yb.cell 5⟩,⟨yb.cell 6,yb.cE 6⟩,_,rfl,⟨(hd.next hb 6 (pt s)).yb.cell 0,(hd.next hb 6 (pt s)).yb.cell 1,(hd.next hb 6 (pt s)).yb.cell 2,(hd.next hb 6 (pt s)).yb.cell 5⟩,bU ?_⟩;have n:=hd.next hb 6 (pt s);have ly:=hd.LS;have lz:=h.ly;have hs:=hb.size;have ls:=sb.lt;have hc:cu (· =y) W (W.setCell (aj y 6) (pt s)):=wS (cu.refl _ W) 6 (pt s);have Vv:cj _ s _ _:=sb.bY hc (by show ¬(s=y);omega);have RA:=SY.bY hc (by show ¬(sr=y);omega) (by show ¬(sg=y);omega);have n2:=hc.size;have nd:=(hd.nd.add (l2:=[sr,sg,s]) ly (aE hs n2) (by have:=uG SY;simp;omega) (fun x hx=>by simp at hx;rcases hx with rfl|rfl|rfl <;> omega));have ndy:([y]++([p,g,b,a,r,ga,t1,tg,q,q2,q3,q4,i.q,i.ro,i.go,i.rd,i.gd,i.rg,p1,p2,hg,m]++[sr,sg,s])).Nodup:=List.nodup_append.2 ⟨by simp,nd.1,fun x hx z hz e=>by
  have:=(nd.2 z hz).1;simp at hx;omega⟩
 have hperm:([3,1,2,4,5,6,7,8,9,10,11,12,19,20,13,14,15,16,17,18,22,21,25,23,24,0]:List Nat).Nodup:=by decide
 have hall:∀k∈([3,1,2,4,5,6,7,8,9,10,11,12,19,20,13,14,15,16,17,18,22,21,25,23,24,0]:List Nat),k<26:=by decide
 have e:Pu b p g a r ga t1 tg q q2 q3 q4 i p1 p2 m hg++[s,sr,sg,y]=([3,1,2,4,5,6,7,8,9,10,11,12,19,20,13,14,15,16,17,18,22,21,25,23,24,0]:List Nat).map (fun k=>([y]++([p,g,b,a,r,ga,t1,tg,q,q2,q3,q4,i.q,i.ro,i.go,i.rd,i.gd,i.rg,p1,p2,hg,m]++[sr,sg,s])).getD k 0):=rfl;have nl:=n.LS;refine⟨Pu b p g a r ga t1 tg q q2 q3 q4 i p1 p2 m hg++[s,sr,sg,y],cap,rfl,rfl,by rw[e];exact yS ndy hperm hall,?_,n.hB,?_⟩
 .intro x hx
  rw[e] at hx;rcases bu.1 (Im hall hx) with hx|hx
  .obtain rfl:=bQ.1 hx
   exact⟨bL lz,nl⟩
  .have h1:=nd.2 x hx
   exact⟨bL (Nat.lt_trans lz h1.1),h1.2⟩
 .intro A hA
  have Vw:Ag (Pu b p g a r ga t1 tg q q2 q3 q4 i p1 p2 m hg) A:=fun j hj=>by
   have hj:j<22:=hj;rw[hA j (by show j<26;omega),ao,bj hj,ao]
  obtain⟨mk,ar⟩:=n.SS H (by omega) Vw;have f0:A 0=b:=hA 0 (by show 0<26;omega);have f1:A 1=p:=hA 1 (by show 1<26;omega);have f3:A 3=a:=hA 3 (by show 3<26;omega);have f6:A 6=t1:=hA 6 (by show 6<26;omega);have f8:A 8=q:=hA 8 (by show 8<26;omega);have f20:A 20=m:=hA 20 (by show 20<26;omega);have f22:A 22=s:=hA 22 (by show 22<26;omega);have f23:A 23=sr:=hA 23 (by show 23<26;omega);have f24:A 24=sg:=hA 24 (by show 24<26;omega);have f25:A 25=y:=hA 25 (by show 25<26;omega);refine⟨⟨mk,ar,?_,?_⟩,0,?_⟩
  .show cj _ (A 22) #[af (aj (A 3)),af (aj (A 0)),af (aj (A 20)),af (aj (A 23)),U 0,.bool false] _
   rw[f22,f3,f0,f20,f23];exact Vv
  .show ee _ (A 23) (A 24) _ _
   rw[f23,f24];exact RA
  .show cj _ (A 25) #[af (aj (A 1)),af (aj (A 3)),af (aj (A 0)),af (aj (A 6)),af (aj (A 8)),af (aj (A 20)),af (aj (A 22)),U ((c.wk+1-1:Nat):Int),ab 0,U 0] _
   rw[f25,f1,f3,f0,f6,f8,f20,f22,Nat.add_sub_cancel];exact n.yb
end Cy
namespace Cy
open Go.RowKit Go.bZ Go.Gc Go.Cf Cn Sl Mm Mk
theorem pd:(prog.info? 25).map (·.size)=some 6:=by kernel_rfl
theorem NM(b:Addr)(n k:Nat)(W:World):(binOp .eql 108 (ai (some b) n k) (ai none 0 0)).run prog W=.ok (.bool false) W:=by rfl
set_option maxHeartbeats 4000000 in
theorem fQ{w:World}{c:cF}{t mp mw mb cO:Nat}{ws:List Int}(H:Bs w c t mp mw mb cO ws):ak 46 #[cF.val c,U t,af (aj mp)] w (Il w c t mp mw mb cO ws):=by
 obtain⟨W0,sJ⟩:=al (w.alloc (.cells #[ai (aj c.gc c.oc) c.cl.length c.cc,U c.cB,ai (aj c.gt c.ot) c.ts.length c.ct,U c.wk,U c.gy,U c.gn] 25));have lO:Below w.heap.size w W0:=by rw[←sJ];exact bA (bV _ _) (av _) _
 have pV:cj W0 w.heap.size c.cells 25:=by rw[←sJ];exact cj.new _ _ _
 have H0:=H.cA lO;have dA:=yf H0.mm;have HR:Hid (∀W,Below W0.heap.size W0 W→cj W w.heap.size #[ai (aj c.gc c.oc) c.cl.length c.cc,U c.cB,ai (aj c.gt c.ot) c.ts.length c.ct,U c.wk,U c.gy,U c.gn] 25/\W.cell? (aj w.heap.size 3)=some (U c.wk)/\ak 62 #[cF.val c,U t] W fun e w'=>∃z:Int,e=ae (.tuple #[U z,U 0])/\Below W.heap.size W w'):=bU (fun W hb=>⟨pV.cA hb,(pV.cA hb).cell 3,(sR (H0.cA hb).cf H.k t H.ht).mono (fun e w' h=>⟨_,h⟩)⟩);have HY:Hid (∀W2 V,Below W0.heap.size W0 W2→W2.alloc (.cells #[af none,af none,af none,af none,af none,af none,af none,U c.wk,ab 0,U 0] 142)=V→Al 0 w V c t mp W2.heap.size (yC nl nl nl nl nl nl nl c.wk) 0 0 0 0 0 0 0 0 0 0 0 0 0 yR 0 0 0 0):=bU (fun W2 V hb hV=>by
  subst hV;have h1:Below W2.heap.size W2 (W2.alloc (.cells #[af none,af none,af none,af none,af none,af none,af none,U c.wk,ab 0,U 0] 142)):=bA (bV _ _) (av _) _;have l1:=pV.lt;have l2:=hb.size;exact⟨(lO.trans (hb.mono lO.size)).trans (h1.mono (aE lO.size l2)),(pV.cA hb).cA h1,cj.new _ _ _,by omega,fun l=>absurd l (by omega),fun l=>absurd l (by omega),fun l=>absurd l (by omega),fun l=>absurd l (by omega),fun l=>absurd l (by omega),fun l=>absurd l (by omega),fun l=>absurd l (by omega),fun l=>absurd l (by omega),by simp[Rz],fun x hx=>by simp[Rz] at hx⟩)
 have D1:=bU (fun V y h=>Pp (w:=w) (V:=V) (y:=y) H h);have D2:=bU (fun V y p g cap h=>Pq (w:=w) (V:=V) (y:=y) (p:=p) (g:=g) (cap:=cap) H h);have D3:=bU (fun V y p g cap b h=>NJ (w:=w) (V:=V) (y:=y) (p:=p) (g:=g) (cap:=cap) (b:=b) H h);have D4:=bU (fun V y p g cap b a r ga h=>NK (w:=w) (V:=V) (y:=y) (p:=p) (g:=g) (cap:=cap) (b:=b) (a:=a) (r:=r) (ga:=ga) H h);have D5:=bU (fun V y p g cap b a r ga t1 tg h=>Ps (w:=w) (V:=V) (y:=y) (p:=p) (g:=g) (cap:=cap) (b:=b) (a:=a) (r:=r) (ga:=ga) (t1:=t1) (tg:=tg) H h);have D6:=bU (fun V y p g cap b a r ga t1 tg q q2 q3 q4 h=>Pt (w:=w) (V:=V) (y:=y) (p:=p) (g:=g) (cap:=cap) (b:=b) (a:=a) (r:=r) (ga:=ga) (t1:=t1) (tg:=tg) (q:=q) (q2:=q2) (q3:=q3) (q4:=q4) H h);have D7:=bU (fun V y p g cap b a r ga t1 tg q q2 q3 q4 i p1 p2 m hg h=>NL (w:=w) (V:=V) (y:=y) (p:=p) (g:=g) (cap:=cap) (b:=b) (a:=a) (r:=r) (ga:=ga) (t1:=t1) (tg:=tg) (q:=q) (q2:=q2) (q3:=q3) (q4:=q4) (i:=i) (p1:=p1) (p2:=p2) (m:=m) (hg:=hg) H h);have X3:Hid (∀V y arr p g cap b a r ga,Al 3 w V c t mp y arr p g cap b a r ga 0 0 0 0 0 0 yR 0 0 0 0→Pr w V c t/\(w.heap.size≠y/\c.gt≠y/\y≠w.heap.size/\y≠c.gt)):=bU (fun V y arr p g cap b a r ga h=>by
  have h1:=h.ly;have h2:=(H.cf.lt H.k).2;exact⟨h.Qj H,by omega,by omega,by omega,by omega⟩)
 have X5:Hid (∀V y arr p g cap b a r ga t1 tg q q2 q3 q4,Al 5 w V c t mp y arr p g cap b a r ga t1 tg q q2 q3 q4 yR 0 0 0 0→Pr w V c t/\(w.heap.size≠y/\y≠w.heap.size)):=bU (fun V y arr p g cap b a r ga t1 tg q q2 q3 q4 h=>by
  have h1:=h.ly;exact⟨h.Qj H,by omega,by omega⟩)
 have ht:t<c.ts.length:=H.ht;have h8:c.ts.length<=8:=H.k.t8;have hnn:=NM;clear H H0 pV lO;unfold cF.val at *;go_enter func46,ntmps46;go_wp2_with (first
  | (go_at_call 61;(with_reducible refine dA.mono ?_);rintro e w1 ⟨⟨g1,n1,c1,rfl⟩,hb⟩;obtain⟨Oo,-,dR⟩:=HR.out w1 hb;have H1:=bU hb;clear hb)
  | (refine wpList_load_row rfl _ _ rfl w.heap.size rfl 25 #[ai (aj c.gc c.oc) c.cl.length c.cc,U c.cB,ai (aj c.gt c.ot) c.ts.length c.ct,U c.wk,U c.gy,U c.gn] (0,0) _ Oo underlying25 rfl pd ?_)
  | (go_at_call 62;(with_reducible refine dR.mono ?_);rintro e w2 ⟨z,rfl,hb⟩;clear Oo;obtain⟨Oo,k3,-⟩:=HR.out w2 (fj H1.out hb);obtain⟨V0,MO⟩:=al (w2.alloc (.cells #[af none,af none,af none,af none,af none,af none,af none,U c.wk,ab 0,U 0] 142));have A0:=bU (HY.out w2 V0 (fj H1.out hb) MO);clear Oo;have Oo:=A0.out.bx;unfold cF.cells at Oo;have dS:=D1.out V0 _ A0.out;clear hb)
  | (go_at_call 63;(with_reducible refine dS.mono ?_);rintro e w3 ⟨p,g,cap,rfl,⟨cz,fz⟩,hN⟩;obtain⟨V1,Ma⟩:=al (w3.setCell (aj w2.heap.size) (af (aj p)));have A1:=bU (hN.out V1 Ma);have y0:V1.cell? (aj w2.heap.size)=some (af (aj p)):=A1.out.yb.cell 0;have dB:=D2.out V1 _ _ _ _ A1.out;clear hN)
  | (go_at_call 64;(with_reducible refine dB.mono ?_);rintro e w4 ⟨b,rfl,⟨cz,fz⟩,hN⟩;obtain⟨V2,Mb⟩:=al (w4.setCell (aj w2.heap.size 2) (af (aj b)));have A2:=bU (hN.out V2 Mb);clear y0;have y0:V2.cell? (aj w2.heap.size)=some (af (aj p)):=A2.out.yb.cell 0;have dR:=D3.out V2 _ _ _ _ _ A2.out;clear hN)
  | (go_at_call 65;(with_reducible refine dR.mono ?_);rintro e w5 ⟨a,r,ga,rfl,⟨cz,fz⟩,hN⟩;obtain⟨V3,Vx⟩:=al (w5.setCell (aj w2.heap.size 1) (af (aj a)));have A3:=bU (hN.out V3 Vx);clear hN))
 obtain⟨⟨b2,-,-,b5,ca⟩,n1,n2,n3,n4⟩:=X3.out V3 _ _ _ _ _ _ _ _ _ A3.out;have dT:=D4.out V3 _ _ _ _ _ _ _ _ A3.out
 go_cut [] (fun wx=>∃t1 tg,Hid (Al 4 w wx c t mp w2.heap.size (yC (pt p) (pt a) (pt b) (pt t1) nl nl nl c.wk) p g cap b a r ga t1 tg 0 0 0 0 yR 0 0 0 0))
 case first=>
  go_region_held3 (fun w'=>w'.cell? (aj w.heap.size 2)=some (ai (aj c.gt c.ot) c.ts.length c.ct)/\w'.cell? (aj w.heap.size 5)=some (U c.gn)/\w'.cell? (aj c.gt (c.ot+t*4+2))=some (U (ld c t))) (first|(with_reducible exact⟨b2,b5,ca⟩)|(with_reducible exact⟨x2,x5,xa⟩)|go_keep)
   ((first
    | (go_at_call 66;refine dT.mono ?_;rintro e w9 ⟨t1,tg,rfl,⟨x2,x5,xa⟩,⟨cz,fz⟩,hN⟩)))
  all_goals
   go_wp2_with fail
   go_meet
   exact⟨_,_,bU (hN.out _ rfl)⟩
 case rest=>
 obtain⟨t1,tg,A4⟩:=hcut;have y0:wc.cell? (aj w2.heap.size)=some (af (aj p)):=A4.out.yb.cell 0;obtain⟨dL,dP⟩:=D5.out wc _ _ _ _ _ _ _ _ _ _ A4.out;clear b2 b5 ca n1 n2 n3 n4 dT;go_wp2_with (first
  | (go_at_call 68;(with_reducible refine dL.mono ?_);rintro e w6 ⟨rfl,rfl⟩)
  | (go_at_call 67;(with_reducible refine dP.mono ?_);rintro e w7 ⟨q,q2,q3,q4,rfl,⟨cz,fz⟩,hN⟩;obtain⟨V5,Vy⟩:=al (w7.setCell (aj w2.heap.size 4) (af (aj q)));have A5:=bU (hN.out V5 Vy);clear hN))
 obtain⟨⟨-,b3,b4,-,-⟩,n1,n2⟩:=X5.out V5 _ _ _ _ _ _ _ _ _ _ _ _ _ _ _ A5.out;have dM:=D6.out V5 _ _ _ _ _ _ _ _ _ _ _ _ _ _ A5.out;clear y0;have y0:V5.cell? (aj w2.heap.size)=some (af (aj p)):=A5.out.yb.cell 0;have y2:V5.cell? (aj w2.heap.size 2)=some (af (aj b)):=A5.out.yb.cell 2;have y3:V5.cell? (aj w2.heap.size 3)=some (af (aj t1)):=A5.out.yb.cell 3;have y4:V5.cell? (aj w2.heap.size 4)=some (af (aj q)):=A5.out.yb.cell 4
 go_cut [] (fun wx=>∃i p1 p2 m hg,Hid (Al 6 w wx c t mp w2.heap.size (yC (pt p) (pt a) (pt b) (pt t1) (pt q) (pt m) nl c.wk) p g cap b a r ga t1 tg q q2 q3 q4 i p1 p2 m hg))
 case first=>
  go_region_held3 (fun w'=>w'.cell? (aj w2.heap.size)=some (af (aj p))/\w'.cell? (aj w2.heap.size 2)=some (af (aj b))/\w'.cell? (aj w2.heap.size 3)=some (af (aj t1))/\w'.cell? (aj w2.heap.size 4)=some (af (aj q))/\w'.cell? (aj w.heap.size 3)=some (U c.wk)/\w'.cell? (aj w.heap.size 4)=some (U c.gy)) (first|(with_reducible exact⟨y0,y2,y3,y4,b3,b4⟩)|(with_reducible exact⟨x0,x2,x3,x4,x5,x6⟩)|(rw[SZ];with_reducible exact⟨r0,r2,r3,r4,r5,r6⟩)|go_keep)
   ((first
    | (go_at_call 69;refine dM.mono ?_;rintro e w9 ⟨i,p1,p2,m,hg,rfl,⟨x0,x2,x3,x4,x5,x6⟩,⟨cz,fz⟩,hN⟩;obtain⟨V6,SZ⟩:=al (w9.setCell (aj w2.heap.size 5) (af (aj m)));have A6:=bU (hN.out V6 SZ);have⟨r5,r6⟩:V6.cell? (aj w.heap.size 3)=some (U c.wk)/\V6.cell? (aj w.heap.size 4)=some (U c.gy):=⟨A6.out.bx.cell 3,A6.out.bx.cell 4⟩;have r0:V6.cell? (aj w2.heap.size)=some (af (aj p)):=A6.out.yb.cell 0;have r2:V6.cell? (aj w2.heap.size 2)=some (af (aj b)):=A6.out.yb.cell 2;have r3:V6.cell? (aj w2.heap.size 3)=some (af (aj t1)):=A6.out.yb.cell 3;have r4:V6.cell? (aj w2.heap.size 4)=some (af (aj q)):=A6.out.yb.cell 4)))
  all_goals
   go_wp2_with fail
   go_meet
   exact⟨_,_,_,_,_,A6⟩
 case rest=>
 obtain⟨i,p1,p2,m,hg,A6⟩:=hcut;have dZ:=D7.out wc _ _ _ _ _ _ _ _ _ _ _ _ _ _ _ _ _ _ _ A6.out;clear y0 y2 y3 y4 b3 b4 n1 n2 dM;have y0:wc.cell? (aj w2.heap.size)=some (af (aj p)):=A6.out.yb.cell 0;have y1:wc.cell? (aj w2.heap.size 1)=some (af (aj a)):=A6.out.yb.cell 1;have y2:wc.cell? (aj w2.heap.size 2)=some (af (aj b)):=A6.out.yb.cell 2;have y5:wc.cell? (aj w2.heap.size 5)=some (af (aj m)):=A6.out.yb.cell 5;go_wp2_with fail;go_region_held3 (fun w'=>w'.cell? (aj w2.heap.size)=some (af (aj p))/\w'.cell? (aj w2.heap.size 1)=some (af (aj a))/\w'.cell? (aj w2.heap.size 2)=some (af (aj b))/\w'.cell? (aj w2.heap.size 5)=some (af (aj m))) (first|(with_reducible exact⟨y0,y1,y2,y5⟩)|(with_reducible exact⟨x0,x1,x2,x5⟩)|(rw[Vz];with_reducible exact⟨r0,r1,r2,r5⟩)|go_keep)
  ((first
   | (go_at_call 70;refine dZ.mono ?_;rintro e w9 ⟨s,rfl,⟨x0,x1,x2,x5⟩,⟨cz,fz⟩,V7,Vz,⟨r0,r1,r2,r5⟩,hZ⟩)))
 all_goals
  go_wp2_with fail
  go_ret2
  exact hZ.out
end Cy
end Go.Proofs.YtgblmelijlgimaaGreatDoor
