/- Parts of the proof of TopApart. -/
import Derived.Test.YtgblmelijlgimaaGreatDoorZTopAM
set_option maxRecDepth 100000
namespace Go.Gc
structure cV where
 K:eV
 gens:Nat
 fV:Nat
 ua:Int
 cl:List Nat
 first:Nat→Nat
 many:Nat→Nat
 N5:Nat→Nat→Nat
 rd:Int→Option (Nat×Nat)
 hw:Nat→Nat→Nat→Nat
 fit:Nat→Nat
 sum:List Int→Int
structure V where
 v:sU
 si:Int
 cy:Int
structure iJ where
 code:Nat
 h:Int
 a:Int
 b:Int
 x:Int
structure Sn where
 e:Int
 h:Int
 w:Int
 addr:Int
 used:Int
 since:Int
 gY:Int
 ac:Bool
def Sn.told(e:Int):Sn:=⟨e,0,0,0,0,0,0,false⟩
def jj(n:Int):Int:=if n<0 then 0 else if 4611686018427387904<n then 4611686018427387904 else n
def j3(n:Int):Int:=if n<2147483647 then n else 2147483647
def ek(es:List eG):Nat:=(es.filter (fun e=>e.state==0)).length
def ir(es:List eG):Nat:=(es.takeWhile (fun e=> !(e.state==0))).length
theorem kF:∀{es:List eG},0<ek es→∃e,es[ir es]?=some e/\e.state=0/\∀j,j<ir es→∀f,es[j]?=some f→f.state≠0
 | [],h=>by simp[ek] at h
 | a::es,h=>by
   by_cases c:a.state=0
   .have e0:ir (a::es)=0:=by simp[ir,c]
    rw[e0];exact⟨a,rfl,c,fun j hj=>absurd hj (by omega)⟩
   .have e1:ir (a::es)=ir es+1:=by simp[ir,c]
    have e2:0<ek es:=by
     unfold ek at h ⊢;rw[List.filter_cons] at h;simp[c] at h;simpa using h
    obtain⟨e,h1,h2,h3⟩:=kF e2;rw[e1];refine⟨e,by simpa using h1,h2,fun j hj f hf=>?_⟩
    match j,hf with
    | 0,hf=>simp at hf;subst hf;exact c
    | j+1,hf=>exact h3 j (by omega) f (by simpa using hf)
def lZ(T:Nat→Bool)(f:Nat):Nat→Option Nat
 | 0=>none
 | m+1=>if T f=false then some f else lZ T (f+1) m
theorem kG{T:Nat→Bool}:∀{m f x:Nat},lZ T f m=some x→f<=x/\x<f+m/\T x=false/\∀y,f<=y→y<x→T y=true
 | 0,f,x,h=>by cases h
 | m+1,f,x,h=>by
   unfold lZ at h
   split at h
   .rename_i c
    injection h with h;subst h;exact⟨av _,by omega,c,fun y h1 h2=>absurd h1 (by omega)⟩
   .rename_i c
    obtain⟨h1,h2,h3,h4⟩:=kG h;refine⟨by omega,by omega,h3,fun y h5 h6=>?_⟩;by_cases e:y=f
    .subst e;simpa using c
    .exact h4 y (by omega) h6
theorem sV{T:Nat→Bool}:∀{m f:Nat},lZ T f m=none→∀y,f<=y→y<f+m→T y=true
 | 0,_,_,_,h1,h2=>by omega
 | m+1,f,h,y,h1,h2=>by
   unfold lZ at h
   split at h
   .cases h
   .rename_i c
    by_cases e:y=f
    .subst e;simpa using c
    .exact sV h y (by omega) (by omega)
theorem sX{sz:Nat→Nat}{T:Nat→Bool}:∀n k,k<=n→fE sz T k<=fE sz T n
 | 0,k,h=>by
         obtain rfl:k=0:=by omega
         exact av _
 | n+1,k,h=>by
   by_cases e:k=n+1
   .subst e;exact av _
   .have:=sX (sz:=sz) (T:=T) n k (by omega)
    have h2:fE sz T (n+1)=fE sz T n+(if T n then sz n else 0):=rfl;omega
theorem zC{sz:Nat→Nat}{T:Nat→Bool}{c:Nat}:∀m f,(∀x,f<=x→x<f+m→T x=true/\sz x=c)→m*c<=fE sz T (f+m)
 | 0,_,_=>by omega
 | m+1,f,h=>by
   have h1:=zC m f (fun x a b=>h x a (by omega));have h2:fE sz T (f+m+1)=fE sz T (f+m)+(if T (f+m) then sz (f+m) else 0):=rfl;obtain⟨h3,h4⟩:=h (f+m) (by omega) (by omega);rw[h3,h4] at h2;rw[←Nat.add_assoc,h2,Nat.succ_mul];simp;omega
theorem oV{sz:Nat→Nat}{T:Nat→Bool}{c q n f m:Nat}(hc:0<c)(hm:m=q/c)(hn:f+m<=n)(hs:∀x,f<=x→x<f+m→sz x=c)(h:fE sz T n+c<=q):∃x,lZ T f m=some x:=by
 cases e:lZ T f m with
 | some x=>exact⟨x,rfl⟩
 | none=>
  exfalso
  have h1:=zC (sz:=sz) (T:=T) (c:=c) m f (fun x a b=>⟨sV e x a b,hs x a b⟩);have h2:=sX (sz:=sz) (T:=T) n (f+m) hn;have h3:(m+1)*c<=q:=by rw[Nat.succ_mul];omega
  have h4:m+1<=q/c:=(Nat.le_div_iff_mul_le hc).2 h3;omega
def jD(es:List eG)(i g:Nat):Option eG:=match es[i]? with|some e=>if e.state=1/\e.gen=g then some e else none|none=>none
noncomputable def V.begin(C:cV)(x:V):V:={x with v:=x.v.begin C.K,si:=0}
def V.fin(C:cV)(x:V):V:={v:=x.v.fin C.K C.gens,si:=0,cy:=jj (x.cy+1)}
noncomputable def room(C:cV)(is:V→Bool)(x:V):V:=
 let y:=if is x=false/\x.v.act=true then x.fin C else x
 if is y=false then(y.begin C).fin C else y
def fP(C:cV)(x:V)(h:Int):Option (Nat×eG):=match C.rd h with|some (i,g)=>(jD x.v.es i g).map (fun e=>(i,e))|none=>none
def ia(_C:cV)(x:V)(s:Nat):V:={x with v:={x.v with es:=x.v.es.set (ir x.v.es) ⟨1,s,(x.v.es.getD (ir x.v.es) ⟨0,0,0⟩).gen⟩}}
def iC(C:cV)(x:V):Int:=(C.N5 (ir x.v.es) (x.v.es.getD (ir x.v.es) ⟨0,0,0⟩).gen:Nat)
noncomputable def iO(C:cV)(x:V)(n:Int):V:=
 if jj (x.si+n)<C.ua then {x with si:=jj (x.si+n)} else if x.v.act then({x with si:=0}:V).fin C else({x with si:=0}:V).begin C
def jI(C:cV)(x:V)(s k:Nat)(r u:Nat):V:={x with v:={x.v with T:=cP x.v.T s true,used:=x.v.used+(C.cl.getD k 0:Nat),M:=made C.K x.v.M s (C.hw k r u:Nat)}}
noncomputable def jr(C:cV)(x:V)(r u:Nat):V×Sn:=
 let k:=C.fit (r+u+1)
 if k<C.cl.length then
  let y:=room C (fun z=>decide (z.v.used+(C.cl.getD k 0:Nat)<=C.fV)&&decide (0<ek z.v.es)) x
  if ¬(y.v.used+(C.cl.getD k 0:Nat)<=C.fV) then(y,Sn.told 100)
  else if ¬(0<ek y.v.es) then(y,Sn.told 131)
  else match lZ y.v.T (C.first k) (C.many k) with
   | some s=>(iO C (ia C (jI C y s k r u) s) (C.cl.getD k 0:Nat),{Sn.told 0 with h:=iC C y,addr:=(C.K.addr s:Nat)})
   | none=>(y,Sn.told 0)
 else(x,Sn.told 50)
def dx(C:cV)(x:V)(s i:Nat):Int:=x.v.M (C.K.addr s+1+i)
noncomputable def zD(C:cV)(x:V)(s:Nat)(i:Int):V×Sn:=
 match cU C.K x.v.M s with
 | none=>(x,Sn.told 110)
 | some (r,u)=>
  if i<0\/(r+u:Nat)<=i then(x,Sn.told 110)
  else if(r:Int)<=i then(x,{Sn.told 0 with w:=dx C x s i.toNat})
  else if dx C x s i.toNat=0 then(x,Sn.told 0)
  else
   let y:=room C (fun z=>decide (0<ek z.v.es)) x
   if ¬(0<ek y.v.es) then(y,Sn.told 131)
   else(ia C y (dx C x s i.toNat-1).toNat,{Sn.told 0 with h:=iC C y})
def gu(C:cV)(x:V)(s i:Nat)(z:Int):V:={x with v:={x.v with M:=cP x.v.M (C.K.addr s+1+i) z}}
def ub(C:cV)(x:V)(s:Nat)(i z:Int):V×Sn:=
 match cU C.K x.v.M s with
 | none=>(x,Sn.told 110)
 | some (r,u)=>
  if i<0\/(r+u:Nat)<=i then(x,Sn.told 110)
  else if(r:Int)<=i then(gu C x s i.toNat z,Sn.told 0)
  else if z=0 then(gu C x s i.toNat 0,Sn.told 0)
  else match fP C x z with
   | none=>(x,Sn.told 130)
   | some (_,e)=>(gu C x s i.toNat (e.slot+1:Nat),Sn.told 0)
def q9(x:V)(s:Nat)(n:Int):V:={x with v:={x.v with cs:=x.v.cs.set s n}}
def jJ(x:V)(s:Nat):V×Sn:=if x.v.cs.getD s 0<255 then(q9 x s (x.v.cs.getD s 0+1),Sn.told 0) else(x,Sn.told 140)
def kV(x:V)(s:Nat):V×Sn:=if x.v.cs.getD s 0=0 then(x,Sn.told 140) else(q9 x s (x.v.cs.getD s 0-1),Sn.told 0)
def lh(x:V)(i:Nat)(e:eG):V×Sn:=({x with v:={x.v with es:=x.v.es.set i {e with state:=2}}},Sn.told 0)
def vI(C:cV)(x:V)(s:Nat):V×Sn:=
 match cU C.K x.v.M s with
 | none=>(x,{Sn.told 0 with w:=C.sum []})
 | some (r,u)=>(x,{Sn.told 0 with w:=C.sum ((List.range u).map fun j=>dx C x s (r+j))})
noncomputable def iD(C:cV)(x:V)(q:iJ):V×Sn:=
 if q.code=0\/8<=q.code then(x,Sn.told 250)
 else if q.code=1 then(if 0<=q.a/\0<=q.b/\q.a+q.b<=63 then jr C x q.a.toNat q.b.toNat else(x,Sn.told 50))
 else match fP C x q.h with
  | none=>(x,Sn.told 130)
  | some (i,e)=>
   let p:=if q.code=2 then zD C x e.slot q.a else if q.code=3 then ub C x e.slot q.a q.x else if q.code=4 then jJ x e.slot else if q.code=5 then kV x e.slot else if q.code=6 then lh x i e else vI C x e.slot
   (p.1,{p.2 with addr:=(C.K.addr e.slot:Nat)})
noncomputable def jk(C:cV)(x:V)(q:iJ):V×Sn:=
 let p:=iD C x q
 let s:=if p.2.e=0 then p.2 else Sn.told p.2.e
 (p.1,{s with used:=p.1.v.used,since:=j3 p.1.si,gY:=j3 p.1.cy,ac:=p.1.v.act})
noncomputable def pN(C:cV)(x:V):List iJ→List Sn
 | []=>[]
 | q::l=>(jk C x q).2::pN C (jk C x q).1 l
end Go.Gc
namespace Go.Proofs.YtgblmelijlgimaaGreatDoor
open Go.Proofs.Tryz
namespace Ar
open Go.RowKit Go.bZ Go.Gc Sl Bt
structure lE(w:World)(a r g p n:Nat)(T:Nat→Bool)(u:Int):Prop where
 b0:cj w a #[af (aj p),af (aj r),U u] 183
 rw:ee w r g n T
 n1:a≠r
 n2:a≠g
theorem lE.bY{S:Nat→Prop}{w w':World}{a r g p n:Nat}{T:Nat→Bool}{u:Int}(h:lE w a r g p n T u)(hc:cu S w w')(h1:¬S a)(h2:¬S r)(h3:¬S g):lE w' a r g p n T u:=
 ⟨h.b0.bY hc h1,h.rw.bY hc h2 h3,h.n1,h.n2⟩
theorem lE.cA{w w':World}{a r g p n:Nat}{T:Nat→Bool}{u:Int}(h:lE w a r g p n T u)(hb:Below w.heap.size w w'):lE w' a r g p n T u:=h.bY (cu.cD hb) (S:=fun _=>False) id id id
theorem cC{w:World}{a r g p n:Nat}{T:Nat→Bool}{u:Int}(h:lE w a r g p n T u):ak 112 #[af (aj a)] w fun e w'=>e=ae (.bool false)/\w=w':=by
 have c1:w.cell? (aj a 1)=some (af (aj r)):=h.b0.cell 1;clear h;go_enter func112,ntmps112;go_wp2_with fail;go_ret;exact⟨rfl,rfl⟩
theorem zE{w:World}{a r g p n:Nat}{T:Nat→Bool}{u:Int}(h:lE w a r g p n T u):ak 78 #[af (aj a)] w fun e w'=>e=ae (U u)/\w=w':=by
 have d:=cC h;have c2:w.cell? (aj a 2)=some (U u):=h.b0.cell 2;clear h;go_enter func78,ntmps78;go_wp2_with (go_at_call 112;(with_reducible refine d.mono ?_);rintro e w2 ⟨rfl,rfl⟩)
 go_ret;exact⟨rfl,rfl⟩
theorem MA{w:World}{a r g p n:Nat}{T:Nat→Bool}{u:Int}(h:lE w a r g p n T u){x:Nat}(hx:x<n):ak 170 #[af (aj a),U x] w fun e w'=>e=ae (.bool (T x))/\w=w':=by
 have d:=cC h;have dg:=xl h.rw x hx;have c1:w.cell? (aj a 1)=some (af (aj r)):=h.b0.cell 1;clear h;go_enter func170,ntmps170;go_wp2_with (first|(go_at_call 112;(with_reducible refine d.mono ?_);rintro e w2 ⟨rfl,rfl⟩)|(go_at_call 221;(with_reducible refine dg.mono ?_);rintro e w2 ⟨rfl,rfl⟩))
 go_ret;exact⟨rfl,rfl⟩
theorem JF{w:World}{a r g p n q:Nat}{T:Nat→Bool}{u z:Int}(h:lE w a r g p n T u)(hq:cj w q #[af (aj a)] 135)(hz:0<=z/\z<=1000000)(hu: -1000000000000<=u/\u<=1000000000000):
  ak 232 #[U z,af (aj q)] w fun e w'=>e=ae (U (u+z))/\w=w':=by
 have c2:w.cell? (aj a 2)=some (U u):=h.b0.cell 2;have cq:w.cell? (aj q)=some (af (aj a)):=hq.cell 0;clear h hq;obtain⟨h1,h2⟩:=hz;obtain⟨h3,h4⟩:=hu;go_enter func232,ntmps232;go_wp2_with fail;go_ret;exact⟨rfl,rfl⟩
theorem JG{w:World}{a r g p n q:Nat}{T:Nat→Bool}{u z:Int}(h:lE w a r g p n T u)(hq:cj w q #[af (aj a)] 135)(hz:0<=z/\z<=1000000)(hu: -1000000000000<=u/\u<=1000000000000):
  ak 319 #[U z,af (aj q)] w fun e w'=>e=ae (U (u-z))/\w=w':=by
 have c2:w.cell? (aj a 2)=some (U u):=h.b0.cell 2;have cq:w.cell? (aj q)=some (af (aj a)):=hq.cell 0;clear h hq;obtain⟨h1,h2⟩:=hz;obtain⟨h3,h4⟩:=hu;go_enter func319,ntmps319;go_wp2_with fail;go_ret;exact⟨rfl,rfl⟩
theorem BY{w:World}{a r g p n q:Nat}{T:Nat→Bool}{u:Int}(h:lE w a r g p n T u){g2 cap pg pw k x:Nat}{rs:List Rec}{R:Rec}(hp:ff w p g2 cap rs n pg pw)(hs:eJ pw rs n pg x k R)(hx:x<n)(hz:R.size<=1000000)(hu: -1000000000000<=u/\u<=1000000000000)(hq:cj w q #[af (aj a)] 135)(hqg:q≠g):
  ak 231 #[af (aj a),U x,.bool true,.func (.func 232) #[] #[af (aj q)]] w fun e w'=>e=ae (.tuple #[])/\lE w' a r g p n (cP T x true) (u+(R.size:Int))/\cu (fun k=>k=a\/k=g) w w':=by
 have c0:w.cell? (aj a)=some (af (aj p)):=h.b0.cell 0;have ds:=qI w hp hs hx;have D2:Hid (∀W,Below w.heap.size w W→W.cell? (aj a 1)=some (af (aj r))/\ak 173 #[af (aj r),U x,.bool true] W fun e w'=>e=ae (U 0)/\ee w' r g n (lM T x true)/\cu (· =g) W w'):=bU (fun W hW=>⟨(h.b0.cA hW).cell 1,kO (h.rw.cA hW) x hx true⟩);have D3:Hid (∀W W',Below w.heap.size w W→ee W' r g n (lM T x true)→cu (· =g) W W'→cj W' a #[af (aj p),af (aj r),U u] 183/\(ak 232 #[U R.size,af (aj q)] W' fun e w'=>e=ae (U (u+(R.size:Int)))/\W'=w')/\lE (W'.setCell (aj a 2) (U (u+(R.size:Int)))) a r g p n (cP T x true) (u+(R.size:Int))/\cu (fun k=>k=a\/k=g) w (W'.setCell (aj a 2) (U (u+(R.size:Int))))):=bU (fun W W' hW hr hc=>by
  have A2:lE W' a r g p n (lM T x true) u:=⟨(h.b0.cA hW).bY hc h.n2,hr,h.n1,h.n2⟩;have h0:cu (fun k=>k=a) W' (W'.setCell (aj a 2) (U (u+(R.size:Int)))):=cu.stored (S:=fun k=>k=a) (cu.refl _ W') (p:=a) (.inl rfl) _ _;exact⟨A2.b0,JF A2 ((hq.cA hW).bY hc hqg) ⟨by omega,by omega⟩ hu,⟨A2.b0.set 2 _,hr.bY h0 (Ne.symm h.n1) (Ne.symm h.n2),h.n1,h.n2⟩,((cu.cD hW).trans (hc.up (fun k hk=>.inr hk))).trans (h0.up (fun k hk=>.inl hk))⟩)
 generalize R.size=z at *;clear h hp hs hq;go_enter func231,ntmps231;go_wp2_with (first
  | (go_at_call 152;(with_reducible refine ds.mono ?_);rintro e w2 ⟨rfl,cN⟩;obtain⟨y1,d2⟩:=D2.out w2 cN;have H2:=bU cN;clear cN)
  | (go_at_call 173;(with_reducible refine d2.mono ?_);rintro e w3 ⟨rfl,r3,k3⟩;obtain⟨B,d3,f1,f2⟩:=D3.out w2 w3 H2.out r3 k3;have F1:=bU f1;have F2:=bU f2;have y2:w3.cell? (aj a 2)=some (U u):=B.cell 2;have fz:=B.cE 2;clear B f1 f2 r3 k3)
  | (go_at_call 232;(with_reducible refine d3.mono ?_);rintro e w4 ⟨rfl,rfl⟩))
 go_end0
 exact⟨rfl,F1.out,F2.out⟩
theorem B6{w:World}{a r g p n q:Nat}{T:Nat→Bool}{u:Int}(h:lE w a r g p n T u){g2 cap pg pw k x:Nat}{rs:List Rec}{R:Rec}(hp:ff w p g2 cap rs n pg pw)(hs:eJ pw rs n pg x k R)(hx:x<n)(hz:R.size<=1000000)(hu: -1000000000000<=u/\u<=1000000000000)(hq:cj w q #[af (aj a)] 135)(hqg:q≠g):
  ak 231 #[af (aj a),U x,.bool false,.func (.func 319) #[] #[af (aj q)]] w fun e w'=>e=ae (.tuple #[])/\lE w' a r g p n (cP T x false) (u-(R.size:Int))/\cu (fun k=>k=a\/k=g) w w':=by
 have c0:w.cell? (aj a)=some (af (aj p)):=h.b0.cell 0;have ds:=qI w hp hs hx;have D2:Hid (∀W,Below w.heap.size w W→W.cell? (aj a 1)=some (af (aj r))/\ak 173 #[af (aj r),U x,.bool false] W fun e w'=>e=ae (U 0)/\ee w' r g n (lM T x false)/\cu (· =g) W w'):=bU (fun W hW=>⟨(h.b0.cA hW).cell 1,kO (h.rw.cA hW) x hx false⟩);have D3:Hid (∀W W',Below w.heap.size w W→ee W' r g n (lM T x false)→cu (· =g) W W'→cj W' a #[af (aj p),af (aj r),U u] 183/\(ak 319 #[U R.size,af (aj q)] W' fun e w'=>e=ae (U (u-(R.size:Int)))/\W'=w')/\lE (W'.setCell (aj a 2) (U (u-(R.size:Int)))) a r g p n (cP T x false) (u-(R.size:Int))/\cu (fun k=>k=a\/k=g) w (W'.setCell (aj a 2) (U (u-(R.size:Int))))):=bU (fun W W' hW hr hc=>by
  have A2:lE W' a r g p n (lM T x false) u:=⟨(h.b0.cA hW).bY hc h.n2,hr,h.n1,h.n2⟩;have h0:cu (fun k=>k=a) W' (W'.setCell (aj a 2) (U (u-(R.size:Int)))):=cu.stored (S:=fun k=>k=a) (cu.refl _ W') (p:=a) (.inl rfl) _ _;exact⟨A2.b0,JG A2 ((hq.cA hW).bY hc hqg) ⟨by omega,by omega⟩ hu,⟨A2.b0.set 2 _,hr.bY h0 (Ne.symm h.n1) (Ne.symm h.n2),h.n1,h.n2⟩,((cu.cD hW).trans (hc.up (fun k hk=>.inr hk))).trans (h0.up (fun k hk=>.inl hk))⟩)
 generalize R.size=z at *;clear h hp hs hq;go_enter func231,ntmps231;go_wp2_with (first
  | (go_at_call 152;(with_reducible refine ds.mono ?_);rintro e w2 ⟨rfl,cN⟩;obtain⟨y1,d2⟩:=D2.out w2 cN;have H2:=bU cN;clear cN)
  | (go_at_call 173;(with_reducible refine d2.mono ?_);rintro e w3 ⟨rfl,r3,k3⟩;obtain⟨B,d3,f1,f2⟩:=D3.out w2 w3 H2.out r3 k3;have F1:=bU f1;have F2:=bU f2;have y2:w3.cell? (aj a 2)=some (U u):=B.cell 2;have fz:=B.cE 2;clear B f1 f2 r3 k3)
  | (go_at_call 319;(with_reducible refine d3.mono ?_);rintro e w4 ⟨rfl,rfl⟩))
 go_end0
 exact⟨rfl,F1.out,F2.out⟩
theorem fQ{w:World}{p g cap n pg pw:Nat}{rs:List Rec}(hp:ff w p g cap rs n pg pw)(hn:0<n):
  ak 65 #[af (aj p)] w fun e w'=>∃a r g,e=ae (.tuple #[af (aj a),U 0])/\lE w' a r g p n (fun _=>false) 0/\Below w.heap.size w w'/\w.heap.size<=a/\w.heap.size<=r/\w.heap.size<=g:=by
 have hfew:=hp.jU;have ds:=ik hp;have d1:=Bt.kP w n hfew;have e1:((n:Int)==0)=false:=by rw[aA];omega
 clear hp;go_enter func65,ntmps65;go_wp2_with (first
  | (go_at_call 68;(with_reducible refine ds.mono ?_);rintro e w3 ⟨rfl,rfl⟩)
  | (go_at_call 94;(with_reducible refine d1.mono ?_);rintro e w1 ⟨r,g,rfl,IN,dj,k1,k2⟩;have R1:=bU IN;have H1:=bU dj;clear IN dj))
 go_ret2
 have l1:=R1.out.lt;exact⟨_,r,g,rfl,⟨cj.new w1 _ _,R1.out.cA (bA (bV _ _) (av _) _),by omega,by omega⟩,bA H1.out (av _) _,H1.out.size,k1,k2⟩
theorem JH{w:World}{a r g p n:Nat}{T:Nat→Bool}{u:Int}(h:lE w a r g p n T u)(hn:0<n):ak 104 #[af (aj a)] w fun e w'=>∃q,e=ae (af (aj q))/\Below w.heap.size w w':=by
 have d:=cC h;have c0:w.cell? (aj a)=some (af (aj p)):=h.b0.cell 0;have c1:w.cell? (aj a 1)=some (af (aj r)):=h.b0.cell 1;have c2:w.cell? (aj a 2)=some (U u):=h.b0.cell 2;have dc:=Bt.qC h.rw.drew hn;have HC:Hid (∀W,Below w.heap.size w W→W.cell? (aj a)=some (af (aj p))/\W.cell? (aj a 1)=some (af (aj r))/\W.cell? (aj a 2)=some (U u)):=bU (fun W hW=>⟨(h.b0.cA hW).cell 0,(h.b0.cA hW).cell 1,(h.b0.cA hW).cell 2⟩);have hB:=bd (bV w.heap.size w);have hs:w.drew.heap.size=w.heap.size:=rfl;clear h;go_enter func104,ntmps104;go_wp2_with (go_at_call 112;(with_reducible refine d.mono ?_);rintro e w2 ⟨rfl,rfl⟩)
 go_region_held3 (fun w'=>w'.cell? (aj a)=some (af (aj p))/\w'.cell? (aj a 1)=some (af (aj r))/\w'.cell? (aj a 2)=some (U u)) (first|exact⟨z0,z1,z2⟩|go_keep)
  ((go_at_call 124;refine dc.mono ?_;rintro e w3 ⟨q3,rfl,dJ⟩;obtain⟨z0,z1,z2⟩:=HC.out w3 (bT hB dJ (av _));have H3:=bU (bT hB dJ (av _));clear dJ))
 all_goals
  go_wp2_with fail;go_ret;exact⟨_,rfl,bA H3.out (av _) _⟩
end Ar
namespace Ar
open Go.RowKit Go.bZ Go.Gc Sl Bt
theorem JI{w:World}{a r g p n:Nat}{T:Nat→Bool}{u:Int}(h:lE w a r g p n T u){g2 cap pg pw k x:Nat}{rs:List Rec}{R:Rec}(hp:ff w p g2 cap rs n pg pw)(hs:eJ pw rs n pg x k R)(hx:x<n)(hz:R.size<=1000000)(hu: -1000000000000<=u/\u<=1000000000000):
  ak 317 #[af (aj a),U x] w fun e w'=>e=ae (.tuple #[])/\lE w' a r g p n (cP T x false) (u-(R.size:Int))/\cu (fun k=>k=a\/k=g) w w':=by
 have dj:=(bV _ w).alloc (av _) (.cells #[af (aj a)] 135);have d:=B6 (h.cA dj) (hp.cA dj) hs hx hz hu (cj.new w _ _) (by have:=h.rw.lt;omega);have HB:=bU dj;clear h hp hs dj;go_enter func317,ntmps317;go_wp2_with (go_at_call 231;(with_reducible refine d.mono ?_);rintro e w2 ⟨rfl,a2,k2⟩;have A2:=bU a2;have K2:=bU k2;clear a2 k2)
 go_end0
 exact⟨rfl,A2.out,(cu.cD (S:=fun k=>k=a\/k=g) HB.out).trans K2.out⟩
theorem Ft{T:Nat→Bool}{n f m x r:Nat}{ok:Bool}(h:iM T n f false r ok)(hf:lZ T f m=some x)(hn:f+m<=n):ok=true/\r=x:=by
 obtain⟨h1,h2,h3,h4⟩:=kG hf;rcases h with⟨e1,e2,e3,e4,e5⟩|⟨e1,e2,e3⟩
 .refine⟨e1,?_⟩
  rcases Nat.lt_trichotomy r x with c|c|c
  .have:=h4 r e2 c;rw[e4] at this;cases this
  .exact c
  .exact absurd h3 (e5 x h1 c)
 .exact absurd h3 (e3 x h1 (by omega))
theorem JJ{w:World}{a r g p n:Nat}{T:Nat→Bool}{u:Int}(h:lE w a r g p n T u){g2 cap pg pw k x:Nat}{rs:List Rec}{R:Rec}(hp:ff w p g2 cap rs n pg pw)(hs:eJ pw rs n pg x k R)(hx:x<n)(hk:rs[k]?=some R)(hfx:lZ T R.first R.many=some x)(hmn:R.first+R.many<=n)(hz:R.size<=1000000)(hu: -1000000000000<=u/\u<=1000000000000)(hT:TabAt 2 Lib.deBruijn64tab w)(h2:2<w.heap.size):
  ak 179 #[af (aj a),U k] w fun e w'=>e=ae (.tuple #[U x,U 0])/\lE w' a r g p n (cP T x true) (u+(R.size:Int))/\cu (fun k=>k=a\/k=g) w w':=by
 have dj:=(bV _ w).alloc (av _) (.cells #[af (aj a)] 135);have hfew:=hp.jU;have h1:=h.cA dj;have d:=cC h1;have c0:(w.alloc (.cells #[af (aj a)] 135)).cell? (aj a)=some (af (aj p)):=h1.b0.cell 0;have dof:=tQ _ (hp.cA dj) hk;have HB:=bU dj;have BQ:Hid (cj (w.alloc (.cells #[af (aj a)] 135)) w.heap.size #[af (aj a)] 135):=bU (cj.new w _ _);have hgl:=h.rw.lt;have HN:Hid (∀W,Below (w.alloc (.cells #[af (aj a)] 135)).heap.size (w.alloc (.cells #[af (aj a)] 135)) W→W.cell? (aj w.heap.size)=some (af (aj a))/\W.cell? (aj a 1)=some (af (aj r))/\(ak 230 #[af (aj r),U R.first,.bool false] W fun e w'=>∃(r:Nat) (ok:Bool),e=ae (.tuple #[U r,.bool ok])/\iM T n R.first false r ok/\Below W.heap.size W w')/\ak 231 #[af (aj a),U x,.bool true,.func (.func 232) #[] #[af (aj w.heap.size)]] W fun e w'=>e=ae (.tuple #[])/\lE w' a r g p n (cP T x true) (u+(R.size:Int))/\cu (fun k=>k=a\/k=g) W w'):=bU (fun W hW=>
  ⟨(BQ.out.cA hW).cell 0,((h1.cA hW).b0).cell 1,Bt.lN (h1.cA hW).rw R.first (by omega) false (fun j hj=>((HB.out.trans (hW.mono HB.out.size)).cell (p:=⟨2,j,none⟩) h2).trans (hT j hj)) (by have:=hW.size;simp at this;omega),BY (h1.cA hW) ((hp.cA dj).cA hW) hs hx hz hu (BQ.out.cA hW) (by omega)⟩)
 have HF:Hid (∀r ok,iM T n R.first false r ok→ok=true/\r=x):=bU (fun r ok hn=>Ft hn hfx hmn);have hfs:=kG hfx;have e1:decide (((R.first:Int)+(R.many:Int))<=(x:Int))=false:=az (by omega);have e2:(x:Int)<(R.first:Int)+(R.many:Int):=by omega
 have e3:R.first<=65536:=by omega
 have e4:R.many<=65536:=by omega
 clear h h1 hp hs dj hT hk hfx hfs hu;generalize R.first=fi at *
 generalize R.many=ma at *;generalize R.size=z at *;go_enter func179,ntmps179;go_wp2_with (first
  | (go_at_call 112;(with_reducible refine d.mono ?_);rintro e w2 ⟨rfl,rfl⟩)
  | (go_at_call 229;(with_reducible refine dof.mono ?_);rintro e w3 ⟨rfl,dJ⟩;obtain⟨yq,y1,dn,-⟩:=HN.out w3 dJ;have H3:=bU dJ;clear dJ)
  | (go_at_call 230;(with_reducible refine dn.mono ?_);rintro e w4 ⟨r4,RV,rfl,RW,ni⟩;obtain⟨rfl,rfl⟩:=HF.out _ _ RW;obtain⟨Wm,Wn,-,dt⟩:=HN.out w4 (fj H3.out ni);have H4:=bU (fj H3.out ni);clear ni RW dn)
  | (go_at_call 231;(with_reducible refine dt.mono ?_);rintro e w5 ⟨rfl,a5,k5⟩;have A5:=bU a5;have K5:=bU k5;clear a5 k5 dt))
 go_ret2
 exact⟨rfl,A5.out,((cu.cD (S:=fun k=>k=a\/k=g) HB.out).trans (cu.cD H4.out)).trans K5.out⟩
end Ar
namespace Ar
open Go.RowKit Go.bZ Go.Gc Go.Shelf Sl Bt
attribute [local go_sem] Oper.semAt_some
def Same(K:Nat→Prop)(W W':World):Prop:=W.heap.size<=W'.heap.size/\∀k,K k→k<W.heap.size→W'.heap[k]?=W.heap[k]?
theorem Same.refl(K:Nat→Prop)(W:World):Same K W W:=⟨av _,fun _ _ _=>rfl⟩
theorem Same.trans{K:Nat→Prop}{A B C:World}(h:Same K A B)(k:Same K B C):Same K A C:=⟨aE h.1 k.1,fun i hi hl=>(k.2 i hi (aB hl h.1)).trans (h.2 i hi hl)⟩
theorem Same.below{K:Nat→Prop}{W W':World}(h:Below W.heap.size W W'):Same K W W':=⟨h.size,fun k _ hl=>h.block k hl⟩
theorem Same.put{K:Nat→Prop}{B:Nat}(hK:∀k,K k→k<B)(W:World)(l:Nat)(o':Obj)(hl:B<=l):Same K W (W.putObj l o'):=
 ⟨by simp,fun k hk _=>World.putObj_heap_other (by have:=hK k hk;omega)⟩
theorem cj.pE{K:Nat→Prop}{W W':World}{b:Nat}{C:Array Value}{t:TypeId}(h:cj W b C t)(hs:Same K W W')(hk:K b):cj W' b C t:=(hs.2 b hk h.lt).trans h
theorem ee.same{K:Nat→Prop}{W W':World}{p g n:Nat}{f:Nat→Bool}(h:ee W p g n f)(hs:Same K W W')(hp:K p)(hg:K g):ee W' p g n f:=by
 obtain⟨ws,h,rfl⟩:=h;exact⟨ws,⟨cj.pE h.b0 hs hp,cj.pE h.b1 hs hg,h.ln,h.nn,h.wd,h.hi,h.ne⟩,rfl⟩
theorem Fu{K:Nat→Prop}{W W':World}(h:TabAt 2 Lib.deBruijn64tab W)(hz:2<W.heap.size)(hs:Same K W W')(h2:K 2):TabAt 2 Lib.deBruijn64tab W':=fun j hj=>(World.cell?_of_block (w:=W) (hs.2 2 h2 hz)).trans (h j hj)
def iP(f:Nat→Bool)(n:Nat):Nat→List {x:Nat//x<n/\f x=true}
 | 0=>[]
 | a+1=>iP f n a++(if h:a<n/\f a=true then[⟨a,h⟩] else[])
theorem mK(f:Nat→Bool)(n:Nat):∀a,(iP f n a).length<=a
 | 0=>av _
 | a+1=>by
   have:=mK f n a;unfold iP;rw[aJ]
   split <;> simp <;> omega
theorem rb{f:Nat→Bool}{n a:Nat}:∀b,a<=b→(∀i,a<=i→i<b→i<n→f i≠true)→iP f n b=iP f n a
 | 0,h,_=>by
         obtain rfl:a=0:=by omega
         rfl
 | b+1,h,hf=>by
   by_cases e:a=b+1
   .subst e;rfl
   .have:=rb b (by omega) (fun i h1 h2 h3=>hf i h1 (by omega) h3)
    show iP f n b++_=_;rw[this,dif_neg (fun c=>hf b (by omega) (by omega) c.1 c.2),List.append_nil]
theorem JK{f:Nat→Bool}{n a r:Nat}(h:iM f n a true r true):∃h2:r<n/\f r=true,iP f n (r+1)=iP f n a++[⟨r,h2⟩]:=by
 rcases h with⟨_,h1,h2,h3,h4⟩|⟨h1,_⟩
 .refine⟨⟨h2,h3⟩,?_⟩
  show iP f n r++_=_;rw[dif_pos ⟨h2,h3⟩,rb (a:=a) r h1 (fun i a1 a2 _=>h4 i a1 a2)]
 .cases h1
theorem JL{f:Nat→Bool}{n a r:Nat}(h:iM f n a true r false)(ha:a<=n):iP f n a=iP f n n:=by
 rcases h with⟨h1,_⟩|⟨_,_,h3⟩
 .cases h1
 .exact(rb n ha (fun i a1 a2 _=>h3 i a1 a2)).symm
def re(n:Nat)(i:Value):Value→Nat
 | .bool true=>n+1-(intOf i).toNat
 | _=>0
theorem Fv{W W':World}(h:Below W.heap.size W W'):W.grownBy W' none:=⟨h.os,h.tape,h.output,h.size,fun k hk _=>h.block k hk⟩
set_option maxHeartbeats 4000000 in
theorem Fw(m:Nat)(hm:1<=m)(l q r g n:Nat)(f:Nat→Bool)(K:Nat→Prop)(kq:K q)(kr:K r)(kg:K g)(k2:K 2)(hn:n<=65536)(J Jx:List {x:Nat//x<n/\f x=true}→World→Prop)
 (hY:∀pre x W,J pre W→pre.length<n→YieldAt Fence.wide (m-1) prog l #[U x.val] W fun e W'=>
   (e=ae (.bool true)/\J (pre++[x]) W'/\Same K W W')\/(e=ae (.bool false)/\Jx (pre++[x]) W'))
 (hAb:∀s W W',J s W→Below W.heap.size W W'→J s W')(W:World)(c1:cj W q #[af (aj r)] 179)(hr:ee W r g n f)(hT:TabAt 2 Lib.deBruijn64tab W)(hz:2<W.heap.size)(h0:J [] W):
  CallsIn Fence.wide m prog 318 #[.func (.yield l) #[] #[],af (aj q)] W fun e W'=>(∃v,e=ae v)/\
   ((∃xs,xs=iP f n n/\J xs W')\/(∃pre,(∃k,k<=n/\pre=iP f n k)/\Jx pre W')):=by
 refine callsIn_of_wp func318 rfl trivial ?_ rfl;simp only[ntmps318,aP,aC,aV,Nat.reduceAdd,Nat.reduceSub,aL,aK,aT,aM,aU,aX];have d1:W.cell? (aj q)=some (af (aj r)):=c1.cell 0;have HN:Hid (∀(W':World) (a:Nat),Same K W W'→a<=65536→∀m:Nat,CallsIn Fence.wide m prog 230 #[af (aj r),U a,.bool true] W' fun e w'=>∃(rr:Nat) (ok:Bool),e=ae (.tuple #[U rr,.bool ok])/\iM f n a true rr ok/\Below W'.heap.size W' w'):=bU (fun W' a hs ha m=>callsIn_wide.2 (Bt.lN (ee.same hr hs kr kg) a ha true (Fu hT hz hs k2) (aB hz hs.1)));have HQ:Hid (∀W':World,Same K W W'→W'.cell? (aj q)=some (af (aj r))):=bU (fun W' hs=>(cj.pE c1 hs kq).cell 0);have HY:=bU hY;have HA:=bU hAb;have H0:=bU h0;clear hY hAb h0 hT hr c1;have se:=HN.out W 0 (Same.refl K W) (by omega) (m-1)
 gi_wp2_with (refine⟨trivial,?_⟩;gi_at_call 230;refine se.mono ?_;rintro e w2 ⟨r2,RX,rfl,qO,cN⟩;have X2:=bU qO;have B2:=bU cN;clear qO cN)
 gi_loopw [3,4] (fun i is wr=>∃(a rr:Nat) (ok:Bool),a<=n/\i=U rr/\is=.bool ok/\Hid (iM f n a true rr ok)/\Hid (J (iP f n a) wr)/\Hid (Same K W wr)) (fun i is _=>re n i is)
 case atStart=>exact⟨0,r2,RX,by omega,rfl,rfl,X2,bU (HA.out _ _ _ H0.out B2.out),bU (Same.below B2.out)⟩
 case round=>
  obtain⟨a,rr,ok,ha,rfl,rfl,hN,hJ,hS⟩:=hrel
  cases ok
  .gi_wp2
   go_end0
   exact⟨⟨_,rfl⟩,.inl ⟨_,rfl,by rw[←JL hN.out ha];exact hJ.out⟩⟩
  .obtain⟨h2,hl⟩:=JK hN.out
   have hrn:=h2.1;obtain⟨fn,tmps,assign,body,hy,hR⟩:=HY.out _ ⟨rr,h2⟩ wr hJ.out (by have:=mK f n a;have h3:=congrArg List.length hl;have h4:=mK f n (rr+1);simp at h3;omega)
   dsimp only at hy
   rw[←hl] at hR;have I6:=hR.mono (R':=fun e W'=>∃b:Bool,e=ae (.bool b)/\Hid ((b=true/\J (iP f n (rr+1)) W'/\Same K wr W')\/(b=false/\Jx (iP f n (rr+1)) W'))) (by
    rintro e W' (⟨h1,h2,h3⟩|⟨h1,h2⟩)
    .exact⟨true,h1,bU (.inl ⟨rfl,h2,h3⟩)⟩
    .exact⟨false,h1,bU (.inr ⟨rfl,h2⟩)⟩)
   clear hR hl
   gi_wp2
   refine I6.mono ?_;rintro e W3 ⟨b,rfl,h3⟩;have hmeas:re n (U rr) (.bool true)=n+1-rr:=by simp[re,intOf]
   cases b
   .have h4:Jx (iP f n (rr+1)) W3:=by rcases h3.out with⟨h,_⟩|⟨_,h⟩;cases h;exact h
    have H4:=bU h4;clear h4
    gi_wp2
    refine bodyPost_ret (results_none rfl _ _ _) rfl ?_;exact⟨⟨_,rfl⟩,.inr ⟨_,⟨rr+1,by omega,rfl⟩,H4.out⟩⟩
   .have h4:J (iP f n (rr+1)) W3/\Same K wr W3:=by rcases h3.out with⟨_,h⟩|⟨h,_⟩;exact h;cases h
    have H4:=bU h4;have S3:=bU (hS.out.trans h4.2);have y0:=HQ.out W3 S3.out;have LC:=HN.out W3 (rr+1) S3.out (by omega) (m-1);rw[aY] at LC;clear h4 h3
    gi_wp2_with (refine⟨trivial,?_⟩;gi_at_call 230;refine LC.mono ?_;rintro e w4 ⟨r4,RV,rfl,JM,ni⟩;have X4:=bU JM;have B4:=bU ni;clear JM ni)
    go_roundw
    case rel=>exact⟨rr+1,r4,RV,by omega,rfl,rfl,X4,bU (HA.out _ _ _ H4.out.1 B4.out),bU (S3.out.trans (Same.below B4.out))⟩
    case measure=>
     rw[hmeas];rcases X4.out with⟨h5,h6,h7,_⟩|⟨h5,_⟩
     .rw[h5,show re n (U r4) (.bool true)=n+1-r4 by simp[re,intOf]];omega
     .rw[h5];show 0<_;omega
theorem JN(m q:Nat)(w:World):CallsIn Fence.wide m prog 316 #[af (aj q)] w fun e w'=>
  e=ae (.func (.func 318) #[] #[af (aj w.heap.size)])/\w'=w.alloc (.cells #[af (aj q)] 179):=by
 refine callsIn_of_wp func316 rfl trivial ?_ rfl;simp only[ntmps316,aP,aC,aV,Nat.reduceAdd,Nat.reduceSub,aL,aK,aT,aM,aU,aX]
 gi_wp2
 go_ret;exact⟨rfl,rfl⟩
theorem AbidesFrom.later{β:Type}{B:Nat}{J:β→World→Prop}(h:AbidesFrom B J):∀s W W',J s W→Below W.heap.size W W'→J s W':=fun s W _ hs hb=>h s W _ none hs (Fv hb) (fun r e=>by cases e)
theorem rh(m:Nat)(hm:1<=m)(q r g n:Nat)(f:Nat→Bool)(K:Nat→Prop)(kq:K q)(kr:K r)(kg:K g)(k2:K 2)(hn:n<=65536)(w:World)(c1:cj w q #[af (aj r)] 179)(hr:ee w r g n f)(hT:TabAt 2 Lib.deBruijn64tab w)(hz:2<w.heap.size):
  SeqStopsK Fence.wide m prog 318 #[af (aj q)] (fun x:{x:Nat//x<n/\f x=true}=>#[Value.int .i64 x.val]) (Same K) (fun xs=>xs=iP f n n) (fun pre=>∃k,k<=n/\pre=iP f n k) n w:=fun l J Jx W hW hJ _ hY h0=>
 Fw m hm l q r g n f K kq kr kg k2 hn J Jx hY (AbidesFrom.later hJ) W (c1.cA hW) (hr.cA hW) (fun j hj=>(hW.cell (p:=⟨2,j,none⟩) hz).trans (hT j hj)) (aB hz hW.size) h0
end Ar
end Go.Proofs.YtgblmelijlgimaaGreatDoor
namespace Go.bZ
open Go.RowKit
theorem fJ{β:Type}{B:Nat}{I:β→World→Prop}(hs:∀s W,I s W→B<=W.heap.size)(hk:∀s W W',I s W→Below B W W'→I s W'):OwnFrom B I:=fun s W W' _ hi hg hr=>
 hk s W W' hi ⟨hg.os,hg.tape,hg.output,hg.size,fun k hlt=>hg.block k (by have:=hs s W hi;omega) (fun e=>by have:=(hr k e.symm).1;omega)⟩
theorem ri{β:Type}(B:Nat):OwnFrom B (fun(_:β) (_:World)=>False):=fun _ _ _ _ h _ _=>h
theorem gP{S:Nat→Prop}{B:Nat}{W W':World}(h:cu S W W')(hS:∀k,S k→k<B):KeepsFrom B W W':=
 ⟨h.size,fun k _ hB hk _=>(h.block k (aD.1 hk).1 (fun hs=>by have:=hS k hs;omega)).trans hk⟩
theorem cu.put{S:Nat→Prop}{a b:World}(h:cu S a b){p:Nat}(hp:S p\/a.heap.size<=p)(o:Obj):cu S a (b.putObj p o):=
 ⟨h.os,h.tape,h.output,by have:=h.size;simpa using this,fun k hk hs=>(World.putObj_heap_other (fun e=>by
  subst e;rcases hp with hp|hp
  .exact hs hp
  .omega)).trans (h.block k hk hs)⟩
end Go.bZ
