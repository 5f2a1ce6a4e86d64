/- Parts of the proof of TopApart. -/
import Derived.Test.YtgblmelijlgimaaGreatDoorZTopAD
set_option maxRecDepth 100000
namespace Go.Gc
theorem fC.mono{K:eV}{s s':St}(hc:∀x,s.col x≠0→fC K s' x)(hr:∀r x,s.root<=r→rootOf s.es s.cs r=some x→fC K s' x)
 (he:∀a k x,fC K s' a→Mj s a k→iW K s.M a k=some x→fC K s' x):∀x,fC K s x→fC K s' x:=by
 intro x h
 induction h with
 | col x h=>exact hc x h
 | root r x h1 h2=>exact hr r x h1 h2
 | iY a k x _ h2 h3 ih=>exact he a k x ih h2 h3
theorem mem_set{α:Type}{l:List α}{i:Nat}{v x:α}(h:x∈l.set i v):x=v\/x∈l:=(aZ h).symm
theorem nt{α:Type}{l:List α}{i:Nat}(v:α){x:α}(h:x∈l):l[i]?=some x\/x∈l.set i v:=by
 obtain⟨j,hj,rfl⟩:=List.getElem_of_mem h;by_cases e:i=j
 .subst e;exact .inl (aq hj)
 .refine .inr ?_
  have:(l.set i v)[j]'(by simpa using hj)=l[j]:=by rw[List.getElem_set_ne e]
  rw[←this];exact aF _
def fO(K:eV)(s:St)(x:Nat):St:=
 if s.col x=0 then
  if s.q.length=K.dv then {s with col:=cP s.col x 1,eI:=cP s.eI x true,dq:=cP s.dq (K.cB x) true}
  else {s with col:=cP s.col x 1,q:=s.q++[x]}
 else s
theorem gb{K:eV}{P:St→Prop}(s:St)(x:Nat)(h1:s.col x=0→s.q.length=K.dv→P {s with col:=cP s.col x 1,eI:=cP s.eI x true,dq:=cP s.dq (K.cB x) true})
 (h2:s.col x=0→s.q.length≠K.dv→P {s with col:=cP s.col x 1,q:=s.q++[x]})(h3:s.col x≠0→P s):P (fO K s x):=by
 unfold fO
 split
 .split
  .exact h1 ‹_› ‹_›
  .exact h2 ‹_› ‹_›
 .exact h3 ‹_›
structure Left(s s':St):Prop where
 T:s'.T=s.T
 used:s'.used=s.used
 es:s'.es=s.es
 cs:s'.cs=s.cs
 M:s'.M=s.M
 act:s'.act=s.act
 phase:s'.phase=s.phase
 cZ:s'.cZ=s.cZ
 sa:s'.sa=s.sa
 sact:s'.sact=s.sact
theorem Left.refl(s:St):Left s s:=⟨rfl,rfl,rfl,rfl,rfl,rfl,rfl,rfl,rfl,rfl⟩
theorem Left.trans{a b c:St}(h:Left a b)(k:Left b c):Left a c:=⟨k.T.trans h.T,k.used.trans h.used,k.es.trans h.es,k.cs.trans h.cs,k.M.trans h.M,k.act.trans h.act,k.phase.trans h.phase,k.cZ.trans h.cZ,k.sa.trans h.sa,k.sact.trans h.sact⟩
theorem Left.lJ{s s':St}(h:Left s s')(G:Nat→Bool)(x:Nat):iy s' G x↔iy s G x:=by unfold iy;rw[h.T]
theorem jq(K:eV)(s:St)(x:Nat):Left s (fO K s x):=gb (P:=Left s) s x (fun _ _=>⟨rfl,rfl,rfl,rfl,rfl,rfl,rfl,rfl,rfl,rfl⟩) (fun _ _=>⟨rfl,rfl,rfl,rfl,rfl,rfl,rfl,rfl,rfl,rfl⟩) (fun _=>Left.refl s)
theorem kR(K:eV)(s:St)(x:Nat):(fO K s x).root=s.root:=gb (P:=fun t=>t.root=s.root) s x (fun _ _=>rfl) (fun _ _=>rfl) (fun _=>rfl)
theorem ve(K:eV)(s:St)(x:Nat):(fO K s x).hs=s.hs:=gb (P:=fun t=>t.hs=s.hs) s x (fun _ _=>rfl) (fun _ _=>rfl) (fun _=>rfl)
theorem sK(K:eV)(s:St)(x:Nat):(fO K s x).col x≠0:=gb (P:=fun t=>t.col x≠0) s x (fun _ _=>by show cP _ _ _ _≠0;rw[cS];omega) (fun _ _=>by show cP _ _ _ _≠0;rw[cS];omega) id
theorem kS{f:Nat→Nat}{x y v:Nat}(hv:v≠0)(h:f y≠0):cP f x v y≠0:=by
 unfold cP;split
 .exact hv
 .exact h
theorem nv{f:Nat→Nat}{x y v:Nat}(h:cP f x v y≠0):y=x\/f y≠0:=by
 unfold cP at h;split at h
 .exact .inl ‹_›
 .exact .inr h
theorem iA{f:Nat→Bool}{x y:Nat}(h:cP f x true y=true):y=x\/f y=true:=by
 unfold cP at h;split at h
 .exact .inl ‹_›
 .exact .inr h
theorem lT{f:Nat→Bool}{x y:Nat}(h:f y=true):cP f x true y=true:=by
 unfold cP;split
 .rfl
 .exact h
theorem lU(K:eV)(s:St)(x y:Nat)(h:s.col y≠0):(fO K s x).col y≠0:=gb (P:=fun t=>t.col y≠0) s x (fun _ _=>kS (by omega) h) (fun _ _=>kS (by omega) h) (fun _=>h)
theorem xw{K:eV}{s:St}{x:Nat}:∀y,fC K s y→fC K (fO K s x) y:=by
 refine fC.mono (fun y h=>.col y (lU K s x y h)) (fun r y h1 h2=>?_) (fun a k y h1 h2 h3=>?_)
 .have L:=jq K s x
  exact .root r y (by rw[kR];exact h1) (by rw[L.es,L.cs];exact h2)
 .have L:=jq K s x
  refine .iY a k y h1 ⟨?_,fun h hh=>?_⟩ (by rw[L.M];exact h3)
  .refine gb (P:=fun t=>t.col a≠2) s x (fun _ _=>?_) (fun _ _=>?_) (fun _=>h2.1)
   .show cP _ _ _ _≠2
    unfold cP;split
    .omega
    .exact h2.1
   .show cP _ _ _ _≠2
    unfold cP;split
    .omega
    .exact h2.1
  .rw[ve] at hh
   exact h2.2 h hh
theorem sL{K:eV}{s:St}{G:Nat→Bool}{x:Nat}(h:fh K s G)(hp:s.phase=1)(hx:iy s G x):fh K (fO K s x) G:=by
 have hpd:=fun y hy=>xw (x:=x) y (h.gZ hp y hy)
 revert hpd
 refine gb (P:=fun t=>(∀y,iy s G y→fC K t y)→fh K t G) s x (fun hc hq hpd=>?_) (fun hc hq hpd=>?_) (fun _ _=>h)
 .exact {gT:=h.gT,tn:=h.tn,lc:=h.lc,le:=h.le,roots:=h.roots,jo:=h.jo,free:=h.free,dw:=h.dw
         on:=fun y hy=>by rcases iA hy with rfl|hy;exact h.tn _ hx.1;exact h.on y hy
         ow:=fun y hy=>by
          rcases iA hy with rfl|hy
          .exact .inl (cS _ _ _)
          .rcases h.ow y hy with h1|h1
           .exact .inl (lT h1)
           .exact .inr h1
         ac:=h.ac,sc:=h.sc,ph:=h.ph,idle:=h.idle,dm:=h.dm,sq:=h.sq,vc:=h.vc,sI:=h.sI
         nw:=fun hp y hy=>by rcases nv hy with rfl|hy;exact hx;exact h.nw hp y hy
         qv:=h.qv
         ov:=fun hp y hy=>by rcases iA hy with rfl|hy;exact hx;exact h.ov hp y hy
         hv:=h.hv
         gr:=fun hp y hy=>by
          by_cases e:y=x
          .subst e;exact .inr (.inl (cS _ _ _))
          .rw[show({s with col:=cP s.col x 1,eI:=cP s.eI x true,dq:=cP s.dq (K.cB x) true}:St).col y=s.col y from du _ _ e] at hy
           rcases h.gr hp y hy with h1|h1|h1
           .exact .inl h1
           .exact .inr (.inl (lT h1))
           .exact .inr (.inr h1)
         gZ:=fun _=>hpd
         bl:=fun hp y hy=>kS (by omega) (h.bl hp y hy)
         c2:=fun y=>by show cP _ _ _ _<=2;unfold cP;split;omega;exact h.c2 y
         ww:=h.ww,wn:=h.wn,tN:=h.tN,rt:=h.rt,hf:=h.hf,ql:=h.ql}
 .exact {gT:=h.gT,tn:=h.tn,lc:=h.lc,le:=h.le,roots:=h.roots,jo:=h.jo,free:=h.free,dw:=h.dw,on:=h.on,ow:=h.ow
         ac:=h.ac,sc:=h.sc,ph:=h.ph,idle:=h.idle,dm:=h.dm,sq:=h.sq,vc:=h.vc,sI:=h.sI
         nw:=fun hp y hy=>by rcases nv hy with rfl|hy;exact hx;exact h.nw hp y hy
         qv:=fun hp y hy=>by
          rcases bu.1 hy with hy|hy
          .exact h.qv hp y hy
          .rw[bQ.1 hy];exact hx
         ov:=h.ov,hv:=h.hv
         gr:=fun hp y hy=>by
          by_cases e:y=x
          .subst e;exact .inl (by simp)
          .rw[show({s with col:=cP s.col x 1,q:=s.q++[x]}:St).col y=s.col y from du _ _ e] at hy
           rcases h.gr hp y hy with h1|h1|h1
           .exact .inl (List.mem_append_left _ h1)
           .exact .inr (.inl h1)
           .exact .inr (.inr h1)
         gZ:=fun _=>hpd
         bl:=fun hp y hy=>kS (by omega) (h.bl hp y hy)
         c2:=fun y=>by show cP _ _ _ _<=2;unfold cP;split;omega;exact h.c2 y
         ww:=h.ww,wn:=h.wn,tN:=h.tN,rt:=h.rt,hf:=h.hf
         ql:=by show(s.q++[x]).length<=K.dv;have:=h.ql;rw[aJ,List.length_singleton];omega}
def gS(K:eV)(s:St):Option Nat→St
 | some x=>fO K s x
 | none=>s
theorem kj(K:eV)(s:St)(o:Option Nat):Left s (gS K s o):=by cases o;exact Left.refl s;exact jq K s _
theorem oP(K:eV)(s:St)(o:Option Nat):(gS K s o).hs=s.hs:=by cases o;rfl;exact ve K s _
theorem pq(K:eV)(s:St)(o:Option Nat):(gS K s o).root=s.root:=by cases o;rfl;exact kR K s _
theorem qK{K:eV}{s:St}{G:Nat→Bool}{o:Option Nat}(h:fh K s G)(hp:s.phase=1)(hx:∀x,o=some x→iy s G x):fh K (gS K s o) G:=by
 cases o with
 | none=>exact h
 | some x=>exact sL h hp (hx x rfl)
theorem qL{K:eV}{s:St}{o:Option Nat}{x:Nat}(h:o=some x):(gS K s o).col x≠0:=by subst h;exact sK K s x
def scan(K:eV)(s:St)(i:Nat)(h:Hand):St:=
 if refs K s.M h.slot<=h.field+1 then {gS K s (iW K s.M h.slot h.field) with col:=cP (gS K s (iW K s.M h.slot h.field)).col h.slot 2,hs:=s.hs.set i ⟨0,0,false⟩}
 else {gS K s (iW K s.M h.slot h.field) with hs:=s.hs.set i ⟨h.slot,h.field+1,true⟩}
theorem Be(K:eV)(s:St)(i:Nat)(h:Hand):Left s (scan K s i h):=by
 have L:=kj K s (iW K s.M h.slot h.field);unfold scan
 split
 .exact⟨L.T,L.used,L.es,L.cs,L.M,L.act,L.phase,L.cZ,L.sa,L.sact⟩
 .exact⟨L.T,L.used,L.es,L.cs,L.M,L.act,L.phase,L.cZ,L.sa,L.sact⟩
theorem EH{K:eV}(hK:K.Ok){s:St}{G:Nat→Bool}{i:Nat}{h:Hand}(I:fh K s G)(hp:s.phase=1)(hi:s.hs[i]?=some h)(his:h.is=true):fh K (scan K s i h) G:=by
 have hm:h∈s.hs:=aH hi;have hv:=I.hv hp h hm his;have J:=qK I hp (o:=iW K s.M h.slot h.field) (fun x hx=>I.jo _ _ _ hv hx);have hcol:=fun x=>qL (K:=K) (s:=s) (o:=iW K s.M h.slot h.field) (x:=x)
 have hL:=kj K s (iW K s.M h.slot h.field);have hhs:=oP K s (iW K s.M h.slot h.field);unfold scan;have hM:=hL.M;have hpt:=hL.phase;generalize gS K s (iW K s.M h.slot h.field)=t at *;have hvt:iy t G h.slot:=(hL.lJ G _).2 hv;rw[←hM,←hhs];rw[←hM] at hcol;rw[←hhs] at hi hm;have qJ:t.phase=1:=hpt.trans hp;clear hL hM hpt hhs I hv hp
 split
 .rename_i hr
  have hpd:∀y,fC K t y→fC K {t with col:=cP t.col h.slot 2,hs:=t.hs.set i ⟨0,0,false⟩} y:=by
   refine fC.mono (fun y hy=>.col y (kS (by omega) hy)) (fun r y h1 h2=>.root r y h1 h2) (fun a k y h1 h2 h3=>?_);by_cases e:a=h.slot
   .subst e
    have hk:=h2.2 h hm his rfl;have Ec:=qG h3;obtain rfl:k=h.field:=by omega
    exact .col y (kS (by omega) (hcol y h3))
   .refine .iY a k y h1 ⟨?_,fun g hg=>?_⟩ h3
    .show cP _ _ _ _≠2
     rw[du _ _ e];exact h2.1
    .rcases mem_set hg with rfl|hg
     .intro hh;cases hh
     .exact h2.2 g hg
  exact {gT:=J.gT,tn:=J.tn,lc:=J.lc,le:=J.le,roots:=J.roots,jo:=J.jo,free:=J.free,dw:=J.dw,on:=J.on,ow:=J.ow
         ac:=J.ac,sc:=J.sc,ph:=J.ph,idle:=J.idle,dm:=J.dm,sq:=J.sq,vc:=J.vc,sI:=J.sI
         nw:=fun hp y hy=>by rcases nv hy with rfl|hy;exact hvt;exact J.nw hp y hy
         qv:=J.qv,ov:=J.ov
         hv:=fun hp g hg hs=>by
          rcases mem_set hg with rfl|hg
          .cases hs
          .exact J.hv hp g hg hs
         gr:=fun hp y hy=>by
          by_cases e:y=h.slot
          .subst e;rw[show({t with col:=cP t.col h.slot 2,hs:=t.hs.set i ⟨0,0,false⟩}:St).col h.slot=2 from cS _ _ _] at hy;omega
          .rw[show({t with col:=cP t.col h.slot 2,hs:=t.hs.set i ⟨0,0,false⟩}:St).col y=t.col y from du _ _ e] at hy
           rcases J.gr hp y hy with h1|h1|⟨g,hg,hgi,hgs⟩
           .exact .inl h1
           .exact .inr (.inl h1)
           .rcases nt (i:=i) ⟨0,0,false⟩ hg with h1|h1
            .rw[hi] at h1;injection h1 with h1;subst h1;exact absurd hgs.symm e
            .exact .inr (.inr ⟨g,h1,hgi,hgs⟩)
         gZ:=fun hp y hy=>hpd y (J.gZ hp y hy)
         bl:=fun hp y hy=>kS (by omega) (J.bl hp y hy)
         c2:=fun y=>by show cP _ _ _ _<=2;unfold cP;split;omega;exact J.c2 y
         ww:=J.ww,wn:=J.wn,tN:=J.tN,rt:=J.rt
         hf:=fun g hg=>by rcases mem_set hg with rfl|hg;exact aW _;exact J.hf g hg
         ql:=J.ql}
 .rename_i hr
  have hpd:∀y,fC K t y→fC K {t with hs:=t.hs.set i ⟨h.slot,h.field+1,true⟩} y:=by
   refine fC.mono (fun y hy=>.col y hy) (fun r y h1 h2=>.root r y h1 h2) (fun a k y h1 h2 h3=>?_);by_cases e:a=h.slot/\k=h.field
   .obtain⟨rfl,rfl⟩:=e
    exact .col y (hcol y h3)
   .refine .iY a k y h1 ⟨h2.1,fun g hg=>?_⟩ h3
    rcases mem_set hg with rfl|hg
    .intro _ ha
     have ha:h.slot=a:=ha;have:=h2.2 h hm his ha;show h.field+1<=k;by_cases e2:k=h.field
     .exact absurd ⟨ha.symm,e2⟩ e
     .omega
    .exact h2.2 g hg
  exact {gT:=J.gT,tn:=J.tn,lc:=J.lc,le:=J.le,roots:=J.roots,jo:=J.jo,free:=J.free,dw:=J.dw,on:=J.on,ow:=J.ow
         ac:=J.ac,sc:=J.sc,ph:=J.ph,idle:=J.idle,dm:=J.dm,sq:=J.sq,vc:=J.vc,sI:=J.sI,nw:=J.nw,qv:=J.qv,ov:=J.ov
         hv:=fun hp g hg hs=>by
          rcases mem_set hg with rfl|hg
          .exact hvt
          .exact J.hv hp g hg hs
         gr:=fun hp y hy=>by
          rcases J.gr hp y hy with h1|h1|⟨g,hg,hgi,hgs⟩
          .exact .inl h1
          .exact .inr (.inl h1)
          .rcases nt (i:=i) ⟨h.slot,h.field+1,true⟩ hg with h1|h1
           .rw[hi] at h1;injection h1 with h1;subst h1
            exact .inr (.inr ⟨⟨h.slot,h.field+1,true⟩,List.mem_set (by have:=au.1 hi;exact this.1) _,rfl,hgs⟩)
           .exact .inr (.inr ⟨g,h1,hgi,hgs⟩)
         gZ:=fun hp y hy=>hpd y (J.gZ hp y hy)
         bl:=J.bl,c2:=J.c2,ww:=J.ww,wn:=J.wn,tN:=J.tN,rt:=J.rt
         hf:=fun g hg=>by
          rcases mem_set hg with rfl|hg
          .have:=Ja hK t.M h.slot;show h.field+1<=63;omega
          .exact J.hf g hg
         ql:=J.ql}
def jA(K:eV)(s:St):St:={gS K s (rootOf s.es s.cs s.root) with root:=s.root+1}
theorem Bg(K:eV)(s:St):Left s (jA K s):=by
 have L:=kj K s (rootOf s.es s.cs s.root);exact⟨L.T,L.used,L.es,L.cs,L.M,L.act,L.phase,L.cZ,L.sa,L.sact⟩
theorem EI{K:eV}{s:St}{G:Nat→Bool}(I:fh K s G)(hp:s.phase=1)(hr:s.root<K.L+K.n):fh K (jA K s) G:=by
 have J:=qK I hp (o:=rootOf s.es s.cs s.root) (fun x hx=>I.roots _ _ hx);have hcol:=fun x=>qL (K:=K) (s:=s) (o:=rootOf s.es s.cs s.root) (x:=x)
 have hL:=kj K s (rootOf s.es s.cs s.root);have hrt:=pq K s (rootOf s.es s.cs s.root);unfold jA;have he:=hL.es;have hc:=hL.cs;have qJ:=hL.phase.trans hp;generalize gS K s (rootOf s.es s.cs s.root)=t at *;rw[←he,←hc,←hrt] at hcol;rw[←hrt] at hr ⊢;clear hL hrt he hc I hp;have hpd:∀y,fC K t y→fC K {t with root:=t.root+1} y:=by
  refine fC.mono (fun y hy=>.col y hy) (fun r y h1 h2=>?_) (fun a k y h1 h2 h3=>.iY a k y h1 h2 h3);by_cases e:r=t.root
  .subst e;exact .col y (hcol y h2)
  .exact .root r y (by show t.root+1<=r;omega) h2
 exact {J with gZ:=fun hp y hy=>hpd y (J.gZ hp y hy),rt:=by show t.root+1<=_;omega}
theorem vf{K:eV}{t:St}{G:Nat→Bool}{i x:Nat}{h:Hand}(J:fh K t G)(hi:t.hs[i]?=some h)(his:h.is=false)(hv:t.phase=1→iy t G x):fh K {t with hs:=t.hs.set i ⟨x,0,true⟩} G:=by
 have hpd:∀y,fC K t y→fC K {t with hs:=t.hs.set i ⟨x,0,true⟩} y:=by
  refine fC.mono (fun y hy=>.col y hy) (fun r y h1 h2=>.root r y h1 h2) (fun a k y h1 h2 h3=>?_);refine .iY a k y h1 ⟨h2.1,fun g hg=>?_⟩ h3;rcases mem_set hg with rfl|hg
  .intro _ _;exact aW _
  .exact h2.2 g hg
 exact {gT:=J.gT,tn:=J.tn,lc:=J.lc,le:=J.le,roots:=J.roots,jo:=J.jo,free:=J.free,dw:=J.dw,on:=J.on,ow:=J.ow
        ac:=J.ac,sc:=J.sc,ph:=J.ph,idle:=J.idle,dm:=J.dm,sq:=J.sq,vc:=J.vc,sI:=J.sI,nw:=J.nw,qv:=J.qv,ov:=J.ov
        hv:=fun hp g hg hs=>by
         rcases mem_set hg with rfl|hg
         .exact hv hp
         .exact J.hv hp g hg hs
        gr:=fun hp y hy=>by
         rcases J.gr hp y hy with h1|h1|⟨g,hg,hgi,hgs⟩
         .exact .inl h1
         .exact .inr (.inl h1)
         .rcases nt (i:=i) ⟨x,0,true⟩ hg with h1|h1
          .rw[hi] at h1;injection h1 with h1;subst h1;rw[his] at hgi;cases hgi
          .exact .inr (.inr ⟨g,h1,hgi,hgs⟩)
        gZ:=fun hp y hy=>hpd y (J.gZ hp y hy)
        bl:=J.bl,c2:=J.c2,ww:=J.ww,wn:=J.wn,tN:=J.tN,rt:=J.rt
        hf:=fun g hg=>by
         rcases mem_set hg with rfl|hg
         .exact aW _
         .exact J.hf g hg
        ql:=J.ql}
theorem pZ{K:eV}{s s':St}{y:Nat}(h:fC K s y)(hc:s'.col=s.col)(hr:s'.root=s.root)(he:s'.es=s.es)(hcs:s'.cs=s.cs)(hM:s'.M=s.M)(hh:s'.hs=s.hs):fC K s' y:=by
 refine(?_:∀y,fC K s y→fC K s' y) y h;clear h y;refine fC.mono (fun y hy=>.col y (by rw[hc];exact hy)) (fun r y h1 h2=>.root r y (by rw[hr];exact h1) (by rw[he,hcs];exact h2)) (fun a k y h1 h2 h3=>.iY a k y h1 ⟨by rw[hc];exact h2.1,by rw[hh];exact h2.2⟩ (by rw[hM];exact h3))
def take(s:St)(i:Nat)(x:Nat)(l:List Nat):St:={s with q:=l,hs:=s.hs.set i ⟨x,0,true⟩}
theorem EJ{K:eV}{s:St}{G:Nat→Bool}{i x:Nat}{l:List Nat}{h:Hand}(I:fh K s G)(hp:s.phase=1)(hi:s.hs[i]?=some h)(his:h.is=false)(hq:s.q=x::l):fh K (take s i x l) G:=by
 have hx:=I.qv hp x (by rw[hq];exact List.mem_cons_self);have J:=vf I hi his (fun _=>hx);have hlt:=(au.1 hi).1;exact {J with
  qv:=fun hp y hy=>I.qv hp y (by rw[hq];exact List.mem_cons_of_mem _ hy)
  gr:=fun hp y hy=>by
   rcases J.gr hp y hy with h1|h1
   .have h1:y∈s.q:=h1
    rw[hq] at h1;rcases List.mem_cons.1 h1 with rfl|h1
    .exact .inr (.inr ⟨⟨y,0,true⟩,List.mem_set hlt _,rfl,rfl⟩)
    .exact .inl h1
   .exact .inr h1
  gZ:=fun hp y hy=>pZ (J.gZ hp y hy) rfl rfl rfl rfl rfl rfl
  ql:=by have:=I.ql;rw[hq,aC] at this;show l.length<=_;omega}
def opened(K:eV)(s:St)(p:Nat):St:={s with dq:=cP s.dq p false,wa:=K.pf p,we:=K.pf p+K.pm p}
theorem xy{K:eV}(hK:K.Ok){s:St}{G:Nat→Bool}{p:Nat}(I:fh K s G)(hw:s.wa=s.we)(hpp:p<K.pg):fh K (opened K s p) G:=by
 have g3:=hK.Qq p hpp;exact {I with
  ow:=fun y hy=>by
   by_cases e:K.cB y=p
   .subst e
    exact .inr (hK.Tv y (I.on y hy))
   .rcases I.ow y hy with h1|h1
    .exact .inl (by show cP _ _ _ _=true;rw[du _ _ e];exact h1)
    .omega
  gZ:=fun hp y hy=>pZ (I.gZ hp y hy) rfl rfl rfl rfl rfl rfl
  ww:=by show K.pf p<=K.pf p+K.pm p;omega
  wn:=by show K.pf p+K.pm p<=_;omega
  tN:=by show K.pf p+K.pm p<=K.pf p+64;omega}
def walked(s:St)(i:Nat):St:=
 if s.eI s.wa=true then {s with wa:=s.wa+1,eI:=cP s.eI s.wa false,hs:=s.hs.set i ⟨s.wa,0,true⟩} else {s with wa:=s.wa+1,eI:=cP s.eI s.wa false}
theorem qM{K:eV}{s:St}{G:Nat→Bool}{i:Nat}{h:Hand}(I:fh K s G)(hw:s.wa<s.we)(hi:s.hs[i]?=some h)(his:h.is=false):fh K (walked s i) G:=by
 have hlt:=(au.1 hi).1;have hup:∀y,cP s.eI s.wa false y=true→y≠s.wa/\s.eI y=true:=fun y hy=>by
  unfold cP at hy;split at hy
  .cases hy
  .exact⟨‹_›,hy⟩
 have how:∀y,cP s.eI s.wa false y=true→s.dq (K.cB y)=true\/(s.wa+1<=y/\y<s.we):=fun y hy=>by
  obtain⟨h1,h2⟩:=hup y hy;rcases I.ow y h2 with h3|h3
  .exact .inl h3
  .exact .inr ⟨by omega,h3.2⟩
 unfold walked
 split
 .rename_i ho
  have J:=vf I hi his (fun hp=>I.ov hp _ ho);exact {J with
   on:=fun y hy=>I.on y (hup y hy).2
   ow:=how
   ov:=fun hp y hy=>I.ov hp y (hup y hy).2
   gr:=fun hp y hy=>by
    rcases J.gr hp y hy with h1|h1|h1
    .exact .inl h1
    .by_cases e:y=s.wa
     .subst e
      exact .inr (.inr ⟨⟨s.wa,0,true⟩,List.mem_set hlt _,rfl,rfl⟩)
     .exact .inr (.inl (by show cP _ _ _ _=true;rw[du _ _ e];exact h1))
    .exact .inr (.inr h1)
   gZ:=fun hp y hy=>pZ (J.gZ hp y hy) rfl rfl rfl rfl rfl rfl
   ww:=by show s.wa+1<=s.we;omega
   tN:=by have:=I.tN;show s.we<=s.wa+1+64;omega}
 .rename_i ho
  exact {I with
   on:=fun y hy=>I.on y (hup y hy).2
   ow:=how
   ov:=fun hp y hy=>I.ov hp y (hup y hy).2
   gr:=fun hp y hy=>by
    rcases I.gr hp y hy with h1|h1|h1
    .exact .inl h1
    .by_cases e:y=s.wa
     .subst e;exact absurd h1 ho
     .exact .inr (.inl (by show cP _ _ _ _=true;rw[du _ _ e];exact h1))
    .exact .inr (.inr h1)
   gZ:=fun hp y hy=>pZ (I.gZ hp y hy) rfl rfl rfl rfl rfl rfl
   ww:=by show s.wa+1<=s.we;omega
   tN:=by have:=I.tN;show s.we<=s.wa+1+64;omega}
theorem take_left(s:St)(i x:Nat)(l:List Nat):Left s (take s i x l):=⟨rfl,rfl,rfl,rfl,rfl,rfl,rfl,rfl,rfl,rfl⟩
theorem vg(K:eV)(s:St)(p:Nat):Left s (opened K s p):=⟨rfl,rfl,rfl,rfl,rfl,rfl,rfl,rfl,rfl,rfl⟩
theorem pz(s:St)(i:Nat):Left s (walked s i):=by
 unfold walked;split
 .exact⟨rfl,rfl,rfl,rfl,rfl,rfl,rfl,rfl,rfl,rfl⟩
 .exact⟨rfl,rfl,rfl,rfl,rfl,rfl,rfl,rfl,rfl,rfl⟩
end Go.Gc
namespace Go.Gc
theorem EK{K:eV}{s:St}{G:Nat→Bool}(I:fh K s G){r:Nat}(hr:K.L+K.n<=r):rootOf s.es s.cs r=none:=by
 unfold rootOf;rw[if_neg (by rw[I.le];omega),I.le,ao,List.getElem?_eq_none (by rw[I.lc];omega)]
 rfl
theorem xz{K:eV}{s:St}{G:Nat→Bool}(I:fh K s G)(hp:s.phase=1)(D:mS K s):∀x,fC K s x→s.col x≠0:=by
 intro x h
 induction h with
 | col x h=>exact h
 | root r x h1 h2=>rw[EK I (by rw[←D.2.1];exact h1)] at h2;cases h2
 | iY a k x _ h2 h3 ih=>
  have hc:=I.c2 a;have h1:s.col a=1:=by have:=h2.1;omega
  rcases I.gr hp a h1 with g|g|⟨h,hm,hi,-⟩
  .rw[D.2.2.1] at g;cases g
  .rw[D.2.2.2.2 a] at g;cases g
  .rw[D.1 h hm] at hi;cases hi
def nZ(s:St):St:={s with phase:=2,sact:=true}
theorem vh{K:eV}{s:St}{G:Nat→Bool}(I:fh K s G)(hp:s.phase=1)(D:mS K s):fh K (nZ s) G:=by
 have hb:=xz I hp D;exact {I with
  ac:=by have:=I.ac;rw[hp] at this;exact this
  sc:=rfl
  ph:=by show 2<=3;omega
  idle:=fun h=>by cases (show 2=0 from h)
  dm:=fun x=>by
   have h1:=I.dm x;rw[hp] at h1;have h2:=I.sq (by omega);show s.cZ x=(decide (2<=2)&&(decide (x<s.sa)&&G x));rw[h1,h2]
   rfl
  sq:=fun h=>by have:2<=1:=h;omega
  sI:=fun h=>by cases (show 2=3 from h)
  nw:=fun _=>I.nw (by omega)
  qv:=fun h=>by cases (show 2=1 from h)
  ov:=fun h=>by cases (show 2=1 from h)
  hv:=fun h=>by cases (show 2=1 from h)
  gr:=fun h=>by cases (show 2=1 from h)
  gZ:=fun h=>by cases (show 2=1 from h)
  bl:=fun _ x hx=>hb x (I.gZ hp x hx)}
def tR(s:St):St:={s with phase:=3}
theorem vj{K:eV}{s:St}{G:Nat→Bool}(I:fh K s G)(hp:s.phase=2)(hs:s.sa=K.n):fh K (tR s) G:=by
 exact {I with
  ac:=by have:=I.ac;rw[hp] at this;exact this
  sc:=by have:=I.sc;rw[hp] at this;exact this
  ph:=by show 3<=3;omega
  idle:=fun h=>by cases (show 3=0 from h)
  dm:=fun x=>by have h1:=I.dm x;rw[hp] at h1;exact h1
  sq:=fun h=>by have:3<=1:=h;omega
  sI:=fun _=>hs
  nw:=fun _=>I.nw (by omega)
  qv:=fun h=>by cases (show 3=1 from h)
  ov:=fun h=>by cases (show 3=1 from h)
  hv:=fun h=>by cases (show 3=1 from h)
  gr:=fun h=>by cases (show 3=1 from h)
  gZ:=fun h=>by cases (show 3=1 from h)
  bl:=fun _=>I.bl (by omega)}
def oa(K:eV)(M:Nat→Int)(x:Nat):Nat→Int:=fun i=>if K.addr x<=i/\i<K.addr x+K.size x then 0 else M i
theorem Bh(K:eV)(M:Nat→Int)(x:Nat):Zero K (oa K M x) x:=fun i h1 h2=>by unfold oa;rw[if_pos ⟨h1,h2⟩]
theorem qN{K:eV}{M:Nat→Int}(x:Nat){y:Nat}(h:Zero K M y):Zero K (oa K M x) y:=fun i h1 h2=>by
 unfold oa;split
 .rfl
 .exact h i h1 h2
theorem sM{K:eV}(hK:K.Ok){M:Nat→Int}{x y:Nat}(hx:x<K.n)(hy:y<K.n)(hxy:y≠x):lP K M (oa K M x) y:=fun i h1 h2=>by
 unfold oa;have:=hK.apart x y hx hy (Ne.symm hxy);rw[if_neg (by omega)]
def ji(K:eV)(s:St):St:=
 if s.T s.sa=true/\s.col s.sa=0 then {s with M:=oa K s.M s.sa,cZ:=cP s.cZ s.sa true,sa:=s.sa+1} else {s with sa:=s.sa+1}
theorem Bi{K:eV}(hK:K.Ok){s:St}{G:Nat→Bool}(I:fh K s G)(hp:s.phase=2)(hs:s.sa<K.n):fh K (ji K s) G:=by
 unfold ji
 split
 .rename_i hc
  have hG:G s.sa=true:=by
   by_cases e:G s.sa=true
   .exact e
   .exact absurd hc.2 (I.bl (by omega) s.sa ⟨hc.1,by simpa using e⟩)
  have hsame:∀a,iy s G a→lP K s.M (oa K s.M s.sa) a:=fun a ha=>sM hK hs (I.tn a ha.1) (fun e=>by subst e;have:=ha.2;rw[hG] at this;cases this)
  exact {I with
   jo:=fun a k x ha hf=>by
    have hf:iW K (oa K s.M s.sa) a k=some x:=hf;rw[lQ (hK.sz a (I.tn a ha.1)) (hsame a ha)] at hf;exact I.jo a k x ha hf
   free:=fun x h1 h2=>qN _ (I.free x h1 h2)
   dw:=fun x hx=>by
    rcases iA hx with rfl|hx
    .exact Bh _ _ _
    .exact qN _ (I.dw x hx)
   dm:=fun x=>by
    have h1:=I.dm x;rw[hp] at h1;show cP s.cZ s.sa true x=(decide (2<=s.phase)&&(decide (x<s.sa+1)&&G x));rw[hp];unfold cP
    split
    .subst x;rw[hG,aw (bD _)];rfl
    .rw[h1]
     congr 2
     exact decide_eq_decide.2 (by omega)
   sq:=fun h=>by have:s.phase<=1:=h;omega
   vc:=hs
   sI:=fun h=>by have:s.phase=3:=h;omega
   gZ:=fun h=>by have:s.phase=1:=h;omega}
 .rename_i hc
  have hG:G s.sa=false:=by
   by_cases e:G s.sa=true
   .have hT:=I.gT _ e
    have:=I.nw (by omega) s.sa (fun h0=>hc ⟨hT,h0⟩);exact this.2
   .simpa using e
  exact {I with
   dm:=fun x=>by
    have h1:=I.dm x;show s.cZ x=(decide (2<=s.phase)&&(decide (x<s.sa+1)&&G x));rw[h1];by_cases e:x=s.sa
    .subst e;rw[hG];simp
    .congr 2
     exact decide_eq_decide.2 (by omega)
   sq:=fun h=>by have:s.phase<=1:=h;omega
   vc:=hs
   sI:=fun h=>by have:s.phase=3:=h;omega
   gZ:=fun h=>by have:s.phase=1:=h;omega}
noncomputable def lost(K:eV)(T:Nat→Bool)(es:List eG)(cs:List Int)(M:Nat→Int)(x:Nat):Bool:=T x&& !(@decide (Reach K es cs M x) (Classical.propDecidable _))
theorem kT{K:eV}{T:Nat→Bool}{es:List eG}{cs:List Int}{M:Nat→Int}{x:Nat}(hT:T x=true):lost K T es cs M x=false↔Reach K es cs M x:=by
 unfold lost;simp[hT]
def begun(s:St):St:={s with col:=fun _=>0,q:=[],eI:=fun _=>false,dq:=fun _=>false,wa:=0,we:=0,hs:=List.replicate s.hs.length ⟨0,0,false⟩,root:=0,act:=true,phase:=1}
theorem Bj{K:eV}(hK:K.Ok){s:St}{G:Nat→Bool}(I:fh K s G)(hp:s.phase=0):Inv K (begun s) (lost K s.T s.es s.cs s.M):=by
 have hG:=I.idle hp;have hT:∀x,Reach K s.es s.cs s.M x→s.T x=true:=by
  intro x hx
  induction hx with
  | root r x h=>exact(I.roots r x h).1
  | iY a k x _ h ih=>exact(I.jo a k x ⟨ih,hG a⟩ h).1
 have hV:∀x,iy (begun s) (lost K s.T s.es s.cs s.M) x↔Reach K s.es s.cs s.M x:=fun x=>by
  constructor
  .rintro ⟨h1,h2⟩;exact(kT h1).1 h2
  .intro h;exact⟨hT x h,(kT (hT x h)).2 h⟩
 have hh:∀h∈(begun s).hs,h=⟨0,0,false⟩:=fun h hm=>aQ hm
 exact {gT:=fun x hx=>by unfold lost at hx;show s.T x=true;cases e:s.T x;rw[e] at hx;cases hx;rfl
        tn:=I.tn,lc:=I.lc,le:=I.le
        roots:=fun r x h=>(hV x).2 (.root r x h)
        jo:=fun a k x ha h=>(hV x).2 (.iY a k x ((hV a).1 ha) h)
        free:=I.free,dw:=I.dw
        on:=fun x h=>by cases h
        ow:=fun x h=>by cases h
        ac:=rfl
        sc:=by have:=I.sc;rw[hp] at this;exact this
        ph:=by show 1<=3;omega
        idle:=fun h=>by cases (show 1=0 from h)
        dm:=fun x=>by have:=I.dm x;rw[hp] at this;exact this
        sq:=fun _=>I.sq (by omega)
        vc:=I.vc
        sI:=fun h=>by cases (show 1=3 from h)
        nw:=fun _ x h=>absurd rfl h
        qv:=fun _ x h=>by cases h
        ov:=fun _ x h=>by cases h
        hv:=fun _ h hm hi=>by rw[hh h hm] at hi;cases hi
        gr:=fun _ x h=>by cases (show 0=1 from h)
        gZ:=fun _ x hx=>by
         have qO:=(hV x).1 hx
         clear hx
         induction qO with
         | root r x h=>exact .root r x (aW _) h
         | iY a k x h1 h ih=>exact .iY a k x ih ⟨by show 0≠2;omega,fun g hg hi=>by rw[hh g hg] at hi;cases hi⟩ h
        bl:=fun h=>by have:2<=1:=h;omega
        c2:=fun x=>by show 0<=2;omega
        ww:=av _,wn:=aW _
        tN:=by show 0<=0+64;omega
        rt:=aW _
        hf:=fun h hm=>by rw[hh h hm];exact aW _
        ql:=aW _
        nd:=fun _ D=>by have h1:0=K.L+K.n:=D.2.1;have:=hK.pos;omega
        ns:=fun h=>by cases (show 1=2 from h)}
def fo(gens:Nat)(e:eG):eG:=if e.state=2 then(if gens<=e.gen then⟨3,0,e.gen⟩ else⟨0,0,e.gen+1⟩) else e
theorem od(gens:Nat)(es:List eG)(cs:List Int)(r:Nat):rootOf (es.map (fo gens)) cs r=rootOf es cs r:=by
 unfold rootOf;rw[List.length_map,aR]
 split
 .cases h:es[r]? with
  | none=>rfl
  | some e=>
   show(if(fo gens e).state=1 then _ else _)=_;unfold fo
   split
   .rename_i h2
    split
    .simp[h2]
    .simp[h2]
   .rfl
 .rfl
def ended(gens:Nat)(s:St)(G:Nat→Bool)(used:Int):St:={s with T:=fun x=>s.T x&& !G x,used:=used,es:=s.es.map (fo gens),cZ:=fun _=>false,sa:=0,sact:=false,act:=false,phase:=0}
theorem Bk{K:eV}(gens:Nat){s:St}{G:Nat→Bool}(used:Int)(I:fh K s G)(hp:s.phase=3):Inv K (ended gens s G used) (fun _=>false):=by
 have hV:∀x,iy (ended gens s G used) (fun _=>false) x↔iy s G x:=fun x=>by
  show((s.T x&& !G x)=true/\false=false)↔_;unfold iy
  cases s.T x <;> cases G x <;> simp
 exact {gT:=fun x h=>by cases h
        tn:=fun x h=>I.tn x ((hV x).1 ⟨h,rfl⟩).1
        lc:=I.lc
        le:=by show(s.es.map _).length=_;rw[List.length_map];exact I.le
        roots:=fun r x h=>(hV x).2 (I.roots r x (by rw[←od gens];exact h))
        jo:=fun a k x ha h=>(hV x).2 (I.jo a k x ((hV a).1 ha) h)
        free:=fun x hx h=>by
         have h:(s.T x&& !G x)=false:=h
         cases e:s.T x
         .exact I.free x hx e
         .rw[e,Bool.true_and,Bool.not_eq_false'] at h
          refine I.dw x ?_
          rw[I.dm x,hp,I.sI hp,h,aw hx];rfl
        dw:=fun x h=>by cases h
        on:=I.on,ow:=I.ow,ac:=rfl,sc:=rfl
        ph:=aW _
        idle:=fun _ _=>rfl
        dm:=fun x=>rfl
        sq:=fun _=>rfl
        vc:=aW _
        sI:=fun h=>by cases (show 0=3 from h)
        nw:=fun h=>absurd rfl h
        qv:=fun h=>by cases (show 0=1 from h)
        ov:=fun h=>by cases (show 0=1 from h)
        hv:=fun h=>by cases (show 0=1 from h)
        gr:=fun h=>by cases (show 0=1 from h)
        gZ:=fun h=>by cases (show 0=1 from h)
        bl:=fun h=>by have:2<=0:=h;omega
        c2:=I.c2,ww:=I.ww,wn:=I.wn,tN:=I.tN,rt:=I.rt,hf:=I.hf,ql:=I.ql
        nd:=fun h=>by cases (show 0=1 from h)
        ns:=fun h=>by cases (show 0=2 from h)}
end Go.Gc
