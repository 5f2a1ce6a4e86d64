/- Parts of the proof of TopApart. -/
import Derived.Test.YtgblmelijlgimaaGreatDoorZTopAF
import Derived.Test.YtgblmelijlgimaaGreatDoorZTopAE
set_option maxRecDepth 100000
namespace Go.Gc
theorem fh.pv{K:eV}{s:St}{G:Nat→Bool}(I:fh K s G)(hp:s.phase≠0):∀x,fC K s x→iy s G x:=by
 intro x h
 induction h with
 | col x h=>exact I.nw hp x h
 | root r x _ h=>exact I.roots r x h
 | iY a k x _ _ h ih=>exact I.jo a k x ih h
theorem fC.Lz{K:eV}{s s':St}(hc:∀x,s.col x≠0→fC K s' x)(hr:∀r x,s.root<=r→rootOf s.es s.cs r=some x→fC K s' x)
 (he:∀a k x,fC K s a→fC K s' a→Mj s a k→iW K s.M a k=some x→fC K s' x):∀x,fC K s x→fC K s' x:=by
 intro x h
 induction h with
 | col x h=>exact hc x h
 | root r x h1 h2=>exact hr r x h1 h2
 | iY a k x h1 h2 h3 ih=>exact he a k x h1 ih h2 h3
theorem EL{K:eV}{s:St}{x:Nat}(h:¬mS K s):¬mS K (fO K s x):=by
 refine gb (P:=fun t=>¬mS K t) s x (fun _ _ D=>?_) (fun _ _ D=>?_) (fun _=>h)
 .have:=D.2.2.2.2 x
  rw[show({s with col:=cP s.col x 1,eI:=cP s.eI x true,dq:=cP s.dq (K.cB x) true}:St).eI x=true from cS _ _ _] at this
  cases this
 .have h1:s.q++[x]=[]:=D.2.2.1
  simp at h1
def fW(K:eV)(s:St)(x:Nat):St:=if s.phase=1 then fO K s x else s
theorem hU(K:eV)(s:St)(x:Nat):Left s (fW K s x):=by
 unfold fW;split
 .exact jq K s x
 .exact Left.refl s
theorem xB{K:eV}{s:St}{G:Nat→Bool}{x:Nat}(I:Inv K s G)(hx:iy s G x):Inv K (fW K s x) G:=by
 unfold fW;split
 .rename_i hp
  exact {sL I.tofh hp hx with nd:=fun _=>EL (I.nd hp),ns:=fun h=>by rw[(jq K s x).phase] at h;omega}
 .exact I
theorem kU{K:eV}{s:St}{x:Nat}(hp:(fW K s x).phase=1):(fW K s x).col x≠0:=by
 rw[(hU K s x).phase] at hp;unfold fW;rw[if_pos hp];exact sK K s x
theorem pC{K:eV}{s:St}{x y:Nat}(h:s.phase=1→s.col y≠0)(hp:(fW K s x).phase=1):(fW K s x).col y≠0:=by
 rw[(hU K s x).phase] at hp;unfold fW;rw[if_pos hp];exact lU K s x y (h hp)
theorem oe(es:List eG)(cs:List Int)(i:Nat)(hi:i<es.length)(e:eG)(r:Nat):rootOf (es.set i e) cs r=if r=i then(if e.state=1 then some e.slot else none) else rootOf es cs r:=by
 unfold rootOf;rw[aI];by_cases h:r=i
 .subst h
  rw[if_pos rfl,if_pos hi,List.getElem?_set_self hi]
 .rw[if_neg h,List.getElem?_set_ne (Ne.symm h)]
theorem og(es:List eG)(cs:List Int)(x:Nat)(hx:x<cs.length)(v:Int)(r:Nat):rootOf es (cs.set x v) r=if r=es.length+x then(if 0<v then some x else none) else rootOf es cs r:=by
 unfold rootOf;by_cases h:r<es.length
 .rw[if_pos h,if_pos h,if_neg (by omega)]
 .rw[if_neg h,if_neg h]
  by_cases h2:r=es.length+x
  .subst h2
   rw[if_pos rfl,Nat.add_sub_cancel_left,ao,List.getElem?_set_self hx]
   rfl
  .rw[if_neg h2,ao,List.getElem?_set_ne (by omega),←ao]
theorem qP{es:List eG}{cs:List Int}{i:Nat}{e:eG}(h:es[i]?=some e)(hs:e.state=1):rootOf es cs i=some e.slot:=by
 unfold rootOf;rw[if_pos (au.1 h).1,h];simp[hs]
theorem EM{K:eV}{s:St}{G:Nat→Bool}(I:Inv K s G)(es:List eG)(hl:es.length=s.es.length)(hn:∀r x,rootOf es s.cs r=some x→iy s G x)
 (ho:s.phase=1→∀r x,rootOf s.es s.cs r=some x→rootOf es s.cs r=some x\/s.col x≠0):Inv K {s with es:=es} G:=by
 have hpd:s.phase=1→∀y,fC K s y→fC K {s with es:=es} y:=fun hp=>by
  refine fC.mono (fun y hy=>.col y hy) (fun r y h1 h2=>?_) (fun a k y h1 h2 h3=>.iY a k y h1 h2 h3);rcases ho hp r y h2 with h|h
  .exact .root r y h1 h
  .exact .col y h
 exact {I with le:=hl.trans I.le,roots:=hn,gZ:=fun hp y hy=>hpd hp y (I.gZ hp y hy)}
theorem EN{K:eV}{s:St}{G:Nat→Bool}(I:Inv K s G)(cs:List Int)(hl:cs.length=s.cs.length)(hn:∀r x,rootOf s.es cs r=some x→iy s G x)
 (ho:s.phase=1→∀r x,rootOf s.es s.cs r=some x→rootOf s.es cs r=some x\/s.col x≠0):Inv K {s with cs:=cs} G:=by
 have hpd:s.phase=1→∀y,fC K s y→fC K {s with cs:=cs} y:=fun hp=>by
  refine fC.mono (fun y hy=>.col y hy) (fun r y h1 h2=>?_) (fun a k y h1 h2 h3=>.iY a k y h1 h2 h3);rcases ho hp r y h2 with h|h
  .exact .root r y h1 h
  .exact .col y h
 exact {I with lc:=hl.trans I.lc,roots:=hn,gZ:=fun hp y hy=>hpd hp y (I.gZ hp y hy)}
theorem EO{K:eV}{s:St}{G:Nat→Bool}(I:Inv K s G){i x:Nat}{e:eG}(he:s.es[i]?=some e)(h0:e.state≠1)(hx:iy s G x)(g:Nat):Inv K {s with es:=s.es.set i ⟨1,x,g⟩} G:=by
 have hi:=(au.1 he).1;refine EM I _ (by rw[aI]) (fun r y h=>?_) (fun _ r y h=>?_)
 .rw[oe _ _ _ hi] at h
  split at h
  .injection h with h;subst h;exact hx
  .exact I.roots r y h
 .rw[oe _ _ _ hi]
  split
  .rename_i e2
   subst e2;unfold rootOf at h;rw[if_pos hi,he] at h;simp[h0] at h
  .exact .inl h
theorem EP{K:eV}{s:St}{G:Nat→Bool}(I:Inv K s G){i:Nat}{e:eG}(he:s.es[i]?=some e)(h1:e.state=1)(hc:s.phase=1→s.col e.slot≠0)(x g:Nat):Inv K {s with es:=s.es.set i ⟨2,x,g⟩} G:=by
 have hi:=(au.1 he).1;refine EM I _ (by rw[aI]) (fun r y h=>?_) (fun hp r y h=>?_)
 .rw[oe _ _ _ hi] at h
  split at h
  .simp at h
  .exact I.roots r y h
 .rw[oe _ _ _ hi]
  split
  .rename_i e2
   subst e2;rw[qP he h1] at h;injection h with h;exact .inr (h▸hc hp)
  .exact .inl h
theorem Jf{K:eV}{s:St}{G:Nat→Bool}(I:Inv K s G){x:Nat}(hx:iy s G x)(v:Int)(hv:0<v):Inv K {s with cs:=s.cs.set x v} G:=by
 have hl:x<s.cs.length:=by rw[I.lc];exact I.tn x hx.1
 refine EN I _ (by rw[aI]) (fun r y h=>?_) (fun _ r y h=>?_)
 .rw[og _ _ _ hl] at h
  split at h
  .injection h with h;subst h;exact hx
  .exact I.roots r y h
 .rw[og _ _ _ hl]
  split
  .rename_i e
   subst e;unfold rootOf at h;rw[if_neg (by omega),Nat.add_sub_cancel_left] at h
   split at h
   .exact .inl h
   .cases h
  .exact .inl h
theorem Bl{K:eV}{s:St}{G:Nat→Bool}(I:Inv K s G){x:Nat}(hx:iy s G x)(v:Int)(hc:s.phase=1→s.col x≠0):Inv K {s with cs:=s.cs.set x v} G:=by
 have hl:x<s.cs.length:=by rw[I.lc];exact I.tn x hx.1
 refine EN I _ (by rw[aI]) (fun r y h=>?_) (fun hp r y h=>?_)
 .rw[og _ _ _ hl] at h
  split at h
  .split at h
   .injection h with h;subst h;exact hx
   .cases h
  .exact I.roots r y h
 .rw[og _ _ _ hl]
  split
  .rename_i e
   subst e;unfold rootOf at h;rw[if_neg (by omega),Nat.add_sub_cancel_left] at h
   split at h
   .injection h with h
    exact .inr (h▸hc hp)
   .cases h
  .exact .inl h
theorem oh{K:eV}(hK:K.Ok)(M:Nat→Int){a b i:Nat}(ha:a<K.n)(hb:b<K.n)(hi:i+1<K.size a)(v:Int):cU K (cP M (K.addr a+1+i) v) b=cU K M b:=by
 unfold cU;rw[du];have:=hK.sz b hb;by_cases e:a=b
 .subst e;omega
 .have:=hK.apart a b ha hb e;omega
theorem zi{K:eV}(hK:K.Ok)(M:Nat→Int){a b i k:Nat}(ha:a<K.n)(hb:b<K.n)(hi:i+1<K.size a)(v:Int)(h:b≠a\/k≠i):iW K (cP M (K.addr a+1+i) v) b k=iW K M b k:=by
 have hr:refs K (cP M (K.addr a+1+i) v) b=refs K M b:=by unfold refs;rw[oh hK M ha hb hi]
 unfold iW;rw[hr];by_cases hk:k<refs K M b
 .have h1:=jn hk
  have h2:K.addr b+1+k≠K.addr a+1+i:=by
   by_cases e:a=b
   .subst e;omega
   .have:=hK.apart a b ha hb e;omega
  rw[du _ _ h2]
 .rw[if_neg (fun c=>hk c.1),if_neg (fun c=>hk c.1)]
theorem vk{K:eV}(hK:K.Ok){M:Nat→Int}{a b i:Nat}(ha:a<K.n)(hb:b<K.n)(hi:i+1<K.size a)(v:Int)(hab:b≠a)(h:Zero K M b):Zero K (cP M (K.addr a+1+i) v) b:=fun j h1 h2=>by
 have:=hK.apart a b ha hb (Ne.symm hab);rw[du _ _ (by omega)];exact h j h1 h2
theorem Bm{K:eV}(hK:K.Ok){s:St}{G:Nat→Bool}(I:Inv K s G){a i:Nat}(ha:iy s G a)(hi:i+1<K.size a)(v:Int)
 (hn:∀x,iW K (cP s.M (K.addr a+1+i) v) a i=some x→iy s G x)(ho:s.phase=1→∀x,iW K s.M a i=some x→iW K (cP s.M (K.addr a+1+i) v) a i=some x\/s.col x≠0):Inv K {s with M:=cP s.M (K.addr a+1+i) v} G:=by
 have han:=I.tn a ha.1;have hpd:s.phase=1→∀y,fC K s y→fC K {s with M:=cP s.M (K.addr a+1+i) v} y:=fun hp=>by
  refine fC.Lz (fun y hy=>.col y hy) (fun r y h1 h2=>.root r y h1 h2) (fun b k y h0 h1 h2 h3=>?_);have hb:=I.tn b (I.tofh.pv (by omega) b h0).1;by_cases e:b=a/\k=i
  .obtain⟨rfl,rfl⟩:=e
   rcases ho hp y h3 with h|h
   .exact .iY b k y h1 h2 h
   .exact .col y h
  .exact .iY b k y h1 h2 (by show iW K (cP s.M _ v) b k=_;rw[zi hK s.M han hb hi v (by by_cases e2:b=a;exact .inr (fun e3=>e ⟨e2,e3⟩);exact .inl e2)];exact h3)
 exact {I with
  jo:=fun b k x hb h=>by
   have hbn:=I.tn b hb.1;by_cases e:b=a/\k=i
   .obtain⟨rfl,rfl⟩:=e
    exact hn x h
   .have h:iW K (cP s.M _ v) b k=some x:=h
    rw[zi hK s.M han hbn hi v (by by_cases e2:b=a;exact .inr (fun e3=>e ⟨e2,e3⟩);exact .inl e2)] at h;exact I.jo b k x hb h
  free:=fun x hx h=>vk hK han hx hi v (fun e=>by subst e;rw[show s.T x=true from ha.1] at h;cases h) (I.free x hx h)
  dw:=fun x h=>by
   have hg:G x=true:=by
    have:=I.dm x;rw[show s.cZ x=true from h] at this;by_cases e:G x=true
    .exact e
    .rw[show G x=false by simpa using e] at this;simp at this
   exact vk hK han (I.tn x (I.gT x hg)) hi v (fun e=>by subst e;have:=ha.2;rw[hg] at this;cases this) (I.dw x h)
  gZ:=fun hp y hy=>hpd hp y (I.gZ hp y hy)}
def made(K:eV)(M:Nat→Int)(x:Nat)(w:Int):Nat→Int:=fun i=>if i=K.addr x then w else if K.addr x<=i/\i<K.addr x+K.size x then 0 else M i
theorem jV{K:eV}(hK:K.Ok){M:Nat→Int}{x y:Nat}(hx:x<K.n)(hy:y<K.n)(hxy:y≠x)(w:Int):lP K M (made K M x w) y:=fun i h1 h2=>by
 have:=hK.apart x y hx hy (Ne.symm hxy);have:=hK.sz x hx;unfold made;rw[if_neg (by omega),if_neg (by omega)]
theorem ER{K:eV}(M:Nat→Int)(x:Nat)(w:Int)(k:Nat):iW K (made K M x w) x k=none:=by
 unfold iW;by_cases hk:k<refs K (made K M x w) x
 .have h1:=jn hk
  have:made K M x w (K.addr x+1+k)=0:=by
   unfold made;rw[if_neg (by omega),if_pos (by omega)]
  rw[this,if_neg (fun c=>by have:=c.2.1;omega)]
 .rw[if_neg (fun c=>hk c.1)]
def born(K:eV)(s:St)(x:Nat)(w used:Int):St:={s with T:=cP s.T x true,used:=used,M:=made K s.M x w,col:=if s.act then cP s.col x 2 else s.col}
theorem ES{K:eV}(hK:K.Ok){s:St}{G:Nat→Bool}(I:Inv K s G){x:Nat}(hx:x<K.n)(hT:s.T x=false)(w used:Int):Inv K (born K s x w used) G:=by
 have hGx:G x=false:=by
  by_cases e:G x=true
  .rw[I.gT x e] at hT;cases hT
  .simpa using e
 have hV:∀y,iy s G y→iy (born K s x w used) G y:=fun y hy=>⟨lT hy.1,hy.2⟩
 have Qu:∀y,iy (born K s x w used) G y→y=x\/iy s G y:=fun y hy=>by
  rcases iA hy.1 with h|h
  .exact .inl h
  .exact .inr ⟨h,hy.2⟩
 have hVx:iy (born K s x w used) G x:=⟨cS _ _ _,hGx⟩;have hne:∀y,iy s G y→y≠x:=fun y hy e=>by subst e;have:=hy.1;rw[hT] at this;cases this
 have hcol:∀y,(born K s x w used).col y=if s.act=true/\y=x then 2 else s.col y:=fun y=>by
  show(if s.act then cP s.col x 2 else s.col) y=_
  cases s.act
  .rw[if_neg (by simp),if_neg (by simp)]
  .rw[if_pos rfl];unfold cP;simp
 have hact:s.phase≠0→s.act=true:=fun h=>by rw[I.ac];simp[h]
 have hdg:∀y,s.cZ y=true→y≠x/\y<K.n:=fun y h=>by
  have hg:G y=true:=by
   have:=I.dm y;rw[h] at this;by_cases e:G y=true
   .exact e
   .rw[show G y=false by simpa using e] at this;simp at this
  exact⟨(fun e=>by subst e;rw[hGx] at hg;cases hg),I.tn y (I.gT y hg)⟩
 have hpd:s.phase=1→∀y,fC K s y→fC K (born K s x w used) y:=fun hp=>by
  refine fC.Lz (fun y hy=>.col y ?_) (fun r y h1 h2=>.root r y h1 h2) (fun b k y h0 h1 h2 h3=>?_)
  .rw[hcol];split
   .omega
   .exact hy
  .have hb:=I.tofh.pv (by omega) b h0
   refine .iY b k y h1 ⟨?_,h2.2⟩ ?_
   .rw[hcol,if_neg (fun c=>hne b hb c.2)];exact h2.1
   .show iW K (made K s.M x w) b k=_
    rw[lQ (hK.sz b (I.tn b hb.1)) (jV hK hx (I.tn b hb.1) (hne b hb) w)];exact h3
 exact {I with
  gT:=fun y h=>lT (I.gT y h)
  tn:=fun y h=>by rcases iA h with rfl|h;exact hx;exact I.tn y h
  roots:=fun r y h=>hV y (I.roots r y h)
  jo:=fun b k y hb h=>by
   have h:iW K (made K s.M x w) b k=some y:=h;rcases Qu b hb with rfl|hb
   .rw[ER] at h;cases h
   .rw[lQ (hK.sz b (I.tn b hb.1)) (jV hK hx (I.tn b hb.1) (hne b hb) w)] at h
    exact hV y (I.jo b k y hb h)
  free:=fun y hy h=>by
   have h:cP s.T x true y=false:=h;have e:y≠x:=fun e=>by subst e;rw[cS] at h;cases h
   rw[du _ _ e] at h;intro i h1 h2;show made K s.M x w i=0;rw[jV hK hx hy e w i h1 h2];exact I.free y hy h i h1 h2
  dw:=fun y h=>by
   obtain⟨h3,h4⟩:=hdg y h;intro i h1 h2;show made K s.M x w i=0;rw[jV hK hx h4 h3 w i h1 h2];exact I.dw y h i h1 h2
  nw:=fun hp y hy=>by
   rw[hcol] at hy
   split at hy
   .rename_i c;rw[c.2];exact hVx
   .exact hV y (I.nw hp y hy)
  qv:=fun hp y hy=>hV y (I.qv hp y hy)
  ov:=fun hp y hy=>hV y (I.ov hp y hy)
  hv:=fun hp h hm hi=>hV _ (I.hv hp h hm hi)
  gr:=fun hp y hy=>by
   rw[hcol] at hy
   split at hy
   .omega
   .exact I.gr hp y hy
  gZ:=fun hp y hy=>by
   rcases Qu y hy with rfl|hy
   .exact .col y (by rw[hcol,if_pos ⟨hact (by rw[show s.phase=1 from hp];omega),rfl⟩];omega)
   .exact hpd hp y (I.gZ hp y hy)
  bl:=fun hp y hy=>by
   rw[hcol]
   split
   .omega
   .rename_i c
    rcases Qu y hy with rfl|hy
    .exact absurd ⟨hact (by have:2<=s.phase:=hp;omega),rfl⟩ c
    .exact I.bl hp y hy
  c2:=fun y=>by rw[hcol];split;omega;exact I.c2 y}
end Go.Gc
namespace Go.Gc
def jH(f:Nat→Bool):Nat→Nat
 | 0=>0
 | n+1=>jH f n+(if f n then 1 else 0)
theorem jN{f g:Nat→Bool}:∀n,(∀x,x<n→f x=g x)→jH f n=jH g n
 | 0,_=>rfl
 | n+1,h=>by unfold jH;rw[jN n (fun x hx=>h x (by omega)),h n (by omega)]
theorem jW{f:Nat→Bool}{x:Nat}:∀n,x<n→f x=true→jH (cP f x false) n+1=jH f n
 | 0,h,_=>absurd h (by omega)
 | n+1,h,hf=>by
   unfold jH;by_cases e:x=n
   .subst e
    rw[cS,hf,jN x (fun y hy=>du f false (by omega:y≠x))];simp
   .have:=jW n (by omega) hf
    rw[du f false (by omega:n≠x)];omega
theorem Jg{f:Nat→Bool}{x:Nat}(n:Nat)(hf:f x=false):jH (cP f x false) n=jH f n:=jN n (fun y _=>by
 unfold cP;split
 .subst y;exact hf.symm
 .rfl)
theorem tS{f:Nat→Bool}(x:Nat):∀n,jH (cP f x true) n<=jH f n+1
 | 0=>by unfold jH;omega
 | n+1=>by
   unfold jH;have h:=tS (f:=f) x n;by_cases e:n=x
   .subst e
    rw[jN (g:=f) n (fun y hy=>du f true (by omega:y≠n))]
    split <;> split <;> omega
   .rw[du f true e];omega
def hw(h:Hand):Nat:=if h.is then 66-h.field else 0
def oi(l:List Hand):Nat:=(l.map hw).sum
theorem lV:∀(l:List Hand) (i:Nat) (h g:Hand),l[i]?=some h→oi (l.set i g)+hw h=oi l+hw g
 | [],_,_,_,e=>by simp at e
 | a::l,0,h,g,e=>by
   simp at e;subst e;simp[oi];omega
 | a::l,i+1,h,g,e=>by
   have:=lV l i h g (by simpa using e);simp only[oi,List.set_cons_succ,List.map_cons,List.sum_cons] at this ⊢;omega
def gM(s:St)(x:Nat):Bool:=s.col x==0
def mu(K:eV)(s:St):Nat:=(K.L+K.n-s.root)+oi s.hs+70*s.q.length+70*jH s.eI K.n+140*jH s.dq K.pg+(s.we-s.wa)+400*jH (gM s) K.n
theorem ET{K:eV}{s:St}{x:Nat}(hx:x<K.n):mu K (fO K s x)<=mu K s:=by
 refine gb (P:=fun t=>mu K t<=mu K s) s x (fun hc _=>?_) (fun hc _=>?_) (fun _=>av _)
 .have hw:jH (gM {s with col:=cP s.col x 1,eI:=cP s.eI x true,dq:=cP s.dq (K.cB x) true}) K.n+1=jH (gM s) K.n:=by
   rw[←jW (f:=gM s) K.n hx (by unfold gM;rw[hc];rfl)]
   congr 1
   refine jN _ (fun y _=>?_);show(cP s.col x 1 y==0)=cP (gM s) x false y;unfold cP;split
   .rfl
   .rfl
  have h1:=tS (f:=s.eI) x K.n;have h2:=tS (f:=s.dq) (K.cB x) K.pg;unfold mu;show(K.L+K.n-s.root)+oi s.hs+70*s.q.length+70*jH (cP s.eI x true) K.n+140*jH (cP s.dq (K.cB x) true) K.pg+(s.we-s.wa)+400*_<=_;omega
 .have hw:jH (gM {s with col:=cP s.col x 1,q:=s.q++[x]}) K.n+1=jH (gM s) K.n:=by
   rw[←jW (f:=gM s) K.n hx (by unfold gM;rw[hc];rfl)]
   congr 1
   refine jN _ (fun y _=>?_);show(cP s.col x 1 y==0)=cP (gM s) x false y;unfold cP;split
   .rfl
   .rfl
  unfold mu;show(K.L+K.n-s.root)+oi s.hs+70*(s.q++[x]).length+70*jH s.eI K.n+140*jH s.dq K.pg+(s.we-s.wa)+400*_<=_;rw[aJ,List.length_singleton];omega
theorem sN{K:eV}{s:St}{o:Option Nat}(hx:∀x,o=some x→x<K.n):mu K (gS K s o)<=mu K s:=by
 cases o with
 | none=>exact av _
 | some x=>exact ET (hx x rfl)
theorem Jh{K:eV}{s:St}{G:Nat→Bool}{i:Nat}{h:Hand}(I:fh K s G)(hi:s.hs[i]?=some h)(his:h.is=true):mu K (scan K s i h)<mu K s:=by
 have hm:h∈s.hs:=aH hi;have hf:=I.hf h hm;have h0:=sN (K:=K) (s:=s) (o:=iW K s.M h.slot h.field) (fun x hx=>Mi hx);have hhs:=oP K s (iW K s.M h.slot h.field);unfold scan;generalize gS K s (iW K s.M h.slot h.field)=t at *;rw[←hhs] at hi ⊢;have hwh:hw h=66-h.field:=by unfold hw;rw[his];rfl
 split
 .have h1:=lV _ _ _ ⟨0,0,false⟩ hi
  have h2:hw ⟨0,0,false⟩=0:=rfl;have h3:jH (fun y=>cP t.col h.slot 2 y==0) K.n<=jH (gM t) K.n:=by
   by_cases hc:t.col h.slot=0
   .by_cases hn:h.slot<K.n
    .have e:=jW (f:=gM t) K.n hn (by unfold gM;rw[hc];rfl)
     have e2:jH (fun y=>cP t.col h.slot 2 y==0) K.n=jH (cP (gM t) h.slot false) K.n:=jN _ (fun y _=>by
      show(cP t.col h.slot 2 y==0)=cP (gM t) h.slot false y;unfold cP;split <;> rfl)
     omega
    .refine Nat.le_of_eq (jN _ (fun y hy=>?_))
     show(cP t.col h.slot 2 y==0)=gM t y;rw[du _ _ (by omega)];rfl
   .refine Nat.le_of_eq (jN _ (fun y _=>?_))
    show(cP t.col h.slot 2 y==0)=gM t y;unfold cP gM;split
    .subst y;rw[aA.2 hc];rfl
    .rfl
  unfold mu at h0 ⊢;show(K.L+K.n-t.root)+oi (t.hs.set i ⟨0,0,false⟩)+70*t.q.length+70*jH t.eI K.n+140*jH t.dq K.pg+(t.we-t.wa)+400*jH (fun y=>cP t.col h.slot 2 y==0) K.n<_;omega
 .have h1:=lV _ _ _ ⟨h.slot,h.field+1,true⟩ hi
  have h2:hw ⟨h.slot,h.field+1,true⟩=66-(h.field+1):=rfl;unfold mu at h0 ⊢;show(K.L+K.n-t.root)+oi (t.hs.set i ⟨h.slot,h.field+1,true⟩)+70*t.q.length+70*jH t.eI K.n+140*jH t.dq K.pg+(t.we-t.wa)+400*jH (gM t) K.n<_;omega
theorem Ji{K:eV}{s:St}{G:Nat→Bool}(I:fh K s G)(hr:s.root<K.L+K.n):mu K (jA K s)<mu K s:=by
 have h0:=sN (K:=K) (s:=s) (o:=rootOf s.es s.cs s.root) (fun x hx=>I.tn x (I.roots _ _ hx).1);have hrt:=pq K s (rootOf s.es s.cs s.root);have AW:=hr;unfold jA;generalize gS K s (rootOf s.es s.cs s.root)=t at *;unfold mu at h0 ⊢;show(K.L+K.n-(s.root+1))+oi t.hs+70*t.q.length+70*jH t.eI K.n+140*jH t.dq K.pg+(t.we-t.wa)+400*jH (gM t) K.n<_;omega
theorem Jj{K:eV}{s:St}{i x:Nat}{l:List Nat}{h:Hand}(hi:s.hs[i]?=some h)(his:h.is=false)(hq:s.q=x::l):mu K (take s i x l)<mu K s:=by
 have h1:=lV _ _ _ ⟨x,0,true⟩ hi;have h2:hw ⟨x,0,true⟩=66:=rfl;have h3:hw h=0:=by unfold hw;rw[his];rfl
 unfold mu take;show(K.L+K.n-s.root)+oi (s.hs.set i ⟨x,0,true⟩)+70*l.length+70*jH s.eI K.n+140*jH s.dq K.pg+(s.we-s.wa)+400*jH (gM s) K.n<_;rw[hq,aC];omega
theorem Bn{K:eV}(hK:K.Ok){s:St}{p:Nat}(hw:s.wa=s.we)(hpp:p<K.pg)(hd:s.dq p=true):mu K (opened K s p)<mu K s:=by
 have h1:=jW (f:=s.dq) K.pg hpp hd;have h2:=hK.Qq p hpp;unfold mu opened;show(K.L+K.n-s.root)+oi s.hs+70*s.q.length+70*jH s.eI K.n+140*jH (cP s.dq p false) K.pg+(K.pf p+K.pm p-K.pf p)+400*jH (gM s) K.n<_;omega
theorem sO{K:eV}{s:St}{G:Nat→Bool}{i:Nat}{h:Hand}(I:fh K s G)(hwe:s.wa<s.we)(hi:s.hs[i]?=some h)(his:h.is=false):mu K (walked s i)<mu K s:=by
 have h1:=lV _ _ _ ⟨s.wa,0,true⟩ hi;have h2:hw ⟨s.wa,0,true⟩=66:=rfl;have h3:hw h=0:=by unfold hw;rw[his];rfl
 have hn:=I.wn;unfold walked
 split
 .rename_i ho
  have h4:=jW (f:=s.eI) K.n (by omega) ho;unfold mu;show(K.L+K.n-s.root)+oi (s.hs.set i ⟨s.wa,0,true⟩)+70*s.q.length+70*jH (cP s.eI s.wa false) K.n+140*jH s.dq K.pg+(s.we-(s.wa+1))+400*jH (gM s) K.n<_;omega
 .rename_i ho
  have h4:=Jg (f:=s.eI) (x:=s.wa) K.n (by simpa using ho);unfold mu;show(K.L+K.n-s.root)+oi s.hs+70*s.q.length+70*jH (cP s.eI s.wa false) K.n+140*jH s.dq K.pg+(s.we-(s.wa+1))+400*jH (gM s) K.n<_;omega
inductive iB (K:eV) (s:St):St→Prop
 | scan (i:Nat) (h:Hand):s.hs[i]?=some h→h.is=true→iB K s (scan K s i h)
 | jA:s.root<K.L+K.n→iB K s (jA K s)
 | take (i x:Nat) (l:List Nat) (h:Hand):s.hs[i]?=some h→h.is=false→s.q=x::l→iB K s (take s i x l)
 | opn (i p:Nat) (h:Hand):s.hs[i]?=some h→h.is=false→s.wa=s.we→p<K.pg→s.dq p=true→iB K s (walked (opened K s p) i)
 | walk (i:Nat) (h:Hand):s.hs[i]?=some h→h.is=false→s.wa<s.we→iB K s (walked s i)
theorem iB.left{K:eV}{s t:St}(m:iB K s t):Left s t:=by
 cases m with
 | scan i h _ _=>exact Be K s i h
 | jA _=>exact Bg K s
 | take i x l h _ _ _=>exact take_left s i x l
 | opn i p h _ _ _ _ _=>exact(vg K s p).trans (pz _ i)
 | walk i h _ _ _=>exact pz s i
theorem iB.inv{K:eV}(hK:K.Ok){s t:St}{G:Nat→Bool}(m:iB K s t)(I:fh K s G)(hp:s.phase=1):fh K t G/\mu K t<mu K s:=by
 cases m with
 | scan i h h1 h2=>exact⟨EH hK I hp h1 h2,Jh I h1 h2⟩
 | jA h=>exact⟨EI I hp h,Ji I h⟩
 | take i x l h h1 h2 h3=>exact⟨EJ I hp h1 h2 h3,Jj h1 h2 h3⟩
 | opn i p h h1 h2 h3 h4 h5=>
  have J:=xy hK I h3 h4;have hlt:(opened K s p).wa<(opened K s p).we:=by have:=(hK.Qq p h4).1;show K.pf p<K.pf p+K.pm p;omega
  exact⟨qM J hlt h1 h2,Nat.lt_trans (sO J hlt h1 h2) (Bn hK h3 h4 h5)⟩
 | walk i h h1 h2 h3=>exact⟨qM I h3 h1 h2,sO I h3 h1 h2⟩
theorem xC{K:eV}(hK:K.Ok){s:St}{G:Nat→Bool}(I:fh K s G)(h1:∀h∈s.hs,h.is=false)(h2:s.q=[])(h3:s.root=K.L+K.n)(h4:s.wa=s.we)(h5:∀p,p<K.pg→s.dq p=false):mS K s:=
 ⟨h1,h3,h2,h4,fun x=>by
  cases e:s.eI x
  .rfl
  .rcases I.ow x e with h|h
   .rw[h5 _ (hK.RN x (I.on x e))] at h;cases h
   .omega⟩
end Go.Gc
namespace Go.Proofs.YtgblmelijlgimaaGreatDoor
open Go.Proofs.Tryz
namespace Gy
open Go.RowKit Go.bZ Go.Gc Sl Bt
structure Gi where
 q:Nat
 ro:Nat
 go:Nat
 rd:Nat
 gd:Nat
 rg:Nat
 p:Nat
 n:Nat
 pg:Nat
 dv:Nat
def Ring(ring:List Int)(dv f:Nat)(ql:List Nat):Prop:=ring.length=dv/\f<dv/\ql.length<=dv/\∀j,j<ql.length→ring.getD ((f+j)%dv) 0=(ql.getD j 0:Nat)
structure lg(w:World)(i:Gi)(f:Nat)(ring:List Int)(ql:List Nat)(ow di:Nat→Bool)(wa we:Nat):Prop where
 b0:cj w i.q #[af (aj i.ro),af (aj i.rd),af (aj i.p),ai (aj i.rg) i.dv i.dv,U f,U ql.length,U wa,U we] 240
 b1:cj w i.rg (ints .i64 ring) 3
 ro:ee w i.ro i.go i.n ow
 rd:ee w i.rd i.gd i.pg di
 rn:Ring ring i.dv f ql
 l1:1<=i.dv/\i.dv<=64
 wl:wa<=we/\we<=65536
 nd:[i.q,i.ro,i.go,i.rd,i.gd,i.rg].Nodup
def dV(w:World)(i:Gi)(ql:List Nat)(ow di:Nat→Bool)(wa we:Nat):Prop:=∃f ring,lg w i f ring ql ow di wa we
structure Gi.Ne(i:Gi):Prop where
 n1:i.q≠i.ro
 n2:i.q≠i.go
 n3:i.q≠i.rd
 n4:i.q≠i.gd
 n5:i.q≠i.rg
 n6:i.ro≠i.go
 n7:i.ro≠i.rd
 n8:i.ro≠i.gd
 n9:i.ro≠i.rg
 m1:i.go≠i.rd
 m2:i.go≠i.gd
 m3:i.go≠i.rg
 m4:i.rd≠i.gd
 m5:i.rd≠i.rg
 m6:i.gd≠i.rg
theorem Gi.ne{i:Gi}(h:[i.q,i.ro,i.go,i.rd,i.gd,i.rg].Nodup):i.Ne:=by
 simp only[List.nodup_cons,List.mem_cons,List.not_mem_nil,or_false,not_or] at h;obtain⟨⟨a1,a2,a3,a4,a5⟩,⟨a6,a7,a8,a9⟩,⟨b1,b2,b3⟩,⟨b4,b5⟩,b6,_⟩:=h;exact⟨a1,a2,a3,a4,a5,a6,a7,a8,a9,b1,b2,b3,b4,b5,b6⟩
def Gi.own(i:Gi)(k:Nat):Prop:=k=i.q\/k=i.ro\/k=i.go\/k=i.rd\/k=i.gd\/k=i.rg
theorem lg.bY{S:Nat→Prop}{w w':World}{i:Gi}{f:Nat}{ring:List Int}{ql:List Nat}{ow di:Nat→Bool}{wa we:Nat}(h:lg w i f ring ql ow di wa we)(hc:cu S w w')(hs:∀k,i.own k→¬S k):lg w' i f ring ql ow di wa we:=
 ⟨h.b0.bY hc (hs _ (.inl rfl)),h.b1.bY hc (hs _ (.inr (.inr (.inr (.inr (.inr rfl)))))),h.ro.bY hc (hs _ (.inr (.inl rfl))) (hs _ (.inr (.inr (.inl rfl)))),h.rd.bY hc (hs _ (.inr (.inr (.inr (.inl rfl))))) (hs _ (.inr (.inr (.inr (.inr (.inl rfl)))))),h.rn,h.l1,h.wl,h.nd⟩
theorem dV.bY{S:Nat→Prop}{w w':World}{i:Gi}{ql:List Nat}{ow di:Nat→Bool}{wa we:Nat}(h:dV w i ql ow di wa we)(hc:cu S w w')(hs:∀k,i.own k→¬S k):dV w' i ql ow di wa we:=by
 obtain⟨f,ring,h⟩:=h;exact⟨f,ring,h.bY hc hs⟩
theorem dV.cA{w w':World}{i:Gi}{ql:List Nat}{ow di:Nat→Bool}{wa we:Nat}(h:dV w i ql ow di wa we)(hb:Below w.heap.size w w'):dV w' i ql ow di wa we:=h.bY (cu.cD hb) (S:=fun _=>False) (fun _ _ h=>h)
theorem dV.drewN{w:World}{i:Gi}{ql:List Nat}{ow di:Nat→Bool}{wa we:Nat}(h:dV w i ql ow di wa we)(k:Nat):dV (w.drewN k) i ql ow di wa we:=h.bY ((cu.refl (fun _=>False) w).drewN k) (fun _ _ h=>h)
theorem dV.drew{w:World}{i:Gi}{ql:List Nat}{ow di:Nat→Bool}{wa we:Nat}(h:dV w i ql ow di wa we):dV w.drew i ql ow di wa we:=h.bY ((cu.refl (fun _=>False) w).drew) (fun _ _ h=>h)
theorem cC{w:World}{i:Gi}{ql:List Nat}{ow di:Nat→Bool}{wa we:Nat}(h:dV w i ql ow di wa we):ak 258 #[af (aj i.q)] w fun e w'=>e=ae (.bool false)/\w=w':=by
 obtain⟨f,ring,h⟩:=h;have c3:w.cell? (aj i.q (2+1))=some (ai (aj i.rg) i.dv i.dv):=h.b0.cell 3;have hp:((i.dv:Int)==0)=false:=by have:=h.l1;rw[aA];omega
 generalize i.q=q at *;clear h;go_enter func258,ntmps258;go_wp2_with fail;go_ret;exact⟨rfl,rfl⟩
theorem Jk{w:World}{ro go rd gd n pg:Nat}{ow di:Nat→Bool}(h1:ee w ro go n ow)(h2:ee w rd gd pg di)(n1:ro≠gd)(n2:go≠gd)(n3:rd≠go){x y:Nat}(hx:x<n)(hy:y<pg):
  ak 308 #[.agg #[af (aj ro),af (aj rd)],U x,U y] w fun e w'=>e=ae (.tuple #[])/\ee w' ro go n (cP ow x true)/\ee w' rd gd pg (cP di y true)/\cu (fun k=>k=go\/k=gd) w w':=by
 have dj:=(bV _ w).alloc (av _) (.cells #[af (aj ro),af (aj rd)] 238);have d1:=kO (h1.cA dj) x hx true;have D2:Hid (∀w2,cu (· =go) (w.alloc (.cells #[af (aj ro),af (aj rd)] 238)) w2→w2.cell? (aj w.heap.size 1)=some (af (aj rd))/\ak 173 #[af (aj rd),U y,.bool true] w2 fun e w'=>e=ae (U 0)/\ee w' rd gd pg (lM di y true)/\cu (· =gd) w2 w'):=bU (fun w2 hc=>⟨((cj.new w _ _).bY hc (by have:=h1.lt;omega)).cell 1,kO ((h2.cA dj).bY hc n3 (Ne.symm n2)) y hy true⟩);clear h1 h2 dj;go_enter func308,ntmps308;go_wp2_with (first|(go_at_call 173;(with_reducible refine d1.mono ?_);rintro e w2 ⟨rfl,r1,k1⟩;obtain⟨e1,d2⟩:=D2.out w2 k1;have R1:=bU r1;have K1:=bU k1;clear r1 k1 d1)|(go_at_call 173;(with_reducible refine d2.mono ?_);rintro e w3 ⟨rfl,r2,k2⟩))
 go_end0
 exact⟨rfl,R1.out.bY k2 n1 n2,r2,(((xt (fun k=>k=go\/k=gd) w _).trans (K1.out.up (fun _ h=>.inl h))).trans (k2.up (fun _ h=>.inr h)))⟩
theorem zj{w:World}{ro rd go n:Nat}{ow:Nat→Bool}(h1:ee w ro go n ow){x:Nat}(hx:x<n):
  ak 264 #[.agg #[af (aj ro),af (aj rd)],U x] w fun e w'=>e=ae (.bool (ow x))/\ee w' ro go n (cP ow x false)/\cu (· =go) w w':=by
 have dj:=(bV _ w).alloc (av _) (.cells #[af (aj ro),af (aj rd)] 238);have d1:=kO (h1.cA dj) x hx false;have d0:=xl (h1.cA dj) x hx;clear h1 dj;go_enter func264,ntmps264;go_wp2_with (first|(go_at_call 221;(with_reducible refine d0.mono ?_);rintro e w2 ⟨rfl,rfl⟩)|(go_at_call 173;(with_reducible refine d1.mono ?_);rintro e w2 ⟨rfl,r1,k1⟩))
 go_ret;exact⟨rfl,r1,(xt (· =go) w _).trans k1⟩
theorem EU{w:World}{i:Gi}{ql:List Nat}{ow di:Nat→Bool}{wa we:Nat}(h:dV w i ql ow di wa we):ak 259 #[af (aj i.q)] w (zg ow w):=by
 have d:=cC h;obtain⟨f,ring,h⟩:=h;have dc:=AU h.ro;have c0:w.cell? (aj i.q)=some (af (aj i.ro)):=h.b0.cell 0;clear h;generalize i.q=q at *;go_enter func259,ntmps259;go_wp2_with (first|(go_at_call 258;(with_reducible refine d.mono ?_);rintro e w2 ⟨rfl,rfl⟩)|(go_at_call 288;(with_reducible refine dc.mono ?_);rintro e w2 ⟨c,rfl,hc,rfl⟩;have HC:=bU hc;clear hc))
 go_ret;exact⟨c,rfl,HC.out,rfl⟩
end Gy
namespace Gy
open Go.RowKit Go.bZ Go.Gc Sl Bt
theorem Oy{L a:Nat}(h:a<L+L):a%L=if a<L then a else a-L:=by
 split
 .rename_i c;exact bf c
 .rename_i c
  rw[Nat.mod_eq_sub_mod (by omega),bf (by omega)]
theorem Ring.put{ring:List Int}{L f:Nat}{ql:List Nat}(h:Ring ring L f ql)(hl:ql.length<L)(x:Nat):Ring (ring.set ((f+ql.length)%L) (x:Int)) L f (ql++[x]):=by
 obtain⟨h1,h2,h3,h4⟩:=h;refine⟨by rw[aI];exact h1,h2,by simp;omega,fun j hj=>?_⟩;have e:=Oy (L:=L) (a:=f+ql.length) (by omega);have ej:j<=ql.length:=by simp at hj;omega
 have e2:=Oy (L:=L) (a:=f+j) (by omega);have hm:(f+ql.length)%L<L:=Nat.mod_lt _ (by omega);by_cases c:j=ql.length
 .subst c
  rw[ao,List.getElem?_set_self (by omega),ao,aS (by omega)];simp
 .have hne:(f+ql.length)%L≠(f+j)%L:=by
   rw[e,e2]
   split <;> split <;> omega
  rw[ao,List.getElem?_set_ne hne,←ao,h4 j (by omega),ao (l:=ql++[x]),bj (by omega),←ao]
theorem Ring.next{ring:List Int}{L f x:Nat}{l:List Nat}(h:Ring ring L f (x::l)):ring.getD f 0=(x:Nat)/\Ring ring L ((f+1)%L) l:=by
 obtain⟨h1,h2,h3,h4⟩:=h;have h0:=h4 0 (by simp);rw[bN,bf h2] at h0;refine⟨h0,h1,Nat.mod_lt _ (by omega),by simp at h3;omega,fun j hj=>?_⟩;have:=h4 (j+1) (by simp;omega);rw[Nat.mod_add_mod,show f+1+j=f+(j+1) by omega,this]
 rfl
theorem EV{w:World}{i:Gi}{ql:List Nat}{ow di:Nat→Bool}{wa we:Nat}(h:dV w i ql ow di wa we){g cap pw:Nat}{rs:List Rec}(hp:ff w i.p g cap rs i.n i.pg pw){x k:Nat}{r:Rec}(hs:eJ pw rs i.n i.pg x k r)(hx:x<i.n)(hl:ql.length=i.dv):
  ak 290 #[af (aj i.q),U x] w fun e w'=>e=ae (U 0)/\dV w' i ql (cP ow x true) (cP di (gp rs x) true) wa we/\cu i.own w w':=by
 have d:=cC h;have HP:=bU h;obtain⟨f,ring,h⟩:=h;have ne:=Gi.ne h.nd;have dp:=vd w hp hs hx;have hpi:=hs.AY;have hpg:=hs.nk;have c2:w.cell? (aj i.q 2)=some (af (aj i.p)):=h.b0.cell 2;have HC:Hid (∀W,Below w.heap.size w W→W.cell? (aj i.q)=some (af (aj i.ro))/\W.cell? (aj i.q 1)=some (af (aj i.rd))/\W.cell? (aj i.q 3)=some (ai (aj i.rg) i.dv i.dv)/\W.cell? (aj i.q 5)=some (U i.dv)):=bU (fun W hW=>⟨(h.b0.cA hW).cell 0,(h.b0.cA hW).cell 1,(h.b0.cA hW).cell 3,by rw[←hl];exact(h.b0.cA hW).cell 5⟩);have DO:Hid (∀W,Below w.heap.size w W→ak 308 #[.agg #[af (aj i.ro),af (aj i.rd)],U x,U (gp rs x:Int)] W fun e w'=>e=ae (.tuple #[])/\dV w' i ql (cP ow x true) (cP di (gp rs x) true) wa we/\cu i.own W w'):=bU (fun W hW=>(Jk (h.ro.cA hW) (h.rd.cA hW) ne.n8 ne.m2 (Ne.symm ne.m1) hx (y:=gp rs x) (by omega)).mono (fun e w' ⟨e1,e2,e3,e4⟩=>⟨e1,⟨f,ring,(h.b0.cA hW).bY e4 (by have:=ne.n2;have:=ne.n4;omega),(h.b1.cA hW).bY e4 (by have:=ne.m3;have:=ne.m6;omega),e2,e3,h.rn,h.l1,h.wl,h.nd⟩,e4.up (fun k hk=>by rcases hk with hk|hk;exact .inr (.inr (.inl hk));exact .inr (.inr (.inr (.inr (.inl hk)))))⟩));have hlg:=h.l1;generalize gp rs x=y at *;generalize cP ow x true=Wg at *;generalize cP di y true=Wh at *;clear h hp hs hl hpi hpg ne;obtain⟨q,hq⟩:=al (i.q);rw[hq] at d c2 HC ⊢;clear hq;go_enter func290,ntmps290;go_wp2_with (first|(go_at_call 258;(with_reducible refine d.mono ?_);rintro e w2 ⟨rfl,rfl⟩)|(go_at_call 307;(with_reducible refine dp.mono ?_);rintro e w3 ⟨rfl,dJ⟩;obtain⟨y0,y1,y3,y5⟩:=HC.out w3 dJ;have H3:=bU dJ;clear dJ))
 go_region_held3 (fun w'=>w'.cell? (aj q 3)=some (ai (aj i.rg) i.dv i.dv)/\w'.cell? (aj q 5)=some (U i.dv)) (go_keep) (fail)
 go_wp2_with (go_at_call 308;refine(DO.out _ (bd H3.out)).mono ?_;rintro e w4 ⟨rfl,q4,k4⟩;have Q:=bU q4;have K:=bU k4;clear q4 k4)
 go_ret;exact⟨rfl,Q.out,(cu.cD (S:=i.own) (bd H3.out)).trans K.out⟩
end Gy
end Go.Proofs.YtgblmelijlgimaaGreatDoor
