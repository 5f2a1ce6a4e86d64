/- Parts of the proof of TopApart. -/
import Derived.Test.YtgblmelijlgimaaGreatDoorZTopAW
set_option maxRecDepth 100000
namespace Go.bZ
open Go Go.RowKit
def vY{α:Type}(F:Fence)(n:Nat)(P:Program)(gf:Nat)(lb:Array Value)(encs:α→Array Value)(I:List α→World→Prop)(Ok:List α→α→Prop)(S:List α→Prop)(w:World):Prop:=
 ∀(l:Nat) (J:List α→World→Prop) (V:World),Below w.heap.size w V→AbidesFrom V.heap.size J→(∀s X,J s X→I s X)→
  (∀pre x X,J pre X→Ok pre x→YieldAt F (n-1) P l (encs x) X fun e X'=>e=ae (.bool true)/\J (pre++[x]) X')→J [] V→
  CallsIn F n P gf (#[.func (.yield l) #[] #[]]++lb) V fun e V'=>(∃v,e=ae v)/\∃xs,S xs/\J xs V'
variable {F:Fence} {n:Nat} {P:Program}
theorem o6{α:Type}{g:Operand}{ps:Array Tmp}{assign body:Code}{Q:Exit→Act→World→Prop}{a:Act}{w:World}
 (hro:F.round=none)(h1:1<=n){gf:Nat}{lb:Array Value}(hg:a.eval g=.func (.func gf) #[] lb)(hFg:F.fn gf)(eg:∀args w,(callFunc gf args).run P w=.ok (.enter gf args) w)
 {encs:α→Array Value}{S:List α→Prop}{I:List α→World→Prop}{Ok:List α→α→Prop}(hseq:vY F (n-1) P gf lb encs I Ok S w)(hps:∀x,(encs x).size=ps.size)(hI:OwnFrom w.heap.size I)(h0:I [] w)(a₁:α→Act)
 (hassign:∀(l:Nat) (x:α) (V:World) (K:Act→World→Prop),K (a₁ x) V→assign.wpIn (F.inRound l) (n-1-1) P (Exit.then K (fun _ _ _=>False)) {tmps:=(ps.zip (encs x)).foldl (fun t (p,v)=>t.setIfInBounds p v) a.tmps,defers:=[]} V)
 (hbody:∀(l:Nat) (pre:List α) (x:α) (V:World),I pre V→Ok pre x→body.wpIn (F.inRound l) (n-1-1) P (fun e _ V'=>e=.normal/\KeepsFrom w.heap.size V V'/\I (pre++[x]) V') (a₁ x) V)
 (hdone:∀(D:Nat) (xs:List α) (V:World),w.heap.size<=D→S xs→I xs V→V.heap[D]?=some (.deferred (some []))→Q .normal {a with defers:={target:=.collected D,args:=#[]}::a.defers} V):
  (Code.rangeFunc g ps assign body).wpIn F n P Q a w:=by
 refine wpIn_rangeFunc (fun fn hfn=>?_);rw[hro];obtain⟨rc,hrc⟩:∃rc:LoopState→Loop,rc=fun st=>{state:=st,pending:=none,fn,tmps:=a.tmps,params:=ps,assign,body,defers:=w.heap.size}:=⟨_,rfl⟩
 obtain⟨V0,MO⟩:=al ((w.alloc (.deferred (some []))).alloc (.loop (rc .ready)));have s0:V0.heap.size=w.heap.size+1+1:=by rw[←MO];simp
 have k0:V0.heap[w.heap.size+1]?=some (.loop (rc .ready))/\V0.heap[w.heap.size]?=some (.deferred (some [])):=by
  rw[←MO];refine⟨?_,(Below.heap_alloc _ _ _ (by simp)).trans (World.alloc_heap_new w _)⟩;have:=World.alloc_heap_new (w.alloc (.deferred (some []))) (.loop (rc .ready))
  rwa [World.size_alloc] at this
 have hIV:I [] V0:=by rw[←MO];exact hI.alloc _ (hI.alloc _ h0)
 have hbV:Below w.heap.size w V0:=by rw[←MO];exact((bV _ w).alloc (av _) _).alloc (by simp) _
 have hent:(Instr.enterLoop fn a.tmps ps assign body none).run P w=.ok (w.heap.size+1,[{target:=.collected w.heap.size,args:=#[]}]) V0:=by
  rw[run_enterLoop_outer,←MO,hrc]
 refine⟨w.heap.size+1,[{target:=.collected w.heap.size,args:=#[]}],V0,{target:=.fn (.func gf) lb,args:=#[.func (.yield (w.heap.size+1)) #[] #[]]},V0,gf,#[.func (.yield (w.heap.size+1)) #[] #[]]++lb,V0,hent,?_,?_,?_,fun _=>h1,?_⟩
 .simp only[resolve,hg]
  simp[go_sem]
 .intro f' Se
  simp[Target.leads] at Se;subst Se;exact hFg
 .simp[invoke,go_sem,eg]
 .have jP:∀{X:World} {st OS:LoopState},X.heap[w.heap.size+1]?=some (.loop (rc st))→X.heap[w.heap.size]?=some (.deferred (some []))→
    (X.putObj (w.heap.size+1) (.loop (rc OS))).heap[w.heap.size+1]?=some (.loop (rc OS))/\(X.putObj (w.heap.size+1) (.loop (rc OS))).heap[w.heap.size]?=some (.deferred (some [])):=fun h2 h3=>
   ⟨World.putObj_heap_same (aD.1 h2).1,(World.putObj_heap_other (by omega)).trans h3⟩
  refine(hseq (w.heap.size+1) (fun pre X=>I pre X/\X.heap[w.heap.size+1]?=some (.loop (rc .ready))/\X.heap[w.heap.size]?=some (.deferred (some []))) V0 hbV ?_ (fun _ _ h=>h.1) ?_ ⟨hIV,k0⟩).mono ?_
  .rintro s A B row ⟨a1,a2,a3⟩ hgr hr
   exact⟨hI s A B row a1 hgr (fun r e=>⟨by have:=(hr r e).1;omega,by obtain⟨o,ho,hw⟩:=(hr r e).2;exact⟨o,ho,Obj.not_cells_of_walk hw⟩⟩),(grownBy_keeps hgr (fun r e=>(hr r e).2) a2 rfl).trans a2,(grownBy_keeps hgr (fun r e=>(hr r e).2) a3 rfl).trans a3⟩
  .rintro pre x X ⟨a1,a2,a3⟩ hlen
   have hy:=run_yield (P:=P) (args:=encs x) a2 (by rw[hrc];exact hps x);rw[hrc] at hy;refine⟨fn,_,assign,body,hy,roundIn_of_wpIn hfn (hassign _ x X _ ?_)⟩;obtain⟨b2,b3⟩:=jP (OS:=.busy) a2 a3;refine⟨X.putObj (w.heap.size+1) (.loop (rc .busy)),by rw[run_beginRound a2 (by rw[hrc]),hrc],?_⟩;refine wpIn_mono (hbody _ pre x _ (hI.putObj _ a1 (by omega) a2 rfl) hlen) ?_;rintro e a' Y ⟨rfl,c1,c2⟩;have d2:=c1.same _ _ (by omega) b2 rfl;have d3:=c1.same _ _ (av _) b3 rfl;obtain⟨f2,f3⟩:=jP (OS:=.ready) d2 d3;have hend:=run_endRound (P:=P) none d2;rw[hrc] at hend f2 f3;exact⟨_,_,hend,rfl,hI.putObj _ c2 (by omega) d2 rfl,by rw[hrc];exact f2,f3⟩
  .rintro e X ⟨⟨v,rfl⟩,xs,hS,a1,a2,a3⟩
   have hend:=run_endLoop (P:=P) a2 (by rw[hrc];simp);rw[hrc] at hend;refine⟨none,_,hend,hdone _ xs _ (av _) hS (hI.putObj _ a1 (by omega) a2 rfl) ((World.putObj_heap_other (by omega)).trans a3)⟩
end Go.bZ
namespace Go.Proofs.YtgblmelijlgimaaGreatDoor
open Go.Proofs.Tryz
namespace Tb
open Go.RowKit Go.bZ Go.Gc Go.Shelf Bt Ar
attribute [local go_sem] Oper.semAt_some
def Fit(q q2 p g s:Nat)(es:List eG)(pre:List {x:Nat//x<es.length/\js es s x=true})(V:World):Prop:=
 V.cell? (aj q)=some (af (aj p))/\V.cell? (aj q2)=some (U s)/\V.cell? (aj p)=some (ai (aj g) es.length es.length)/\∀i,(hi:i<es.length)→i∉gO pre→V.cell? (aj g (i*3))=some (U es[i].state)
def MP(es:List eG)(s:Nat)(pre:List {x:Nat//x<es.length/\js es s x=true})(x:{x:Nat//x<es.length/\js es s x=true}):Prop:=pre=iP (js es s) es.length x.val
set_option maxHeartbeats 4000000 in
theorem CN(m:Nat)(_hm:1<=m)(q q2 p g s:Nat)(es:List eG)(hfew:es.length<=65536)(I:List {x:Nat//x<es.length/\js es s x=true}→World→Prop)(hI:∀pre V,I pre V→Fit q q2 p g s es pre V)(w:World):
  vY Fence.wide m prog 300 #[af (aj q),af (aj q2)] (fun x:{x:Nat//x<es.length/\js es s x=true}=>#[Value.int .i64 x.val,af (aj g (x.val*3))]) I (MP es s) (fun xs=>xs=iP (js es s) es.length es.length) w:=by
 intro l J W _ hJA hJI hY h0;have hAb:=AbidesFrom.later hJA;refine callsIn_of_wp func300 rfl trivial ?_ rfl;simp only[ntmps300,aP,aC,aV,Nat.reduceAdd,Nat.reduceSub,aL,aK,aT,aM,aU,aX];have HJ:=bU (fun pre V h=>hI pre V (hJI pre V h));obtain⟨d1,-,d2,-⟩:=HJ.out _ _ h0;have HY:=bU hY;have HA:=bU hAb;have H0:=bU h0;clear hY hAb h0 hJA hJI hI
 gi_wp2
 clear d1 d2
 gi_loopw [11] (fun i wr=>∃a:Nat,a<=es.length/\i=U a/\Hid (J (iP (js es s) es.length a) wr)) (fun i _=>es.length-(intOf i).toNat)
 case atStart=>exact⟨0,by omega,rfl,H0⟩
 case round=>
  obtain⟨a,ha,rfl,hJ⟩:=hrel;by_cases hlt:a<es.length
  .obtain⟨y0,y1,y2,y3⟩:=HJ.out _ _ hJ.out
   have y4:=y3 a hlt (fun h=>by have:=(jz _ _).1 h;omega);have hsf:=Fz (s:=s) hlt;have hls:iP (js es s) es.length (a+1)=iP (js es s) es.length a++(if h:a<es.length/\js es s a=true then[⟨a,h⟩] else[]):=rfl;clear y3;generalize es[a].state=sa at *;by_cases hss:sa=s
   .have hst:js es s a=true:=by rw[hsf,hss];simp
    rw[dif_pos ⟨hlt,hst⟩] at hls;obtain⟨fn,tmps,assign,body,hy,hR⟩:=HY.out _ ⟨a,⟨hlt,hst⟩⟩ wr.drew (HA.out _ _ _ hJ.out (bd (bV _ _))) rfl
    dsimp only at hy
    rw[←hls] at hR;have I6:=hR.mono (R':=fun e W'=>e=ae (.bool true)/\Hid (J (iP (js es s) es.length (a+1)) W')) (fun e W' ⟨h1,h2⟩=>⟨h1,bU h2⟩);have e1:((sa:Int)==(s:Int))=true:=by rw[beq_iff_eq];omega
    have hmx:prog.follows .mixedOrders=true:=by kernel_rfl
    clear hR hls hsf hst hss
    gi_wp2
    gi_region_with_o (with_reducible refine I6.mono ?_;rintro e W3 ⟨rfl,h3⟩)
    all_goals
     gi_wp2
     go_roundw
     case rel=>exact⟨a+1,by omega,by go_num,h3⟩
     case measure=>simp[intOf];omega
   .have hst:¬(a<es.length/\js es s a=true):=by rw[hsf];simp[hss]
    rw[dif_neg hst,List.append_nil] at hls;have HLS:=bU hls;have e1:((sa:Int)==(s:Int))=false:=by rw[aA];omega
    clear hls hsf hst hss;refine wpIn_wide.2 ?_;go_wp2_with fail
    go_quiet (fail)
    go_wp2_with fail
    go_roundw
    case rel=>exact⟨a+1,by omega,by go_num,bU (by rw[HLS.out];exact HA.out _ _ _ hJ.out (jh (bV _ _) _))⟩
    case measure=>simp[intOf];omega
  .obtain rfl:a=es.length:=by omega
   gi_wp2
   go_end0
   exact⟨⟨_,rfl⟩,_,rfl,hJ.out⟩
end Tb
namespace Tb
open Go.RowKit Go.bZ Go.Gc Go.Shelf Bt Ar
attribute [local go_sem] Oper.semAt_some
def mq(gens:Nat)(l:List Nat)(es:List eG):List eG:=es.mapIdx fun i e=>if l.contains i then fo gens e else e
theorem rD(gens:Nat)(l:List Nat)(es:List eG):(mq gens l es).length=es.length:=by simp[mq]
theorem oB(gens:Nat)(l:List Nat)(es:List eG)(j:Nat):(mq gens l es)[j]?=es[j]?.map (fun e=>if l.contains j then fo gens e else e):=by simp[mq]
theorem uj{gens:Nat}{l:List Nat}{es:List eG}{j:Nat}(h:j∉l):(mq gens l es)[j]?=es[j]?:=by
 rw[oB];have:l.contains j=false:=by simpa using h
 rw[this]
 cases es[j]? <;> rfl
theorem CO{gens:Nat}{l:List Nat}{es:List eG}{x:Nat}{e:eG}(he:es[x]?=some e):mq gens (l++[x]) es=(mq gens l es).set x (fo gens e):=by
 apply List.ext_getElem?;intro j;rw[oB];by_cases c:j=x
 .subst c
  have hl:j<(mq gens l es).length:=by rw[rD];exact(au.1 he).1
  rw[List.getElem?_set_self hl,he];simp
 .rw[List.getElem?_set_ne (Ne.symm c),oB]
  have:(l++[x]).contains j=l.contains j:=by rw[Bool.eq_iff_iff];simp[c]
  rw[this]
theorem Gu{gens:Nat}{es:List eG}:mq gens (gO (iP (js es 2) es.length es.length)) es=es.map (fo gens):=by
 apply List.ext_getElem?;intro j;rw[oB,aR]
 cases he:es[j]? with
 | none=>rfl
 | some e=>
  have hl:=(au.1 he).1;simp only[Option.map_some]
  congr 1
  split
  .rfl
  .rename_i c
   unfold fo;rw[if_neg];intro h2;apply c;rw[List.contains_iff_mem,jz];exact⟨hl,hl,by unfold js;rw[he];simp[h2]⟩
theorem eP.MQ{w:World}{p g:Nat}{es:List eG}{gens:Nat}(h:eP w p g es gens){i:Nat}{e:eG}(he:es[i]?=some e)(z:Nat)(hz:z<4294967296):eP (w.setCell (aj g (i*3+2)) (.int .u32 z)) p g (es.set i {e with gen:=z}) gens:=by
 have hm:=aH he;have hc:∀k,eR (es.set i {e with gen:=z}) k=eR es k:=fun k=>by
  have:=fp es i e {e with gen:=z} k he;simp at this;omega
 refine⟨?_,by rw[←(qg es i e z he).2.2];exact h.b1.set _ _,by rw[aI];exact h.pos,by rw[aI];exact h.jU,fun x hx=>?_,h.gs,h.ne⟩
 .rw[aI,hc,hc,hc,hc]
  exact h.b0.other h.ne _ _
 .rcases aZ hx with hx|rfl
  .exact h.gen x hx
  .exact⟨hz,(h.gen e hm).2⟩
structure pR(w:World)(p g:Nat)(es:List eG)(gens:Nat)(B:Nat)(pre:List {x:Nat//x<es.length/\js es 2 x=true})(V:World):Prop where
 tb:eP V p g (mq gens (gO pre) es) gens
 b0:cj V w.heap.size #[af (aj p)] 137
 b1:∃c:Nat,c<=pre.length/\cj V (w.heap.size+1) #[U c] 3
 b2:cj V (w.heap.size+1+1) #[af (aj p)] 137
 b3:cj V (w.heap.size+1+1+1) #[U 2] 3
 ch:cu (fun k=>k=p\/k=g) w V
 sz:B<=V.heap.size
theorem pR.fit{w V:World}{p g gens B:Nat}{es:List eG}{pre:List {x:Nat//x<es.length/\js es 2 x=true}}(h:pR w p g es gens B pre V):Fit (w.heap.size+1+1) (w.heap.size+1+1+1) p g 2 es pre V:=by
 have h0:V.cell? (aj p)=some (ai (aj g) (mq gens (gO pre) es).length (mq gens (gO pre) es).length):=h.tb.b0.cell 0;rw[rD] at h0;refine⟨h.b2.cell 0,h.b3.cell 0,h0,fun i hi hn=>?_⟩;have xP:i<(mq gens (gO pre) es).length:=by rw[rD];exact hi
 have:=(h.tb.at i xP).1;rw[this];have e1:=uj (gens:=gens) (es:=es) hn;rw[aq xP,aq hi] at e1;injection e1 with e1;rw[e1]
theorem pR.below{w V V':World}{p g gens B:Nat}{es:List eG}{pre:List {x:Nat//x<es.length/\js es 2 x=true}}(h:pR w p g es gens B pre V)(hp:p<w.heap.size)(hg:g<w.heap.size)(hB:w.heap.size+1+1+1<B)(hb:Below B V V'):pR w p g es gens B pre V':=by
 have hc:cu (fun k=>B<=k) V V':=⟨hb.os,hb.tape,hb.output,hb.size,fun k _ hk=>hb.block k (by have:¬B<=k:=hk;omega)⟩;obtain⟨c,hcl,hcb⟩:=h.b1;exact⟨h.tb.bY hc (by omega) (by omega),h.b0.bY hc (by omega),⟨c,hcl,hcb.bY hc (by omega)⟩,h.b2.bY hc (by omega),h.b3.bY hc (by omega),h.ch.tr hc (fun k h1 h2=>absurd h1 (by have:B<=k:=h2;omega)),aE h.sz hb.size⟩
theorem pR.next{w V Y:World}{p g gens B:Nat}{es:List eG}{pre:List {x:Nat//x<es.length/\js es 2 x=true}}(h:pR w p g es gens B pre V)(hp:p<w.heap.size)(hg:g<w.heap.size)(x:{x:Nat//x<es.length/\js es 2 x=true}){e:eG}(he:es[x.val]?=some e)(hc:cu (fun k=>k=p\/k=g\/k=w.heap.size+1) V Y){c:Nat}(hcl:c<=pre.length+1)(hb:cj Y (w.heap.size+1) #[U c] 3)(ht:eP Y p g ((mq gens (gO pre) es).set x.val (fo gens e)) gens):pR w p g es gens B (pre++[x]) Y:=by
 refine⟨?_,h.b0.bY hc (by omega),⟨c,by simpa using hcl,hb⟩,h.b2.bY hc (by omega),h.b3.bY hc (by omega),h.ch.tr hc (fun k h1 h2=>by rcases h2 with h2|h2|h2;exact .inl h2;exact .inr h2;exfalso;omega),aE h.sz hc.size⟩;rw[oX,CO he];exact ht
def Kf(p g:Nat)(es:List eG)(gens:Nat)(w:World)(e:Ending)(w':World):Prop:=(∃c:Int,e=ae (U c))/\eP w' p g (es.map (fo gens)) gens/\cu (fun k=>k=p\/k=g) w w'
set_option maxHeartbeats 2000000 in
theorem yd{w:World}{p g:Nat}{es:List eG}{gens:Nat}(h:eP w p g es gens):
  ak 293 #[af (aj p)] w (Kf p g es gens w):=by
 obtain⟨W,hW⟩:=al ((w.alloc (.cells #[af (aj p)] 137)).alloc (.cells #[U 0] 3));have h0:=h.bY (xt (fun _=>False) w (.cells #[af (aj p)] 137)) id id;have d0:=cC h0;have din:=callsIn_wide.1 (LI 0 p 2 W);subst hW;refine(callsIn_wide (n:=3)).1 ?_;refine callsIn_of_wp_marks func293 rfl trivial ?_ rfl;simp only[ntmps293,aP,aC,aV,Nat.reduceAdd,Nat.reduceSub,aL,aK,aT,aM,aU,aX];refine wpIn_wide.2 ?_;go_wp2_with (first|(go_at_call 122;refine d0.mono ?_;rintro e w' ⟨rfl,rfl⟩)|(go_at_call 278;refine din.mono ?_;rintro e w' ⟨rfl,rfl⟩))
 refine(wpIn_wide (n:=3)).1 ?_;have q0:cj ((((w.alloc (.cells #[af (aj p)] 137)).alloc (.cells #[U 0] 3)).alloc (.cells #[af (aj p)] 137)).alloc (.cells #[U 2] 3)) w.heap.size #[af (aj p)] 137:=((cj.gR w _ _ _ _).alloc _).alloc _;have q1:cj ((((w.alloc (.cells #[af (aj p)] 137)).alloc (.cells #[U 0] 3)).alloc (.cells #[af (aj p)] 137)).alloc (.cells #[U 2] 3)) (w.heap.size+1) #[U 0] 3:=((cj.jf w _ _ _ _).alloc _).alloc _;have q2:cj ((((w.alloc (.cells #[af (aj p)] 137)).alloc (.cells #[U 0] 3)).alloc (.cells #[af (aj p)] 137)).alloc (.cells #[U 2] 3)) (w.heap.size+1+1) #[af (aj p)] 137:=by
  have:=cj.jf (w.alloc (.cells #[af (aj p)] 137)) #[U 0] #[af (aj p)] 3 137;rw[World.size_alloc] at this;exact this.alloc _
 have q3:cj ((((w.alloc (.cells #[af (aj p)] 137)).alloc (.cells #[U 0] 3)).alloc (.cells #[af (aj p)] 137)).alloc (.cells #[U 2] 3)) (w.heap.size+1+1+1) #[U 2] 3:=by
  have:=cj.jf ((w.alloc (.cells #[af (aj p)] 137)).alloc (.cells #[U 0] 3)) #[af (aj p)] #[U 2] 137 3;rw[World.size_alloc,World.size_alloc] at this;exact this
 have hbB:Below w.heap.size w ((((w.alloc (.cells #[af (aj p)] 137)).alloc (.cells #[U 0] 3)).alloc (.cells #[af (aj p)] 137)).alloc (.cells #[U 2] 3)):=bA (bA (bA (bA (bV _ _) (av _) _) (av _) _) (av _) _) (av _) _;have s4:((((w.alloc (.cells #[af (aj p)] 137)).alloc (.cells #[U 0] 3)).alloc (.cells #[af (aj p)] 137)).alloc (.cells #[U 2] 3)).heap.size=w.heap.size+1+1+1+1:=by simp
 obtain⟨W4,Kg⟩:=al ((((w.alloc (.cells #[af (aj p)] 137)).alloc (.cells #[U 0] 3)).alloc (.cells #[af (aj p)] 137)).alloc (.cells #[U 2] 3));rw[Kg] at q0 q1 q2 q3 hbB s4 ⊢;clear Kg d0 din h0;have hpl:=h.b0.lt;have hgl:=h.b1.lt;have hfew:=h.jU;have hgens:=h.gs;have Sg:pR w p g es gens W4.heap.size [] W4:=⟨by have:=h.bY (cu.cD hbB) (S:=fun _=>False) id id;rwa [show mq gens (gO ([]:List {x:Nat//x<es.length/\js es 2 x=true})) es=es from List.ext_getElem? fun j=>by rw[uj];simp[gO]],q0,⟨0,aW _,q1⟩,q2,q3,cu.cD hbB,av _⟩;refine o6 rfl (by omega) (gf:=300) (lb:=#[af (aj (w.heap.size+1+1)),af (aj (w.heap.size+1+1+1))]) rfl trivial (enters_of func300 (by kernel_rfl) rfl)
  (CN 2 (by omega) (w.heap.size+1+1) (w.heap.size+1+1+1) p g 2 es hfew (pR w p g es gens W4.heap.size) (fun _ _ hv=>hv.fit) W4) (fun _=>rfl) (fJ (fun _ _ hv=>hv.sz) (fun _ _ _ hv hb=>hv.below hpl hgl (by omega) hb)) Sg
  (fun x=>{tmps:=#[af (aj p),af (aj w.heap.size),U 0,af (aj (w.heap.size+1)),undef,af (aj g (x.val*3)),af (aj p),.bool false,af (aj p),.func (.func 300) #[] #[af (aj (w.heap.size+1+1)),af (aj (w.heap.size+1+1+1))],U x.val,af (aj g (x.val*3)),undef,undef,undef,undef,undef,undef,undef,undef,undef,undef,undef,undef,undef,undef,undef,undef,undef,undef,undef,undef,undef,undef,undef,undef,undef,undef,undef,undef,undef],defers:=[]}) ?assign ?body ?done
 case assign=>
  intro l x V K hK
  gi_wp2
  exact hK
 case body=>
  rintro l pre x V hV hok
  dsimp only
  have hx:=x.2.1;obtain⟨e,hex⟩:∃e,es[x.val]?=some e:=⟨_,aq hx⟩;have hse:e.state=2:=by have:=x.2.2;unfold js at this;rw[hex] at this;simpa using this
  have hnm:x.val∉gO pre:=by
   have:pre=iP (js es 2) es.length x.val:=hok;rw[this];intro hm;have:=(jz _ _).1 hm;omega
  have hlen:pre.length<=es.length:=by
   have h1:pre=iP (js es 2) es.length x.val:=hok;have h2:=mK (js es 2) es.length x.val;rw[h1];omega
  have her:(mq gens (gO pre) es)[x.val]?=some e:=by rw[uj hnm];exact hex
  obtain⟨er,hes⟩:=al (mq gens (gO pre) es);have htb:=hV.tb;rw[hes] at her htb;have hxl:x.val<er.length:=(au.1 her).1;have heq:er[x.val]=e:=(au.1 her).2;have hge:=htb.gen e (aH her);obtain⟨a1,a2,a3⟩:=htb.at x.val hxl;rw[heq] at a1 a2 a3;have fg:=fun i=>htb.b1.cE i
  obtain⟨c,hcl,hcb⟩:=hV.b1;have v0:V.cell? (aj w.heap.size)=some (af (aj p)):=hV.b0.cell 0;have v1:V.cell? (aj p 1)=some (U gens):=htb.b0.cell 1;have se:V.cell? (aj (w.heap.size+1))=some (U c):=hcb.cell 0;have QV:c<=65536:=by omega
  have T1:=(htb.zH her 0 (by omega));have MS:(er.set x.val {e with slot:=0})[x.val]?=some {e with slot:=0}:=by rw[List.getElem?_set_self hxl]
  have k1:cu (fun k=>k=p\/k=g\/k=w.heap.size+1) V (V.setCell (aj g (x.val*3+1)) (U 0)):=cu.stored (cu.refl _ V) (p:=g) (.inl (.inr (.inl rfl))) _ _;have n1:=h.ne;have n2:=Ne.symm h.ne;have n3:w.heap.size≠g:=by omega
  have n4:g≠w.heap.size:=by omega
  have n5:w.heap.size+1≠g:=by omega
  have n6:g≠w.heap.size+1:=by omega
  have Ub:=fg (x.val*3+1);have Uc:=fg (x.val*3+2);have Ud:=hcb.cE 0;clear fg;have c3:(V.setCell (aj g (x.val*3+1)) (U 0)).cell? (aj g (x.val*3+2))=some (.int .u32 e.gen):=(World.cell?_setCell_other _ _ _ _ (by simp)).trans a3;have c0:(V.setCell (aj g (x.val*3+1)) (U 0)).cell? (aj w.heap.size)=some (af (aj p)):=(World.cell?_setCell_other _ _ _ _ (by simp <;> omega)).trans v0;have c1:(V.setCell (aj g (x.val*3+1)) (U 0)).cell? (aj p 1)=some (U gens):=(World.cell?_setCell_other _ _ _ _ (by simp <;> omega)).trans v1;have Hes:=bU hes;have Heq:=bU heq;have Hok:=bU hok;have S4:=bU s4;clear hes heq hok s4;generalize hj:x.val*3=j at *;have Hj:=bU hj;clear hj
  gi_wp2
  refine wpIn_mono (Q:=fun ex a' w'=>ex=.normal/\a'={tmps:=#[af (aj p),af (aj w.heap.size),U 0,af (aj (w.heap.size+1)),undef,af (aj g j),af (aj p),.bool false,af (aj p),.func (.func 300) #[] #[af (aj (w.heap.size+1+1)),af (aj (w.heap.size+1+1+1))],U x.val,af (aj g j),af (aj g j),af (aj g j),af (aj g (j+1)),af (aj g j),af (aj g j),af (aj g (j+2)),.int .u32 e.gen,U (IntKind.i64.wrap e.gen),af (aj p),af (aj p),af (aj p 1),U gens,.bool (decide ((gens:Int)<=IntKind.i64.wrap e.gen)),undef,undef,undef,undef,undef,undef,undef,undef,undef,undef,undef,undef,undef,undef,undef,undef],defers:=[]}/\w'=(V.setCell (aj g (j+1)) (U 0)).drew) ?r ?_
  case r=>
   clear se T1 MS k1 hV hcb hex htb her Ub Uc Ud a1 a2 a3 v0 v1 Hes Heq Hok Hj S4 hxl hx hse hnm hlen hfew hgens QV hcl hbB Sg q0 q1 q2 q3 n5 n6 h;generalize V.setCell (aj g (j+1)) (U 0)=V1 at *
   gi_region
   all_goals exact⟨rfl,rfl,rfl⟩
  rintro ex a' w' ⟨rfl,rfl,rfl⟩;have gw:IntKind.i64.wrap (e.gen:Int)=(e.gen:Int):=IntWalk.i64_in _ (by omega);rw[gw];clear gw;by_cases hgg:gens<=e.gen
  .have dt:=fun m=>(callsIn_wide (n:=m)).2 (JC T1.drew MS hse)
   have hrc:fo gens e=⟨3,0,e.gen⟩:=by unfold fo;rw[if_pos hse,if_pos hgg]
   have HN:Hid (∀Y,eP Y p g ((er.set x.val {e with slot:=0}).set x.val {{e with slot:=0} with state:=3}) gens→cu (fun k=>k=p\/k=g) (V.setCell (aj g (j+1)) (U 0)).drew Y→KeepsFrom W4.heap.size V Y/\pR w p g es gens W4.heap.size (pre++[x]) Y):=bU (fun Y ht hc=>by
    have k2:=k1.drew.trans (hc.up (fun k hk=>by rcases hk with hk|hk;exact .inl hk;exact .inr (.inl hk)));rw[List.set_set] at ht;refine⟨gP k2 (by intro k hk;have:=S4.out;omega),hV.next hpl hgl x hex k2 (c:=c) (by omega) ?_ ?_⟩
    .exact(((hcb.other (by omega) _ _).drew).bY hc (by omega))
    .rw[Hes.out,hrc];exact ht)
   rw[show decide ((gens:Int)<=(e.gen:Int))=true from aw (by omega)];rw[Hj.out] at dt;clear htb her T1 MS k1 hV hcb hex hrc
   gi_wp2_with (refine⟨trivial,?_⟩;gi_at_call 249;refine(CallsIn.inRound l (dt _)).mono ?_;rintro e7 w7 ⟨rfl,MC,zG⟩)
   exact HN.out _ MC zG
  .have T2:=T1.MQ MS (e.gen+1) (by omega)
   rw[List.set_set,Hj.out] at T2;have PZ:(er.set x.val {{e with slot:=0} with gen:=e.gen+1})[x.val]?=some {{e with slot:=0} with gen:=e.gen+1}:=by rw[List.getElem?_set_self hxl]
   have dt:=fun m=>(callsIn_wide (n:=m)).2 (JD T2.drew PZ hse)
   have hrc:fo gens e=⟨0,0,e.gen+1⟩:=by unfold fo;rw[if_pos hse,if_neg hgg]
   have Si:cu (fun k=>k=p\/k=g\/k=w.heap.size+1) V ((V.setCell (aj g (j+1)) (U 0)).setCell (aj g (j+2)) (.int .u32 (e.gen+1:Nat))).drew:=(k1.stored (p:=g) (.inl (.inr (.inl rfl))) _ _).drew;have HN:Hid (∀Y,eP Y p g ((er.set x.val {{e with slot:=0} with gen:=e.gen+1}).set x.val {{{e with slot:=0} with gen:=e.gen+1} with state:=0}) gens→cu (fun k=>k=p\/k=g) ((V.setCell (aj g (j+1)) (U 0)).setCell (aj g (j+2)) (.int .u32 (e.gen+1:Nat))).drew Y→Y.cell? (aj w.heap.size)=some (af (aj p))/\Y.cell? (aj (w.heap.size+1))=some (U c)/\Y.frozen? (aj (w.heap.size+1))=false/\KeepsFrom W4.heap.size V (Y.setCell (aj (w.heap.size+1)) (U ((c:Int)+1)))/\pR w p g es gens W4.heap.size (pre++[x]) (Y.setCell (aj (w.heap.size+1)) (U ((c:Int)+1)))):=bU (fun Y ht hc=>by
    have k2:=(Si.trans (hc.up (fun k hk=>by rcases hk with hk|hk;exact .inl hk;exact .inr (.inl hk)))).stored (p:=w.heap.size+1) (.inl (.inr (.inr rfl))) 0 (U ((c:Int)+1));have k3:cu (fun k=>k=w.heap.size+1) Y (Y.setCell (aj (w.heap.size+1)) (U ((c:Int)+1))):=cu.stored (S:=fun k=>k=w.heap.size+1) (cu.refl _ Y) (p:=w.heap.size+1) (.inl rfl) _ _;rw[List.set_set] at ht;have B1:=((((hcb.other (p:=g) (by omega) (j+1) (U 0)).other (p:=g) (by omega) (j+2) (.int .u32 (e.gen+1:Nat))).drew).bY hc (by omega));have B0:=((((hV.b0.other (p:=g) (by omega) (j+1) (U 0)).other (p:=g) (by omega) (j+2) (.int .u32 (e.gen+1:Nat))).drew).bY hc (by omega));refine⟨B0.cell 0,B1.cell 0,B1.cE 0,gP k2 (by intro k hk;have:=S4.out;omega),hV.next hpl hgl x hex k2 (c:=c+1) (by omega) (by rw[aY];exact B1.set 0 _) ?_⟩;rw[Hes.out,hrc];exact ht.bY k3 (by omega) (by omega))
   rw[show decide ((gens:Int)<=(e.gen:Int))=false from az (by omega)];rw[Hj.out,aY] at dt;rw[aY] at HN;clear htb her T1 MS k1 hV hcb hex hrc T2 PZ Si;have g2:(e.gen:Int)<2147483648:=by omega
   dsimp only
   gi_wp2_with (refine⟨trivial,?_⟩;gi_at_call 249;refine(CallsIn.inRound l (dt _)).mono ?_;rintro e7 w7 ⟨rfl,MC,zG⟩;obtain⟨u0,u1,u2,u3⟩:=HN.out _ MC zG;have U3:=bU u3;clear u3 MC zG)
   exact U3.out
 case done=>
  rintro D ys V hD rfl hV hK;obtain⟨c,hcl,hcb⟩:=hV.b1;have se:V.cell? (aj (w.heap.size+1))=some (U c):=hcb.cell 0;have HV:=bU hV;have HK:=bU hK;have S4:=bU s4;clear hV hcb hK s4
  dsimp only
  go_wp2_with fail;have kD:cu (fun k=>k=D) V (V.putObj D (.deferred none)):=(cu.refl (fun k=>k=D) V).put (.inl rfl) _;have hDw:w.heap.size+1<=D:=by have:=S4.out;omega
  refine⟨by simp,.inl ⟨_,_,rfl,run_takeDeferred HK.out,?_⟩⟩;refine⟨U c,by simp[results,Tryz.f293,go_sem],⟨c,rfl⟩,?_,HV.out.ch.tr kD (fun k h1 h2=>by exfalso;have h2:k=D:=h2;omega)⟩;have:=HV.out.tb.bY kD (by omega) (by omega)
  rwa [Gu] at this
end Tb
namespace Cy
open Go.RowKit Go.bZ Go.Gc Bd Tb Ar Mk Sw
theorem ny.lJ{K:eV}(hK:K.Ok){s t:St}{G:Nat→Bool}(I:fh K s G)(h:ny K s G)(hv:lJ K t G=lJ K s G):ny K t G:=fun y hy=>by
 have hT:t.T=s.T:=congrArg sU.T hv;have hM:mask K t.T G t.M=mask K s.T G s.M:=congrArg sU.M hv;have P0:iy s G y:=⟨by rw[←hT];exact hy.1,hy.2⟩;have hn:=I.tn y P0.1;obtain⟨v,u,h1,h2⟩:=h y P0;have e1:cU K t.M y=some (v,u):=by rw[←oU hK hn hy,hM,oU hK hn P0,h1]
 refine⟨v,u,e1,fun j hj=>?_⟩;have hf:=fw h1;have e2:t.M (K.addr y+1+j)=s.M (K.addr y+1+j):=by
  rw[←im (K:=K) (T:=t.T) (G:=G) (M:=t.M) hy (by omega) (by omega),hM,im P0 (by omega) (by omega)]
 rw[e2];exact h2 j hj
structure Fin(w w':World)(E:Env)(ws:List Int)(s:St)(N:Int)(G:Nat→Bool)(cR:List Int)(s':St):Prop where
 cy:gF w' E cR s' N
 rg:nc E.bs E.tn ws cR
 ch:cu (Om E Cl) w w'
 inv:Inv E.K s' G
 vs:lJ E.K s' G=lJ E.K s G
 ph:s'.phase≠0
theorem CP{w:World}{E:Env}(hE:E.Ok){ws:List Int}{s:St}{N:Int}{G:Nat→Bool}(h:gF w E ws s N)(I:Inv E.K s G)(hd:ny E.K s G)(hp:s.phase≠0):ak 266 #[af (aj (E.A 25))] w fun e w'=>∃(n:Int) (cR:List Int) (s':St),e=ae (.tuple #[U n,U 0])/\Fin w w' E ws s N G cR s'/\s'.phase=3:=by
 have d:=cC h;obtain⟨z,b⟩:=h.cy;have c8:w.cell? (aj (E.A 25) 8)=some (ab s.phase):=b.cell 8;have e1:((s.phase:Int)==0)=false:=by rw[aA];omega
 have D:Hid (∀w0 uO s0,Fin w w0 E ws s N G uO s0→ak 240 #[af (aj (E.A 25))] w0 fun e w1=>∃b,e=ae (.bool b)/\Hid (∃fS s1,Fin w w1 E ws s N G fS s1/\(b=true→nu E.K s1<nu E.K s0)/\(b=false→s1.phase=3))):=bU (fun w0 uO s0 h0=>by
  refine(zY hE h0.cy h0.inv (ny.lJ hE.K I.tofh hd h0.vs)).mono ?_;rintro e w1 ⟨b,fS,s1,rfl,m,hb⟩;refine⟨b,rfl,bU ⟨fS,s1,⟨m.cy,h0.rg.trans m.rg,h0.ch.trans m.ch,m.inv,m.vs.trans h0.vs,fun hh=>h0.ph (m.ph.1 hh)⟩,m.lt,fun hh=>?_⟩⟩;have h3:=(hb hh).resolve_left h0.ph;have se:nu E.K s0=0:=by unfold nu;rw[if_neg (by omega),if_neg (by omega)]
  have uL:=m.le;have hi:=m.inv.ph;have qJ:s1.phase≠0:=fun hh=>h0.ph (m.ph.1 hh)
  by_cases c1:s1.phase=1
  .unfold nu at uL;rw[if_pos c1] at uL
   rw[if_neg (by omega),if_neg (by omega)] at uL;omega
  .by_cases c2:s1.phase=2
   .unfold nu at uL;rw[if_neg c1,if_pos c2] at uL
    rw[if_neg (by omega),if_neg (by omega)] at uL;omega
   .omega)
 have H0:Hid (Fin w w E ws s N G ws s):=bU ⟨h,nc.refl _ _ _,cu.refl _ _,I,rfl,hp⟩;clear h b I hd hp;generalize s.phase=ph at *;go_enter func266,ntmps266;go_wp2_with (go_at_call 111;(with_reducible refine d.mono ?_);rintro e w' ⟨rfl,rfl⟩)
 go_loopg [2] (nu E.K s) (fun kx v wr=>∃n:Int,v=U n/\Hid (∃uO s0,Fin w wr E ws s N G uO s0/\nu E.K s0<=kx))
 case atStart=>exact⟨0,rfl,bU ⟨ws,s,H0.out,av _⟩⟩
 case round=>
  obtain⟨n,rfl,hZ⟩:=hrel;obtain⟨uO,s0,hF,hk⟩:=hZ.out;have d1:=D.out wr uO s0 hF;have HK:=bU hk;clear hF hk hZ D d c8;go_wp2_with (go_at_call 240;(with_reducible refine d1.mono ?_);rintro e w1 ⟨b,rfl,hY⟩;cases b)
  .go_wp2_with fail
   go_ret2
   obtain⟨fS,s1,f1,-,f3⟩:=hY.out;exact⟨_,fS,s1,rfl,f1,f3 trivial⟩
  .go_wp2_with fail
   obtain⟨fS,s1,f1,f2,-⟩:=hY.out
   go_roundg (nu E.K s1)
   case measure=>exact aB (f2 trivial) HK.out
   case rel=>exact⟨_,rfl,bU ⟨fS,s1,f1,av _⟩⟩
theorem ye{w:World}{E:Env}(hE:E.Ok){ws:List Int}{s:St}{N:Int}{G:Nat→Bool}(h:gF w E ws s N)(I:Inv E.K s G)(hp:s.phase=3)(hz:∀x,x<E.n→cJ E.rs x<=64)(hu:s.used=(fE E.K.size s.T E.K.n:Nat)):ak 267 #[af (aj (E.A 25))] w fun e w'=>∃f r:Int,e=ae (.tuple #[U f,U r,U 0])/\gF w' E ws (ended E.gens s G (fE E.K.size (fun x=>s.T x&& !G x) E.K.n:Nat)) N/\cu (Of E.A [3,5,6,7,20,22,24,25]) w w':=by
 have d:=cC h;have hdm:s.cZ=G:=by
  funext x
  rw[I.dm x,hp,aw (by omega:2<=3),Bool.true_and]
  cases hG:G x
  .rw[Bool.and_false]
  .rw[I.sI hp,aw (I.tn x (I.gT x hG)),Bool.true_and]
 have dS:=Sw.ue hE h.co (by rw[I.sc,hp];rfl) (I.sI hp) (fun x hx=>I.gT x (by rw[←hdm];exact hx)) hz hu;rw[hdm] at dS;obtain⟨z,b⟩:=h.cy;have c8:w.cell? (aj (E.A 25) 8)=some (ab s.phase):=b.cell 8;have c6:w.cell? (aj (E.A 25) 6)=some (af (aj (E.A 22))):=b.cell 6;rw[hp] at c8;have hact:s.act=true:=by rw[I.ac,hp];rfl
 have D1:Hid (∀w1,Co w1 E ws {s with T:=fun x=>s.T x&& !G x,used:=(fE (cJ E.rs) (fun x=>s.T x&& !G x) E.n:Nat),cZ:=fun _=>false,sa:=0,sact:=false} N→cu (Of E.A [3,5,22,24]) w w1→w1.cell? (aj (E.A 25) 3)=some (af (aj (E.A 6)))/\ak 293 #[af (aj (E.A 6))] w1 fun e w2=>∃c:Int,e=ae (U c)/\w2.cell? (aj (E.A 25) 5)=some (af (aj (E.A 20)))/\ak 294 #[af (aj (E.A 20))] w2 fun e w3=>e=ae (U 0)/\(w3.cell? (aj (E.A 25) 8)=some (ab 3)/\w3.frozen? (aj (E.A 25) 8)=false)/\Hid (gF (w3.setCell (aj (E.A 25) 8) (ab 0)) E ws (ended E.gens s G (fE E.K.size (fun x=>s.T x&& !G x) E.K.n:Nat)) N/\cu (Of E.A [3,5,6,7,20,22,24,25]) w (w3.setCell (aj (E.A 25) 8) (ab 0)))):=bU (fun w1 c1 k1=>by
  have h1:gF w1 E ws _ N:=h.parts hE (k1.up (Om.of (l':=[3,5,22,24]) (by decide))) (by decide) c1 rfl;obtain⟨z1,b1⟩:=h1.cy;refine⟨b1.cell 3,(yd h1.co.mp.tb).mono ?_⟩;rintro e w2 ⟨⟨c,rfl⟩,t2,k2⟩;obtain⟨h2,k2⟩:=h1.QU hE k2 t2 (by rw[List.length_map];exact h1.co.mp.el);obtain⟨z2,b2⟩:=h2.cy;refine⟨c,rfl,b2.cell 5,(Mk.ue hE h2.co.mp hact).mono ?_⟩;rintro e w3 ⟨rfl,m3,k3⟩;have h3:=h2.parts hE (k3.up (Om.of (l':=[20]) (by decide))) (by decide) (h2.co.vR hE k3 m3 (by decide) rfl rfl rfl rfl rfl) rfl;obtain⟨z3,b3⟩:=h3.cy;have OP:w3.cell? (aj (E.A 25) 8)=some (ab s.phase):=b3.cell 8;rw[hp] at OP;exact⟨rfl,⟨OP,b3.cE 8⟩,bU ⟨h3.own hE (Ee 8 _) (ph:=0) ⟨z3,b3.set 8 _⟩,(((k1.up (Of.up (by decide))).trans (k2.up (Of.up (by decide)))).trans (k3.up (Of.up (by decide)))).trans ((Ee 8 _).up (Of.up (by decide)))⟩⟩)
 clear h b I hdm hu hz hE hact;go_enter func267,ntmps267;go_wp2_with (first
  | (go_at_call 111;(with_reducible refine d.mono ?_);rintro e w' ⟨rfl,rfl⟩)
  | (go_at_call 292;(with_reducible refine dS.mono ?_);rintro e w1 ⟨f,rfl,c1,k1⟩;obtain⟨y3,dR⟩:=D1.out w1 c1 k1;clear c1 k1)
  | (go_at_call 293;(with_reducible refine dR.mono ?_);rintro e w2 ⟨c,rfl,y5,dM⟩)
  | (go_at_call 294;(with_reducible refine dM.mono ?_);rintro e w3 ⟨rfl,⟨y8,f8⟩,hZ⟩))
 go_ret3
 exact⟨_,_,rfl,hZ.out⟩
end Cy
end Go.Proofs.YtgblmelijlgimaaGreatDoor
