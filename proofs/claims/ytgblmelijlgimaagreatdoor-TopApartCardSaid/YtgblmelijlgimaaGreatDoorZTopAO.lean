/- Parts of the proof of TopApart. -/
import Derived.Test.YtgblmelijlgimaaGreatDoorZTopAN
set_option maxRecDepth 100000
namespace Go.Proofs.YtgblmelijlgimaaGreatDoor
open Go.Proofs.Tryz
namespace Ar
open Go.RowKit Go.bZ Go.Gc Go.Shelf Sl Bt
attribute [local go_sem] Oper.semAt_some
def less(T:Nat→Bool)(l:List Nat):Nat→Bool:=fun x=>T x&& !l.contains x
theorem Fx(T:Nat→Bool):less T []=T:=by funext x;simp[less]
theorem B7(T:Nat→Bool)(l:List Nat)(x:Nat):less T (l++[x])=cP (less T l) x false:=by
 funext y
 unfold less cP;by_cases e:y=x
 .subst e;simp
 .rw[if_neg e]
  have:(l++[x]).contains y=l.contains y:=by
   rw[Bool.eq_iff_iff];simp[e]
  rw[this]
def gO{f:Nat→Bool}{n:Nat}(l:List {x:Nat//x<n/\f x=true}):List Nat:=l.map (·.val)
theorem oX{f:Nat→Bool}{n:Nat}(l:List {x:Nat//x<n/\f x=true})(x:{x:Nat//x<n/\f x=true}):gO (l++[x])=gO l++[x.val]:=by simp[gO]
def ss(sz:Nat→Nat)(l:List Nat):Nat:=(l.map sz).sum
theorem sY(sz:Nat→Nat)(l:List Nat)(x:Nat):ss sz (l++[x])=ss sz l+sz x:=by simp[ss]
theorem zF(sz:Nat→Nat)(b:Nat):∀l:List Nat,(∀x∈l,sz x<=b)→ss sz l<=b*l.length
 | [],_=>by simp[ss]
 | x::l,h=>by
   have h1:=zF sz b l (fun y hy=>h y (List.mem_cons_of_mem _ hy));have h2:=h x (by simp);unfold ss at h1 ⊢;rw[List.map_cons,List.sum_cons,aC,Nat.mul_succ];omega
theorem jz{f:Nat→Bool}{n:Nat}:∀(a:Nat) (x:Nat),x∈gO (iP f n a)↔(x<a/\x<n/\f x=true)
 | 0,x=>by simp[iP,gO]
 | a+1,x=>by
   have ih:=jz (f:=f) (n:=n) a x;show x∈gO (iP f n a++_)↔_;unfold gO at ih ⊢;rw[List.map_append,bu,ih];by_cases c:a<n/\f a=true
   .rw[dif_pos c]
    simp only[List.map_cons,List.map_nil,bQ];constructor
    .rintro (h|rfl)
     .exact⟨by omega,h.2⟩
     .exact⟨by omega,c⟩
    .rintro ⟨h1,h2⟩
     by_cases e:x=a
     .exact .inr e
     .exact .inl ⟨by omega,h2⟩
   .rw[dif_neg c]
    simp only[List.map_nil,List.not_mem_nil,or_false];constructor
    .rintro ⟨h1,h2⟩;exact⟨by omega,h2⟩
    .rintro ⟨h1,h2⟩
     refine⟨?_,h2⟩;by_cases e:x=a
     .subst e;exact absurd h2 c
     .omega
theorem Fy{T f:Nat→Bool}{n:Nat}(hf:∀x,n<=x→f x=false):less T (gO (iP f n n))=fun x=>T x&& !f x:=by
 funext x
 unfold less
 congr 2
 rw[Bool.eq_iff_iff,List.contains_iff_mem,jz];constructor
 .exact fun h=>h.2.2
 .intro h
  have:x<n:=by
   rcases Nat.lt_or_ge x n with c|c
   .exact c
   .rw[hf x c] at h;cases h
  exact⟨this,this,h⟩
theorem vJ{f:Nat→Bool}{n:Nat}(sz:Nat→Nat):∀a,a<=n→ss sz (gO (iP f n a))=fE sz f a
 | 0,_=>rfl
 | a+1,h=>by
   have ih:=vJ (f:=f) (n:=n) sz a (by omega);show ss sz (gO (iP f n a++_))=fE sz f a+_;by_cases c:a<n/\f a=true
   .rw[dif_pos c,oX,sY,ih,if_pos c.2]
   .rw[dif_neg c,List.append_nil,ih,if_neg (fun e=>c ⟨by omega,e⟩)];rfl
theorem nx(sz:Nat→Nat)(T:Nat→Bool):∀n,(∀x,x<n→sz x<=64)→fE sz T n<=64*n
 | 0,_=>av _
 | n+1,h=>by
   have h1:=nx sz T n (fun x hx=>h x (by omega));have h2:=h n (by omega);unfold fE
   split <;> omega
theorem sZ{T f:Nat→Bool}(sz:Nat→Nat)(hs:∀x,f x=true→T x=true):∀n,fE sz T n=fE sz (fun x=>T x&& !f x) n+fE sz f n
 | 0=>rfl
 | n+1=>by
   have ih:=sZ sz hs n;unfold fE;rw[ih]
   cases hf:f n
   .cases hT:T n <;> simp <;> omega
   .have:=hs n hf
    rw[this];simp;omega
set_option maxHeartbeats 2000000 in
theorem xS{w:World}{a r g p n rl gl:Nat}{T f:Nat→Bool}{u:Int}(h:lE w a r g p n T u)(hl:ee w rl gl n f)(hn:0<n)(hsub:∀x,f x=true→T x=true){g2 cap pg pw:Nat}{rs:List Rec}(hp:ff w p g2 cap rs n pg pw)(hgd:Go.Gc.Good pw rs 0 0 n pg)(hsz:∀x,x<n→cJ rs x<=64)(hu:u=(fE (cJ rs) T n:Nat))(n1:a≠rl)(n2:a≠gl)(n3:g≠rl)(n4:g≠gl)(n5:a≠2)(n6:g≠2)(n7:a≠p)(n8:a≠g2)(n9:g≠p)(m1:g≠g2)(hT:TabAt 2 Lib.deBruijn64tab w)(hz:2<w.heap.size):
  ak 310 #[af (aj a),af (aj rl)] w fun e w'=>e=ae (U 0)/\lE w' a r g p n (fun x=>T x&& !f x) (fE (cJ rs) (fun x=>T x&& !f x) n:Nat)/\cu (fun k=>k=a\/k=g) w w':=by
 have uJ:Below w.heap.size w ((w.alloc (.cells #[af (aj a)] 135)).alloc (.cells #[U 0] 33)):=((bV _ w).alloc (av _) _).alloc (by simp) _;have h2:=h.cA uJ;have l2:=hl.cA uJ;have d0:=cC h2;have pK:((w.alloc (.cells #[af (aj a)] 135)).alloc (.cells #[U 0] 33)).heap.size=w.heap.size+1+1:=by simp
 have dcp:=Bt.qC l2.drew hn;have HL:Hid (∀W,Below ((w.alloc (.cells #[af (aj a)] 135)).alloc (.cells #[U 0] 33)).heap.size ((w.alloc (.cells #[af (aj a)] 135)).alloc (.cells #[U 0] 33)) W→(ak 212 #[af (aj rl)] W fun e w'=>e=ae (U n)/\W=w')/\(ak 212 #[af (aj r)] W fun e w'=>e=ae (U n)/\W=w')/\W.cell? (aj w.heap.size)=some (af (aj a))/\W.cell? (aj a 1)=some (af (aj r))/\(ak 316 #[af (aj rl)] W fun e w'=>e=ae (.func (.func 318) #[] #[af (aj W.heap.size)])/\w'=W.alloc (.cells #[af (aj rl)] 179))):=bU (fun W hW=>⟨Bt.gX (l2.cA hW),Bt.gX (h2.rw.cA hW),((cj.gR w _ _ _ _).cA hW).cell 0,(h2.b0.cA hW).cell 1,callsIn_wide.1 (JN 0 rl W)⟩);refine(callsIn_wide (n:=3)).1 ?_;refine callsIn_of_wp_marks func310 rfl trivial ?_ rfl;simp only[ntmps310,aP,aC,aV,Nat.reduceAdd,Nat.reduceSub,aL,aK,aT,aM,aU,aX];refine wpIn_wide.2 ?_;go_wp2_with (go_at_call 112;refine d0.mono ?_;rintro e w' ⟨rfl,rfl⟩)
 have bx:((w.alloc (.cells #[af (aj a)] 135)).alloc (.cells #[U 0] 33)).cell? (aj w.heap.size)=some (af (aj a)):=(cj.gR w _ _ _ _).cell 0;have ba:((w.alloc (.cells #[af (aj a)] 135)).alloc (.cells #[U 0] 33)).cell? (aj a 1)=some (af (aj r)):=h2.b0.cell 1;go_region_held3 (fun w'=>w'.cell? (aj w.heap.size)=some (af (aj a))/\w'.cell? (aj a 1)=some (af (aj r))) (first|exact⟨e3,e4⟩|go_keep)
  (first|(go_at_call 124;refine dcp.mono ?_;rintro e w3 ⟨q3,rfl,dJ⟩;obtain⟨e1,e2,e3,e4,e5⟩:=HL.out w3 (bT (bd (bV _ _)) dJ (av _));have H3:=bU (bT (bd (bV _ _)) dJ (av _));clear dJ)|(go_at_call 212;(with_reducible refine e1.mono ?_);rintro e w4 ⟨rfl,rfl⟩)|(go_at_call 212;(with_reducible refine e2.mono ?_);rintro e w4 ⟨rfl,rfl⟩))
 have H4:Hid (Below ((w.alloc (.cells #[af (aj a)] 135)).alloc (.cells #[U 0] 33)).heap.size ((w.alloc (.cells #[af (aj a)] 135)).alloc (.cells #[U 0] 33)) (w3.alloc (.cells #[af (aj rl)] 179))):=bU (bA H3.out (av _) _);go_wp2_with (go_at_call 316;(with_reducible refine e5.mono ?_);rintro e w5 ⟨rfl,rfl⟩)
 refine(wpIn_wide (n:=3)).1 ?_;obtain⟨W5,OD⟩:=al (w3.alloc (.cells #[af (aj rl)] 179));have q5:cj W5 w3.heap.size #[af (aj rl)] 179:=by rw[←OD];exact cj.new w3 _ _
 rw[OD] at H4 ⊢;have hlt:=hl.lt;have halt:=h.b0.lt;have hrlt:=h.rw.lt;have s3:=H3.out.size;have s5:W5.heap.size=w3.heap.size+1:=by rw[←OD];simp
 have hnn:=hl.nn;clear OD;refine wpIn_rangeFunc_ownG rfl (by omega) (gf:=318) (lb:=#[af (aj w3.heap.size)]) rfl trivial (enters_of func318 (by kernel_rfl) rfl)
  (rh 2 (by omega) w3.heap.size rl gl n f (fun k=>k=2\/k=w3.heap.size\/k=rl\/k=gl) (.inr (.inl rfl)) (.inr (.inr (.inl rfl))) (.inr (.inr (.inr rfl))) (.inl rfl) hnn W5 q5 (l2.cA H4.out) (fun j hj=>(H4.out.cell (p:=⟨2,j,none⟩) (by show 2<_;omega)).trans ((uJ.cell (p:=⟨2,j,none⟩) hz).trans (hT j hj))) (by omega)) Same.trans (fun W l _ o' qd _ _ _=>Same.put (by intro k hk;omega) W l o' qd) (bV _ _) (fun _=>rfl)
  (fun _ W=>Below W5.heap.size W5 W) (fun _ _ _=>False) ?hI ?hIx ?h0
  (fun x=>{tmps:=#[af (aj a),af (aj rl),af (aj w.heap.size),undef,af (aj (w.heap.size+1)),U x.val,undef,.bool false,af (aj a),.bool false,.bool false,af (aj rl),af (aj q3),.bool false,.bool false,af (aj rl),U n,af (aj a),af (aj a),af (aj a 1),af (aj r),U n,.bool false,.bool false,af (aj rl),.func (.func 318) #[] #[af (aj w3.heap.size)],U x.val,undef,undef,undef,undef,undef,undef,undef,undef,undef,undef,undef,undef,undef],defers:=[]}) ?assign ?body ?done ?stop
 case hI=>exact ownFrom_below (av _) (av _)
 case hIx=>exact fun _=>ri _
 case h0=>exact bV _ _
 case assign=>
  intro l x W K hK
  gi_wp2
  exact hK
 case body=>
  rintro l pre x W hB _;have hBW:=bT H4.out hB H4.out.size;have e3:=((cj.gR w #[af (aj a)] #[U 0] 135 33).cA hBW).cell 0;have e4:W.cell? (aj a 1)=some (af (aj r)):=(h2.b0.cA hBW).cell 1;have hg:∀m,CallsIn Fence.wide m prog 221 #[af (aj r),U x.val] W fun e w'=>e=ae (.bool true)/\W=w':=fun m=>callsIn_wide.2 ((xl (h2.rw.cA hBW) x.val x.2.1).mono (fun e w' he=>⟨by rw[he.1,hsub x.val x.2.2],he.2⟩))
  generalize x.val=y at *
  gi_wp2_with (refine⟨trivial,?_⟩;gi_at_call 221;refine(CallsIn.inRound l (hg _)).mono ?_;rintro e w' ⟨rfl,rfl⟩)
  exact⟨KeepsFrom.refl _ _,Same.refl _ _,hB⟩
 case done=>
  rintro D ys W hD rfl hB hK;have hBW:=bT H4.out hB H4.out.size;obtain⟨-,-,e3,e4,e6⟩:=HL.out W hBW;have HBW:=bU hBW;have Wo:=bU hB;have HK:=bU hK;clear hB hBW hK;go_wp2_with (go_at_call 316;(with_reducible refine e6.mono ?_);rintro e w6 ⟨rfl,rfl⟩)
  refine(wpIn_wide (n:=3)).1 ?_;have hWD:D<W.heap.size:=(aD.1 HK.out).1;obtain⟨W6,su⟩:=al (W.alloc (.cells #[af (aj rl)] 179));have q6:cj W6 W.heap.size #[af (aj rl)] 179:=by rw[←su];exact cj.new W _ _
  have H6:Hid (Below ((w.alloc (.cells #[af (aj a)] 135)).alloc (.cells #[U 0] 33)).heap.size ((w.alloc (.cells #[af (aj a)] 135)).alloc (.cells #[U 0] 33)) W6):=bU (by rw[←su];exact bA HBW.out (av _) _);have TD:W6.heap[D]?=some (.deferred (some [])):=by rw[←su];exact(Below.heap_alloc _ _ _ hWD).trans HK.out
  have s6:W6.heap.size=W.heap.size+1:=by rw[←su];simp
  have sW:=HBW.out.size;rw[su];clear su;refine wpIn_rangeFunc_ownG rfl (by omega) (gf:=318) (lb:=#[af (aj W.heap.size)]) rfl trivial (enters_of func318 (by kernel_rfl) rfl)
   (rh 2 (by omega) W.heap.size rl gl n f (fun k=>k=2\/k=W.heap.size\/k=rl\/k=gl) (.inr (.inl rfl)) (.inr (.inr (.inl rfl))) (.inr (.inr (.inr rfl))) (.inl rfl) hnn W6 q6 (l2.cA H6.out) (fun j hj=>(H6.out.cell (p:=⟨2,j,none⟩) (by show 2<_;omega)).trans ((uJ.cell (p:=⟨2,j,none⟩) hz).trans (hT j hj))) (by omega)) Same.trans (fun W l _ o' qd _ _ _=>Same.put (by intro k hk;omega) W l o' qd) (bV _ _) (fun _=>rfl)
   (fun pre V=>lE V a r g p n (less T (gO pre)) (u-(ss (cJ rs) (gO pre):Nat))/\cu (fun k=>k=a\/k=g) W6 V/\V.heap[D]?=some (.deferred (some []))) (fun _ _ _=>False) ?hI2 ?hIx2 ?h02
   (fun x=>{tmps:=#[af (aj a),af (aj rl),af (aj w.heap.size),undef,af (aj (w.heap.size+1)),undef,U x.val,.bool false,af (aj a),.bool false,.bool false,af (aj rl),af (aj q3),.bool false,.bool false,af (aj rl),U n,af (aj a),af (aj a),af (aj a 1),af (aj r),U n,.bool false,.bool false,af (aj rl),.func (.func 318) #[] #[af (aj w3.heap.size)],undef,undef,undef,undef,undef,undef,undef,undef,af (aj rl),.func (.func 318) #[] #[af (aj W.heap.size)],U x.val,undef,undef,undef],defers:=[]}) ?assign2 ?body2 ?done2 ?stop2
  case hI2=>exact fJ (fun _ V hV=>hV.2.1.size) (fun _ V V' hV hb=>⟨hV.1.bY (S:=fun k=>W6.heap.size<=k) ⟨hb.os,hb.tape,hb.output,hb.size,fun k _ hk=>hb.block k (by have:¬W6.heap.size<=k:=hk;omega)⟩ (by omega) (by omega) (by omega),hV.2.1.tr (T:=fun k=>W6.heap.size<=k) ⟨hb.os,hb.tape,hb.output,hb.size,fun k _ hk=>hb.block k (by have:¬W6.heap.size<=k:=hk;omega)⟩ (fun k h1 h2=>absurd h1 (by have:W6.heap.size<=k:=h2;omega)),(hb.block D (by omega)).trans hV.2.2⟩)
  case hIx2=>exact fun _=>ri _
  case h02=>exact⟨by have h6:=(h2.cA H6.out);simp only[gO,List.map_nil,Fx,ss,List.sum_nil];simpa using h6,cu.refl _ _,TD⟩
  case assign2=>
   intro l x V K hK
   gi_wp2
   exact hK
  case body2=>
   rintro l pre x V ⟨hA,hC,hKV⟩ hlen;have e3:=(((cj.gR w #[af (aj a)] #[U 0] 135 33).cA H6.out).bY hC (by omega)).cell 0;have hpl:=((hp.cA uJ).cA H6.out).bY hC (by omega) (by omega);obtain⟨k,R,hs⟩:=gq hgd x.2.1;have hsR:cJ rs x.val=R.size:=by unfold cJ;rw[hs.gL]
   have JO:=hsz x.val x.2.1;have hle:=zF (cJ rs) 64 (gO pre) (fun y hy=>by obtain⟨z,_,rfl⟩:=List.mem_map.1 hy;exact hsz z.val z.2.1);have hln:(gO pre).length=pre.length:=by simp[gO]
   have htu:=nx (cJ rs) T n hsz;have hg:=fun m=>(callsIn_wide (n:=m)).2 (JI hA hpl hs x.2.1 (by omega) (by omega))
   have HS:=bU (oX pre x);have H9:=bU hsR;have HC:=bU hC;have HKV:=bU hKV;clear hA hpl hs hC hKV hsR
   gi_wp2_with (refine⟨trivial,?_⟩;gi_at_call 317;refine(CallsIn.inRound l (hg _)).mono ?_;rintro e w7 ⟨rfl,TE,zG⟩)
   refine⟨gP zG (fun k hk=>by rcases hk with rfl|rfl <;> omega),⟨zG.size,fun k hk qd=>zG.block k qd (by rintro (rfl|rfl) <;> omega)⟩,?_,HC.out.trans zG,(zG.block D (aD.1 HKV.out).1 (by rintro (rfl|rfl) <;> omega)).trans HKV.out⟩;rw[HS.out,B7,sY,H9.out,aY,←Int.sub_sub];exact TE
  case done2=>
   rintro D2 ys V TF rfl ⟨hA,hC,hKV⟩ RY;have B4:=((cj.jf w #[af (aj a)] #[U 0] 135 33).cA H6.out).bY hC (by omega);have y4:V.cell? (aj (w.heap.size+1))=some (U 0):=B4.cell 0;have f4:=B4.cE 0;have HA:=bU hA;have HC:=bU hC;have HKV:=bU hKV;have QG:=bU RY;have TG:=bU B4;clear hA hC hKV RY B4;go_wp2_with fail;have hlV:=HC.out.size;have hne:D≠D2:=by omega
   have QH:(V.setCell (aj (w.heap.size+1)) (U 0)).heap[D2]?=some (.deferred (some [])):=(Below.heap_setCell V ⟨w.heap.size+1,0,none⟩ _ D2 (by show D2≠w.heap.size+1;omega)).trans QG.out;have QI:((V.setCell (aj (w.heap.size+1)) (U 0)).putObj D2 (.deferred none)).heap[D]?=some (.deferred (some [])):=(World.putObj_heap_other hne).trans ((Below.heap_setCell V ⟨w.heap.size+1,0,none⟩ _ D (by show D≠w.heap.size+1;omega)).trans HKV.out);have k1:cu (fun k=>k=D2\/k=D) (V.setCell (aj (w.heap.size+1)) (U 0)) (((V.setCell (aj (w.heap.size+1)) (U 0)).putObj D2 (.deferred none)).putObj D (.deferred none)):=((cu.refl (fun k=>k=D2\/k=D) _).put (.inl (.inl rfl)) _).put (.inl (.inr rfl)) _;have k2:cu (fun k=>k=w.heap.size+1\/k=D2\/k=D) V (((V.setCell (aj (w.heap.size+1)) (U 0)).putObj D2 (.deferred none)).putObj D (.deferred none)):=(cu.stored (S:=fun k=>k=w.heap.size+1\/k=D2\/k=D) (cu.refl _ V) (p:=w.heap.size+1) (.inl (.inl rfl)) 0 _).trans (k1.up (fun k hk=>.inr hk));have c4:(((V.setCell (aj (w.heap.size+1)) (U 0)).putObj D2 (.deferred none)).putObj D (.deferred none)).cell? (aj (w.heap.size+1))=some (U 0):=((TG.out.set 0 (U 0)).bY k1 (by omega)).cell 0;refine⟨by simp,.inl ⟨_,_,rfl,run_takeDeferred QH,⟨by simp,.inl ⟨_,_,rfl,run_takeDeferred QI,?_⟩⟩⟩⟩;refine⟨U 0,by simp[results,Tryz.f310,go_sem,c4],rfl,?_,?_⟩
   .have hA:=HA.out.bY k2 (by omega) (by omega) (by omega)
    have hfo:∀x,n<=x→f x=false:=fun x hx=>hl.out hx
    rw[Fy hfo,vJ (cJ rs) n (av _),hu,sZ (cJ rs) hsub n] at hA
    rwa [show((fE (cJ rs) (fun x=>T x&& !f x) n+fE (cJ rs) f n:Nat):Int)-(fE (cJ rs) f n:Nat)=(fE (cJ rs) (fun x=>T x&& !f x) n:Nat) by omega] at hA
   .exact(((cu.cD (S:=fun k=>k=a\/k=g) uJ).trans (cu.cD H6.out)).trans HC.out).tr k2 (fun x hx h=>absurd h (by omega))
  case stop2=>
   rintro D2 c pre V TF _ hf;exact hf.elim
 case stop=>
  rintro D c pre W hD _ hf;exact hf.elim
end Ar
namespace Tb
open Go.RowKit Go.bZ Go.Gc Go.Shelf Bt Ar
attribute [local go_sem] Oper.semAt_some
def js(es:List eG)(s:Nat)(i:Nat):Bool:=match es[i]? with|some e=>e.state==s|none=>false
theorem Fz{es:List eG}{s i:Nat}(hi:i<es.length):js es s i=(es[i].state==s):=by unfold js;rw[aq hi]
theorem eP.same{K:Nat→Prop}{W W':World}{p g:Nat}{es:List eG}{gens:Nat}(h:eP W p g es gens)(hs:Same K W W')(hp:K p)(hg:K g):eP W' p g es gens:=
 ⟨cj.pE h.b0 hs hp,cj.pE h.b1 hs hg,h.pos,h.jU,h.gen,h.gs,h.ne⟩
set_option maxHeartbeats 4000000 in
theorem MB(m:Nat)(_hm:1<=m)(l q q2 p g s gens:Nat)(es:List eG)(K:Nat→Prop)(kq:K q)(QJ:K q2)(kp:K p)(kg:K g)(J Jx:List {x:Nat//x<es.length/\js es s x=true}→World→Prop)
 (hY:∀pre x W,J pre W→pre.length<es.length→YieldAt Fence.wide (m-1) prog l #[U x.val,af (aj g (x.val*3))] W fun e W'=>
   (e=ae (.bool true)/\J (pre++[x]) W'/\Same K W W')\/(e=ae (.bool false)/\Jx (pre++[x]) W'))
 (hAb:∀s W W',J s W→Below W.heap.size W W'→J s W')(W:World)(c1:cj W q #[af (aj p)] 137)(c2:cj W q2 #[U s] 3)(hr:eP W p g es gens)(h0:J [] W):
  CallsIn Fence.wide m prog 300 #[.func (.yield l) #[] #[],af (aj q),af (aj q2)] W fun e W'=>(∃v,e=ae v)/\
   ((∃xs,xs=iP (js es s) es.length es.length/\J xs W')\/(∃pre,(∃k,k<=es.length/\pre=iP (js es s) es.length k)/\Jx pre W')):=by
 refine callsIn_of_wp func300 rfl trivial ?_ rfl;simp only[ntmps300,aP,aC,aV,Nat.reduceAdd,Nat.reduceSub,aL,aK,aT,aM,aU,aX];have d1:W.cell? (aj q)=some (af (aj p)):=c1.cell 0;have d2:W.cell? (aj p)=some (ai (aj g) es.length es.length):=hr.b0.cell 0;have hfew:=hr.jU;have HQ:Hid (∀W':World,Same K W W'→W'.cell? (aj q)=some (af (aj p))/\W'.cell? (aj q2)=some (U s)/\W'.cell? (aj p)=some (ai (aj g) es.length es.length)/\∀i,(hi:i<es.length)→W'.cell? (aj g (i*3))=some (U es[i].state)):=bU (fun W' hs=>⟨(cj.pE c1 hs kq).cell 0,(cj.pE c2 hs QJ).cell 0,(hr.same hs kp kg).b0.cell 0,fun i hi=>((hr.same hs kp kg).at i hi).1⟩);have HY:=bU hY;have HA:=bU hAb;have H0:=bU h0;clear hY hAb h0 hr c1 c2
 gi_wp2
 clear d1 d2
 gi_loopw [11] (fun i wr=>∃a:Nat,a<=es.length/\i=U a/\Hid (J (iP (js es s) es.length a) wr)/\Hid (Same K W wr)) (fun i _=>es.length-(intOf i).toNat)
 case atStart=>exact⟨0,by omega,rfl,H0,bU (Same.refl _ _)⟩
 case round=>
  obtain⟨a,ha,rfl,hJ,hS⟩:=hrel;by_cases hlt:a<es.length
  .obtain⟨y0,y1,y2,y3⟩:=HQ.out wr hS.out
   have y4:=y3 a hlt;have hsf:=Fz (s:=s) hlt;have hls:iP (js es s) es.length (a+1)=iP (js es s) es.length a++(if h:a<es.length/\js es s a=true then[⟨a,h⟩] else[]):=rfl;clear y3;generalize es[a].state=sa at *;by_cases hss:sa=s
   .have hst:js es s a=true:=by rw[hsf,hss];simp
    rw[dif_pos ⟨hlt,hst⟩] at hls;obtain⟨fn,tmps,assign,body,hy,hR⟩:=HY.out _ ⟨a,⟨hlt,hst⟩⟩ wr.drew (HA.out _ _ _ hJ.out (bd (bV _ _))) (by have:=mK (js es s) es.length a;omega)
    dsimp only at hy
    rw[←hls] at hR;have I6:=hR.mono (R':=fun e W'=>∃b:Bool,e=ae (.bool b)/\Hid ((b=true/\J (iP (js es s) es.length (a+1)) W'/\Same K wr.drew W')\/(b=false/\Jx (iP (js es s) es.length (a+1)) W'))) (by
     rintro e W' (⟨h1,h2,h3⟩|⟨h1,h2⟩)
     .exact⟨true,h1,bU (.inl ⟨rfl,h2,h3⟩)⟩
     .exact⟨false,h1,bU (.inr ⟨rfl,h2⟩)⟩)
    have e1:((sa:Int)==(s:Int))=true:=by rw[beq_iff_eq];omega
    have hmx:prog.follows .mixedOrders=true:=by kernel_rfl
    clear hR hls hsf hst hss
    gi_wp2
    gi_region_with_o (with_reducible refine I6.mono ?_;rintro e W3 ⟨b,rfl,h3⟩)
    all_goals
     cases b
     .have h4:Jx (iP (js es s) es.length (a+1)) W3:=by rcases h3.out with⟨h,_⟩|⟨_,h⟩;cases h;exact h
      have H4:=bU h4;clear h4
      gi_wp2
      refine bodyPost_ret (results_none rfl _ _ _) rfl ?_;exact⟨⟨_,rfl⟩,.inr ⟨_,⟨a+1,by omega,rfl⟩,H4.out⟩⟩
     .have h4:J (iP (js es s) es.length (a+1)) W3/\Same K wr.drew W3:=by rcases h3.out with⟨_,h⟩|⟨h,_⟩;exact h;cases h
      have H4:=bU h4;clear h4
      gi_wp2
      go_roundw
      case rel=>exact⟨a+1,by omega,by go_num,bU H4.out.1,bU ((hS.out.trans (Same.below (bd (bV _ _)))).trans H4.out.2)⟩
      case measure=>simp[intOf];omega
   .have hst:¬(a<es.length/\js es s a=true):=by rw[hsf];simp[hss]
    rw[dif_neg hst,List.append_nil] at hls;have HLS:=bU hls;have e1:((sa:Int)==(s:Int))=false:=by rw[aA];omega
    clear hls hsf hst hss;refine wpIn_wide.2 ?_;go_wp2_with fail
    go_quiet (fail)
    go_wp2_with fail
    go_roundw
    case rel=>exact⟨a+1,by omega,by go_num,bU (by rw[HLS.out];exact HA.out _ _ _ hJ.out (jh (bV _ _) _)),bU (hS.out.trans (Same.below (jh (bV _ _) _)))⟩
    case measure=>simp[intOf];omega
  .obtain rfl:a=es.length:=by omega
   gi_wp2
   go_end0
   exact⟨⟨_,rfl⟩,.inl ⟨_,rfl,hJ.out⟩⟩
end Tb
namespace Tb
open Go.RowKit Go.bZ Go.Gc Go.Shelf Bt Ar
attribute [local go_sem] Oper.semAt_some
theorem LI(m p:Nat)(s:Int)(w:World):CallsIn Fence.wide m prog 278 #[af (aj p),U s] w fun e w'=>
  e=ae (.func (.func 300) #[] #[af (aj w.heap.size),af (aj (w.heap.size+1))])/\w'=(w.alloc (.cells #[af (aj p)] 137)).alloc (.cells #[U s] 3):=by
 refine callsIn_of_wp func278 rfl trivial ?_ rfl;simp only[ntmps278,aP,aC,aV,Nat.reduceAdd,Nat.reduceSub,aL,aK,aT,aM,aU,aX]
 gi_wp2
 go_ret;exact⟨rfl,rfl⟩
theorem FA(m:Nat)(hm:1<=m)(q q2 p g s gens:Nat)(es:List eG)(K:Nat→Prop)(kq:K q)(QJ:K q2)(kp:K p)(kg:K g)(w:World)(c1:cj w q #[af (aj p)] 137)(c2:cj w q2 #[U s] 3)(hr:eP w p g es gens):
  SeqStopsK Fence.wide m prog 300 #[af (aj q),af (aj q2)] (fun x:{x:Nat//x<es.length/\js es s x=true}=>#[Value.int .i64 x.val,af (aj g (x.val*3))]) (Same K) (fun xs=>xs=iP (js es s) es.length es.length) (fun pre=>∃k,k<=es.length/\pre=iP (js es s) es.length k) es.length w:=fun l J Jx W hW hJ _ hY h0=>
 MB m hm l q q2 p g s gens es K kq QJ kp kg J Jx hY (AbidesFrom.later hJ) W (c1.cA hW) (c2.cA hW) (hr.bY (cu.cD hW) (S:=fun _=>False) id id) h0
theorem eP.zH{w:World}{p g:Nat}{es:List eG}{gens:Nat}(h:eP w p g es gens){i:Nat}{e:eG}(he:es[i]?=some e)(z:Nat)(hz:z<=65536):eP (w.setCell (aj g (i*3+1)) (U z)) p g (es.set i {e with slot:=z}) gens:=by
 have hm:=aH he;have hc:∀k,eR (es.set i {e with slot:=z}) k=eR es k:=fun k=>by
  have:=fp es i e {e with slot:=z} k he;simp at this;omega
 refine⟨?_,by rw[←(qg es i e z he).2.1];exact h.b1.set _ _,by rw[aI];exact h.pos,by rw[aI];exact h.jU,fun x hx=>?_,h.gs,h.ne⟩
 .rw[aI,hc,hc,hc,hc]
  exact h.b0.other h.ne _ _
 .rcases aZ hx with hx|rfl
  .exact h.gen x hx
  .exact⟨(h.gen e hm).1,hz⟩
theorem JP{es:List eG}{k:Nat}{x:{x:Nat//x<es.length/\js es 0 x=true}}{e:eG}(he:es[ir es]?=some e)(h0:e.state=0)(hj:∀j,j<ir es→∀f,es[j]?=some f→f.state≠0)(h:[x]=iP (js es 0) es.length k):x.val=ir es:=by
 have hi:=(au.1 he).1;have hs:js es 0 (ir es)=true:=by unfold js;rw[he];simp[h0]
 have hx:x.val∈gO (iP (js es 0) es.length k):=by rw[←h];simp[gO]
 rw[jz] at hx;rcases Nat.lt_trichotomy x.val (ir es) with c|c|c
 .exfalso
  have h1:=x.2.2;unfold js at h1;rw[aq x.2.1] at h1;exact hj x.val c _ (aq x.2.1) (by simpa using h1)
 .exact c
 .have:ir es∈gO (iP (js es 0) es.length k):=(jz _ _).2 ⟨by omega,hi,hs⟩
  rw[←h] at this;simp[gO] at this;omega
theorem FB{w7:World}{p g s i z ge gens:Nat}{OE:List eG}(hT:eP (w7.setCell (aj g (i*3+1)) (U z)) p g OE gens)(h2:cj w7 (s+1+1) #[U 0] 3)(h3:cj w7 (s+1+1+1) #[.int .u32 0] 186)(h4:cj w7 (s+1+1+1+1) #[U 0] 33)(hp:p<s)(hg:g<s):
  eP ((((w7.setCell (aj g (i*3+1)) (U z)).setCell (aj (s+1+1)) (U i)).setCell (aj (s+1+1+1)) (.int .u32 ge)).setCell (aj (s+1+1+1+1)) (U 0)).drew p g OE gens/\cj ((((w7.setCell (aj g (i*3+1)) (U z)).setCell (aj (s+1+1)) (U i)).setCell (aj (s+1+1+1)) (.int .u32 ge)).setCell (aj (s+1+1+1+1)) (U 0)).drew (s+1+1) #[U i] 3/\
  cj ((((w7.setCell (aj g (i*3+1)) (U z)).setCell (aj (s+1+1)) (U i)).setCell (aj (s+1+1+1)) (.int .u32 ge)).setCell (aj (s+1+1+1+1)) (U 0)).drew (s+1+1+1) #[.int .u32 ge] 186/\cj ((((w7.setCell (aj g (i*3+1)) (U z)).setCell (aj (s+1+1)) (U i)).setCell (aj (s+1+1+1)) (.int .u32 ge)).setCell (aj (s+1+1+1+1)) (U 0)).drew (s+1+1+1+1) #[U 0] 33/\
  cu (fun k=>k=g\/k=s+1+1\/k=s+1+1+1\/k=s+1+1+1+1) w7 ((((w7.setCell (aj g (i*3+1)) (U z)).setCell (aj (s+1+1)) (U i)).setCell (aj (s+1+1+1)) (.int .u32 ge)).setCell (aj (s+1+1+1+1)) (U 0)).drew:=by
 have k1:cu (fun k=>k=g\/k=s+1+1\/k=s+1+1+1\/k=s+1+1+1+1) w7 (w7.setCell (aj g (i*3+1)) (U z)):=cu.stored (cu.refl _ w7) (p:=g) (.inl (.inl rfl)) _ _;have k2:cu (fun k=>k=s+1+1\/k=s+1+1+1\/k=s+1+1+1+1) (w7.setCell (aj g (i*3+1)) (U z)) ((((w7.setCell (aj g (i*3+1)) (U z)).setCell (aj (s+1+1)) (U i)).setCell (aj (s+1+1+1)) (.int .u32 ge)).setCell (aj (s+1+1+1+1)) (U 0)).drew:=(cu.stored (cu.stored (cu.stored (cu.refl _ _) (p:=s+1+1) (.inl (.inl rfl)) _ _) (p:=s+1+1+1) (.inl (.inr (.inl rfl))) _ _) (p:=s+1+1+1+1) (.inl (.inr (.inr rfl))) _ _).drew;refine⟨hT.bY k2 (by omega) (by omega),?_,?_,?_,k1.trans (k2.up (fun k hk=>.inr hk))⟩
 .exact(((((h2.other (by omega) _ _).set 0 (U i)).other (by omega) _ _).other (by omega) _ _).drew)
 .exact(((((h3.other (by omega) _ _).other (by omega) _ _).set 0 (.int .u32 ge)).other (by omega) _ _).drew)
 .exact(((((h4.other (by omega) _ _).other (by omega) _ _).other (by omega) _ _).set 0 (U 0)).drew)
set_option maxHeartbeats 2000000 in
theorem JQ{w:World}{p g:Nat}{es:List eG}{gens:Nat}(h:eP w p g es gens)(hf:0<ek es)(z:Nat)(hz:z<=65536){e0:eG}(he:es[ir es]?=some e0):
  ak 236 #[af (aj p),U z] w fun e w'=>e=ae (.tuple #[U (ir es:Int),.int .u32 e0.gen,U 0])/\eP w' p g (es.set (ir es) ⟨1,z,e0.gen⟩) gens/\cu (fun k=>k=p\/k=g) w w':=by
 obtain⟨e',h1,h2,h3⟩:=kF hf;rw[he] at h1;injection h1 with h1;subst h1;obtain⟨W,hW⟩:=al (((((w.alloc (.cells #[af (aj p)] 137)).alloc (.cells #[U z] 3)).alloc (.cells #[U 0] 3)).alloc (.cells #[.int .u32 0] 186)).alloc (.cells #[U 0] 33));have sW:W.heap.size=w.heap.size+1+1+1+1+1:=by rw[←hW];simp
 have hB:Below w.heap.size w W:=by rw[←hW];exact bA (bA (bA (bA (bA (bV _ _) (av _) _) (av _) _) (av _) _) (av _) _) (av _) _
 have b0:cj W w.heap.size #[af (aj p)] 137:=by rw[←hW];exact(((cj.gR w _ _ _ _).alloc _).alloc _).alloc _
 have b1:cj W (w.heap.size+1) #[U z] 3:=by rw[←hW];exact(((cj.jf w _ _ _ _).alloc _).alloc _).alloc _
 have b2:cj W (w.heap.size+1+1) #[U 0] 3:=by
  have:=cj.jf (w.alloc (.cells #[af (aj p)] 137)) #[U z] #[U 0] 3 3;rw[World.size_alloc] at this;rw[←hW];exact(this.alloc _).alloc _
 have b3:cj W (w.heap.size+1+1+1) #[.int .u32 0] 186:=by
  have:=cj.jf ((w.alloc (.cells #[af (aj p)] 137)).alloc (.cells #[U z] 3)) #[U 0] #[.int .u32 0] 3 186;rw[World.size_alloc,World.size_alloc] at this;rw[←hW];exact this.alloc _
 have b4:cj W (w.heap.size+1+1+1+1) #[U 0] 33:=by
  have:=cj.jf (((w.alloc (.cells #[af (aj p)] 137)).alloc (.cells #[U z] 3)).alloc (.cells #[U 0] 3)) #[.int .u32 0] #[U 0] 186 33;rw[World.size_alloc,World.size_alloc,World.size_alloc] at this;rw[←hW];exact this
 have hw:=h.bY (cu.cD hB) (S:=fun _=>False) id id;have d0:=cC hw;have din:=callsIn_wide.1 (LI 0 p 0 W);have x0:W.cell? (aj w.heap.size)=some (af (aj p)):=b0.cell 0;have x1:W.cell? (aj (w.heap.size+1))=some (U z):=b1.cell 0;have e1:decide ((z:Int)<0)=false:=az (by omega);refine(callsIn_wide (n:=3)).1 ?_;refine callsIn_of_wp_marks func236 rfl trivial ?_ rfl;simp only[ntmps236,aP,aC,aV,Nat.reduceAdd,Nat.reduceSub,aL,aK,aT,aM,aU,aX];refine wpIn_wide.2 ?_;subst hW;go_wp2_with (first|(go_at_call 122;refine d0.mono ?_;rintro e w' ⟨rfl,rfl⟩)|(go_at_call 278;refine din.mono ?_;rintro e w' ⟨rfl,rfl⟩))
 refine(wpIn_wide (n:=3)).1 ?_;obtain⟨W,hW⟩:=al (((((w.alloc (.cells #[af (aj p)] 137)).alloc (.cells #[U z] 3)).alloc (.cells #[U 0] 3)).alloc (.cells #[.int .u32 0] 186)).alloc (.cells #[U 0] 33));rw[hW] at sW hB b0 b1 b2 b3 b4 hw d0 din x0 x1 ⊢;clear hW d0 din x0 x1;have q5:cj ((W.alloc (.cells #[af (aj p)] 137)).alloc (.cells #[U 0] 3)) (w.heap.size+1+1+1+1+1) #[af (aj p)] 137:=by rw[←sW];exact cj.gR W _ _ _ _
 have q6:cj ((W.alloc (.cells #[af (aj p)] 137)).alloc (.cells #[U 0] 3)) (w.heap.size+1+1+1+1+1+1) #[U 0] 3:=by rw[←sW];exact cj.jf W _ _ _ _
 obtain⟨W6,su⟩:=al ((W.alloc (.cells #[af (aj p)] 137)).alloc (.cells #[U 0] 3));have AR:Below W.heap.size W W6:=by rw[←su];exact bA (bA (bV _ _) (av _) _) (av _) _
 have s6:W6.heap.size=w.heap.size+1+1+1+1+1+1+1:=by rw[←su];simp[sW]
 rw[su] at q5 q6 ⊢;clear su;have hpl:=h.b0.lt;have hgl:=h.b1.lt;have R6:=hw.bY (cu.cD AR) (S:=fun _=>False) id id;have hfew:=h.jU;refine wpIn_rangeFunc_ownG rfl (by omega) (gf:=300) (lb:=#[af (aj (w.heap.size+1+1+1+1+1)),af (aj (w.heap.size+1+1+1+1+1+1))]) rfl trivial (enters_of func300 (by kernel_rfl) rfl)
  (FA 2 (by omega) (w.heap.size+1+1+1+1+1) (w.heap.size+1+1+1+1+1+1) p g 0 gens es (fun k=>k<W6.heap.size) (by omega) (by omega) (by omega) (by omega) W6 q5 q6 R6) Same.trans (fun W l _ o' qd _ _ _=>Same.put (by intro k hk;exact hk) W l o' qd) (bV _ _) (fun _=>rfl)
  (fun pre V=>pre=[]/\Below W6.heap.size W6 V)
  (fun c pre V=>(c=.ret/\∃x,pre=[x]/\∃e,es[x.val]?=some e/\eP V p g (es.set x.val ⟨1,z,e.gen⟩) gens/\cj V (w.heap.size+1+1) #[U x.val] 3/\cj V (w.heap.size+1+1+1) #[.int .u32 e.gen] 186/\cj V (w.heap.size+1+1+1+1) #[U 0] 33)/\cu (fun k=>k=p\/k=g) w V/\W6.heap.size<=V.heap.size) ?hI ?hIx ?h0
  (fun x=>{tmps:=#[af (aj p),U z,af (aj w.heap.size),af (aj (w.heap.size+1)),af (aj (w.heap.size+1+1)),af (aj (w.heap.size+1+1+1)),af (aj (w.heap.size+1+1+1+1)),U x.val,af (aj g (x.val*3)),.bool false,af (aj p),.bool false,.bool false,U z,.bool false,af (aj p),.func (.func 300) #[] #[af (aj (w.heap.size+1+1+1+1+1)),af (aj (w.heap.size+1+1+1+1+1+1))],U x.val,af (aj g (x.val*3)),undef,undef,undef,undef,undef,undef,undef,undef,undef,undef,undef,undef],defers:=[]}) ?assign ?body ?done ?stop
 case hI=>exact fJ (fun _ V hV=>hV.2.size) (fun _ V V' hV hb=>⟨hV.1,hV.2.trans hb⟩)
 case hIx=>
  intro c;refine fJ (fun _ V hV=>hV.2.2) (fun s V V' hV hb=>?_);have hc:cu (fun k=>W6.heap.size<=k) V V':=⟨hb.os,hb.tape,hb.output,hb.size,fun k _ hk=>hb.block k (by have:¬W6.heap.size<=k:=hk;omega)⟩;obtain⟨⟨hcr,x,hx,e,e1,e2,e3,e4,e5⟩,hC,hsz⟩:=hV;exact⟨⟨hcr,x,hx,e,e1,e2.bY hc (by omega) (by omega),e3.bY hc (by omega),e4.bY hc (by omega),e5.bY hc (by omega)⟩,hC.tr hc (fun k h1 h2=>absurd h1 (by have:W6.heap.size<=k:=h2;omega)),aE hsz hb.size⟩
 case h0=>exact⟨rfl,bV _ _⟩
 case assign=>
  intro l x V K hK
  gi_wp2
  exact hK
 case body=>
  rintro l pre x V ⟨rfl,hV⟩ _;have hx:=x.2.1;obtain⟨e,hex⟩:∃e,es[x.val]?=some e:=⟨_,aq hx⟩;have hse:e.state=0:=by have:=x.2.2;unfold js at this;rw[hex] at this;simpa using this
  have hVt:=R6.bY (cu.cD hV) (S:=fun _=>False) id id;have dt:=fun m=>(callsIn_wide (n:=m)).2 (JA hVt hex hse)
  have hBV:=bT AR hV AR.size;have c0:V.cell? (aj w.heap.size)=some (af (aj p)):=(b0.cA hBV).cell 0;have HT:Hid (∀V',eP V' p g (es.set x.val {e with state:=1}) gens→cu (fun k=>k=p\/k=g) V V'→cj V' (w.heap.size+1) #[U z] 3/\cj V' (w.heap.size+1+1) #[U 0] 3/\cj V' (w.heap.size+1+1+1) #[.int .u32 0] 186/\cj V' (w.heap.size+1+1+1+1) #[U 0] 33/\eP (V'.setCell (aj g (x.val*3+1)) (U z)) p g (es.set x.val ⟨1,z,e.gen⟩) gens/\V'.cell? (aj g (x.val*3+1))=some (U e.slot)/\V'.cell? (aj g (x.val*3+2))=some (.int .u32 e.gen)/\V'.frozen? (aj g (x.val*3+1))=false):=bU (fun V' ht hc=>by
   have xP:(es.set x.val {e with state:=1})[x.val]?=some {e with state:=1}:=by rw[List.getElem?_set_self hx]
   have hs:=ht.zH xP z hz;rw[List.set_set] at hs;have ha:=ht.at x.val (by rw[aI];exact hx);simp only[List.getElem_set_self] at ha;exact⟨(b1.cA hBV).bY hc (by omega),(b2.cA hBV).bY hc (by omega),(b3.cA hBV).bY hc (by omega),(b4.cA hBV).bY hc (by omega),hs,ha.2.1,ha.2.2,ht.b1.cE _⟩)
  have HV:=bU hV;have HEX:=bU hex;clear hV hVt hex hse;generalize hxv:x.val=i at *;have HXV:=bU hxv;clear hxv
  gi_wp2_with (refine⟨trivial,?_⟩;gi_at_call 249;refine(CallsIn.inRound l (dt _)).mono ?_;rintro e7 w7 ⟨rfl,MC,zG⟩;obtain⟨t1,t2,t3,t4,t5,t6,t7,t8⟩:=HT.out w7 MC zG;have u1:w7.cell? (aj (w.heap.size+1))=some (U z):=t1.cell 0;have u2:w7.cell? (aj (w.heap.size+1+1))=some (U 0):=t2.cell 0;have u3:w7.cell? (aj (w.heap.size+1+1+1))=some (.int .u32 0):=t3.cell 0;have u4:w7.cell? (aj (w.heap.size+1+1+1+1))=some (U 0):=t4.cell 0;have f2:=t2.cE 0;have f3:=t3.cE 0;have f4:=t4.cE 0;have T2:=bU t2;have T3:=bU t3;have T4:=bU t4;have T5:=bU t5;have C7:=bU zG;clear t1 t2 t3 t4 t5 MC zG)
  have n1:g≠w.heap.size+1+1:=by omega
  have n2:g≠w.heap.size+1+1+1:=by omega
  have n3:g≠w.heap.size+1+1+1+1:=by omega
  have m1:=Ne.symm n1;have m2:=Ne.symm n2;have m3:=Ne.symm n3;have HFin:=FB (s:=w.heap.size) (z:=z) (i:=i) (ge:=e.gen) T5.out T2.out T3.out T4.out hpl hgl;have OF:=bU HFin;have hVw:cu (fun k=>k=p\/k=g) w w7:=(cu.cD (S:=fun k=>k=p\/k=g) (bT hB (bT AR HV.out AR.size) hB.size)).trans C7.out;have HVW:=bU hVw;clear HFin hVw
  gi_region
  all_goals
   gi_wp2
   obtain⟨g1,g2,g3,g4,g5⟩:=OF.out;refine⟨gP (S:=fun k=>k=p\/k=g\/k=w.heap.size+1+1\/k=w.heap.size+1+1+1\/k=w.heap.size+1+1+1+1) ((C7.out.up (fun k hk=>by rcases hk with hk|hk;exact .inl hk;exact .inr (.inl hk))).trans (g5.up (fun k hk=>.inr hk))) (by intro k hk;omega),⟨rfl,x,rfl,e,by rw[HXV.out];exact HEX.out,by rw[HXV.out];exact g1,by rw[HXV.out];exact g2,g3,g4⟩,HVW.out.tr g5 (fun k h1 h2=>by rcases h2 with h2|h2|h2|h2;exact .inr h2;all_goals (exfalso;omega)),?_⟩;have:=C7.out.size;have:=HV.out.size;have:=g5.size;omega
 case done=>
  rintro D ys V hD rfl ⟨hy,_⟩ _
  exfalso
  have hi:=(au.1 he).1;have:ir es∈gO (iP (js es 0) es.length es.length):=(jz _ _).2 ⟨hi,hi,by unfold js;rw[he];simp[h2]⟩;rw[hy] at this;simp[gO] at this
 case stop=>
  rintro D c pre V hD ⟨k,hk,hpre⟩ ⟨⟨rfl,x,rfl,e,e1,e2,e3,e4,e5⟩,hC,hsz⟩ hK;have hxi:=JP he h2 h3 hpre;rw[hxi] at e1 e2 e3;rw[he] at e1;injection e1 with e1;subst e1
  gi_wp2
  have kD:cu (fun k=>k=D) V (V.putObj D (.deferred none)):=(cu.refl (fun k=>k=D) V).put (.inl rfl) _;have c4:=(e3.bY kD (by omega)).cell 0;have c5:=(e4.bY kD (by omega)).cell 0;have c6:=(e5.bY kD (by omega)).cell 0;refine⟨by simp,.inl ⟨_,_,rfl,run_takeDeferred hK,?_⟩⟩;refine⟨.tuple #[U (ir es:Int),.int .u32 e0.gen,U 0],?_,rfl,e2.bY kD (by omega) (by omega),hC.tr kD (fun k h1 h2=>by exfalso;omega)⟩;simp[results,Tryz.f236,go_sem,c4,c5,c6]
end Tb
end Go.Proofs.YtgblmelijlgimaaGreatDoor
