/- Parts of the proof of TopApart. -/
import Derived.Test.YtgblmelijlgimaaGreatDoorZTopAB
set_option maxRecDepth 100000
namespace Go.Proofs.YtgblmelijlgimaaGreatDoor
open Go.Proofs.Tryz
namespace Bt
open Go.RowKit Go.bZ Go.Shelf
attribute [local go_sem] Oper.semAt_some
theorem mF(k:IntKind)(l:List Int)(i:Nat)(h:i<l.length):(ints k l)[i]?=some (.int k (l.getD i 0)):=by
 rw[ints_at _ _ _ h,ao,aq h];rfl
def PN(n:Nat)(q:Nat×Nat):Prop:=q.2%18446744073709551616=0\/n<=64*(q.1%2048)+Lib.ctz 64 (q.2%18446744073709551616)
def I(w:World)(n p:Nat)(pre:List (Nat×Nat))(W:World):Prop:=
 ((∀q∈pre,PN n q)/\W.cell? (aj (w.heap.size+1))=some (U 0)/\W.frozen? (aj (w.heap.size+1))=false/\W.cell? (aj (w.heap.size+1+1))=some (.bool false)/\W.frozen? (aj (w.heap.size+1+1))=false/\W.cell? (aj w.heap.size)=some (af (aj p)))/\Below w.heap.size w W
def Ix(w:World)(n:Nat)(c:Code)(pre:List (Nat×Nat))(W:World):Prop:=
 (c=.ret/\∃ini last,pre=ini++[last]/\(∀q∈ini,PN n q)/\last.2%18446744073709551616≠0/\64*(last.1%2048)+Lib.ctz 64 (last.2%18446744073709551616)<n/\
  W.cell? (aj (w.heap.size+1))=some (U ((64*(last.1%2048)+Lib.ctz 64 (last.2%18446744073709551616):Nat):Int))/\W.cell? (aj (w.heap.size+1+1))=some (.bool true))/\Below w.heap.size w W
def wF(ws:List Int)(a:Nat)(b:Bool)(j:Nat):Nat×Nat:=(a/64+j,fH ws (a/64) (2^(a%64)-1) (gE b) j)
theorem Ov(ws:List Int)(a n j:Nat)(b:Bool)(hK:a/64+j<2048)(h:PN n (wF ws a b j)):
  fH ws (a/64) (2^(a%64)-1) (gE b) j=0\/n<=64*(a/64+j)+Lib.ctz 64 (fH ws (a/64) (2^(a%64)-1) (gE b) j):=by
 unfold PN wF at h;rw[bf hK,bf (jS _ _ _ _ _)] at h;exact h
theorem qF(ws:List Int)(a n k:Nat)(b:Bool)(hw:∀x∈ws,0<=x/\x<18446744073709551616)(hws:ws.length<=1024)(hk:k<=ws.length-a/64)
 (h:∀q∈upto (wF ws a b) k,PN n q)(i:Nat)(ha:a<=i)(hi:i<n)(hik:i/64<a/64+k):bit ws i≠b:=by
 obtain⟨j,hj⟩:∃j,i/64=a/64+j:=⟨i/64-a/64,by omega⟩;have hK:a/64+j<ws.length:=by omega
 have hm:wF ws a b j∈upto (wF ws a b) k:=by simp only[upto,List.mem_map,List.mem_range];exact⟨j,by omega,rfl⟩
 have:=AQ ws a j n b hw hK (Ov ws a n j b (by omega) (h _ hm)) (i%64) (by omega) (by omega) (by omega)
 rwa [show 64*(a/64+j)+i%64=i by omega] at this
theorem sH(ws:List Int)(a n:Nat)(b:Bool)(hw:∀x∈ws,0<=x/\x<18446744073709551616)(hws:ws.length<=1024)(hln:ws.length=(n+63)/64)
 (h:∀q∈upto (wF ws a b) (ws.length-a/64),PN n q):iM (bit ws) n a b 0 false:=
 .inr ⟨rfl,rfl,fun i ha hi=>qF ws a n _ b hw hws (av _) h i ha hi (by omega)⟩
theorem uW(ws:List Int)(a n k:Nat)(b:Bool)(hw:∀x∈ws,0<=x/\x<18446744073709551616)(hws:ws.length<=1024)(hk:k+1<=ws.length-a/64)
 (h:∀q∈upto (wF ws a b) k,PN n q)(h3:(wF ws a b k).2%18446744073709551616≠0)(h4:64*((wF ws a b k).1%2048)+Lib.ctz 64 ((wF ws a b k).2%18446744073709551616)<n):
  iM (bit ws) n a b (64*((wF ws a b k).1%2048)+Lib.ctz 64 ((wF ws a b k).2%18446744073709551616)) true:=by
 have hK:a/64+k<ws.length:=by omega
 unfold wF at h3 h4 ⊢
 dsimp only at h3 h4 ⊢
 rw[bf (jS _ _ _ _ _)] at h3;rw[bf (show a/64+k<2048 by omega),bf (jS _ _ _ _ _)] at h4 ⊢;obtain⟨g1,g2,g3,g4⟩:=EC ws a k b hw hK h3 _ rfl;generalize Lib.ctz 64 (fH ws (a/64) (2^(a%64)-1) (gE b) k)=c at *;refine .inl ⟨rfl,g3,h4,g2,fun i ha hi=>?_⟩;by_cases hik:i/64<a/64+k
 .exact qF ws a n k b hw hws (by omega) h i ha (by omega) hik
 .have:=g4 (i%64) (by omega) (by omega)
  rwa [show 64*(a/64+k)+i%64=i by omega] at this
theorem uX(f:Nat→Bool)(n a:Nat)(b:Bool)(h:¬a<n):iM f n a b 0 false:=.inr ⟨rfl,rfl,fun i ha hi=>absurd hi (by omega)⟩
set_option maxHeartbeats 2000000 in
theorem lN{w:World}{p g n:Nat}{f:Nat→Bool}(h:ee w p g n f)(a:Nat)(ha:a<=65536)(b:Bool)(hT:TabAt 2 Lib.deBruijn64tab w)(hz:2<w.heap.size):
  ak 230 #[af (aj p),U a,.bool b] w fun e w'=>∃(r:Nat) (ok:Bool),e=ae (.tuple #[U r,.bool ok])/\iM f n a b r ok/\Below w.heap.size w w':=by
 have hnn:=h.nn;have hh:∀(m:Nat) (W:World) (i:Nat),Below w.heap.size w W→CallsIn Fence.wide m prog 223 #[af (aj p),U i] W fun e w'=>e=ae (.bool (decide (i<n)))/\W=w':=fun m W i hB=>callsIn_wide.2 ((tK (h.cA hB) (i:Int)).mono fun e w' ⟨h1,h2⟩=>⟨by rw[h1];congr 2;simp,h2⟩)
 have HT:∀(W:World),Below w.heap.size w W→TabAt 2 Lib.deBruijn64tab W:=fun W hB j hj=>(hB.cell (p:=⟨2,j,none⟩) hz).trans (hT j hj)
 clear hT;have HH:=bU hh;clear hh;have lO:Below w.heap.size w (((w.alloc (.cells #[af (aj p)] 179)).alloc (.cells #[U 0] 3)).alloc (.cells #[.bool false] 4)):=(((bV _ w).alloc (av _) _).alloc (by simp) _).alloc (by simp <;> omega) _;obtain⟨ws,hr,rfl⟩:=h;have hpl:=hr.b0.lt;have hgl:=hr.b1.lt;have hwd:=hr.wd;have hhi:=hr.hi;have hln:=hr.ln;have hws:ws.length<=1024:=by omega
 refine(callsIn_wide (n:=3)).1 ?_;refine callsIn_of_wp_marks func230 rfl trivial ?_ rfl;simp only[ntmps230,aP,aC,aV,Nat.reduceAdd,Nat.reduceSub,aL,aK,aT,aM,aU,aX];by_cases hlt:a<n
 .have hc:=HH.out 2 _ a lO
  rw[aw hlt] at hc
  cases b
  .have bR:=Boxed.new w 179 (af (aj p))
   have b1:=Boxed.new (w.alloc (.cells #[af (aj p)] 179)) 3 (U 0);have b2:=Boxed.new ((w.alloc (.cells #[af (aj p)] 179)).alloc (.cells #[U 0] 3)) 4 (.bool false);have b3:=Boxed.new (((w.alloc (.cells #[af (aj p)] 179)).alloc (.cells #[U 0] 3)).alloc (.cells #[.bool false] 4)) 179 (af (aj p));have b4:=Boxed.new ((((w.alloc (.cells #[af (aj p)] 179)).alloc (.cells #[U 0] 3)).alloc (.cells #[.bool false] 4)).alloc (.cells #[af (aj p)] 179)) 3 (U a);have b5:=Boxed.new (((((w.alloc (.cells #[af (aj p)] 179)).alloc (.cells #[U 0] 3)).alloc (.cells #[.bool false] 4)).alloc (.cells #[af (aj p)] 179)).alloc (.cells #[U a] 3)) 36 (aa 18446744073709551615);simp only[World.size_alloc] at bR b1 b2 b3 b4 b5;have AR:=((lO.alloc (by simp <;> omega) (.cells #[af (aj p)] 179)).alloc (by simp <;> omega) (.cells #[U a] 3)).alloc (by simp <;> omega) (.cells #[aa 18446744073709551615] 36);have HD:=And.intro (b4.alloc (.cells #[aa 18446744073709551615] 36)).cell (And.intro ((b3.alloc (.cells #[U a] 3)).alloc (.cells #[aa 18446744073709551615] 36)).cell (And.intro b5.cell (And.intro ((AR.cell (p:=⟨p,0,none⟩) hpl).trans (hr.b0.cell 0)) (fun k (hk:k<ws.length)=>(AR.cell (p:=⟨g,k,none⟩) hgl).trans ((hr.b1.cell k).trans (mF .u64 ws k hk))))));have hfr:=zf 2 p a (gE false) (((w.alloc (.cells #[af (aj p)] 179)).alloc (.cells #[U 0] 3)).alloc (.cells #[.bool false] 4));rw[show((gE false:Nat):Int)=18446744073709551615 from rfl] at hfr
   gi_wp2_with (refine⟨trivial,?_⟩;first|(gi_at_call 223;refine hc.mono ?_;rintro e w' ⟨rfl,rfl⟩)|(gi_at_call 272;refine hfr.mono ?_;rintro e w' ⟨rfl,rfl⟩))
   clear hfr;refine wpIn_rangeFunc_ownG rfl (by omega) (gf:=299) (lb:=#[af (aj (w.heap.size+4)),af (aj (w.heap.size+3)),af (aj (w.heap.size+5))]) rfl trivial (enters_of func299 (by kernel_rfl) rfl)
    (qD 2 p g a (gE false) (w.heap.size+4) (w.heap.size+3) (w.heap.size+5) (w.heap.size+6) (by omega) ws hws ha (sG _) hwd (by omega) (by omega) (by omega) (by omega) _ (by simp <;> omega) (by simp <;> omega) HD.1 HD.2.1 HD.2.2.1 HD.2.2.2.1 HD.2.2.2.2) belowK_t (belowK_b (by simp <;> omega)) (bV _ _) (fun _=>rfl)
    (I w n p) (Ix w n) ?hI ?hIx ?h0
    (fun x=>{tmps:=#[af (aj p),U a,.bool false,af (aj w.heap.size),undef,undef,af (aj (w.heap.size+1)),af (aj (w.heap.size+1+1)),aa 18446744073709551615,U ((x.1%2048:Nat):Int),aa ((x.2%18446744073709551616:Nat):Int),undef,.bool false,U a,U a,af (aj p),U a,.bool true,.bool false,af (aj p),U a,aa 18446744073709551615,.func (.func 299) #[] #[af (aj (w.heap.size+4)),af (aj (w.heap.size+3)),af (aj (w.heap.size+5))],U ((x.1%2048:Nat):Int),aa ((x.2%18446744073709551616:Nat):Int),undef,undef,undef,undef,undef,undef,undef,undef,undef,undef,undef],defers:=[]}) ?assign ?body ?done ?stop
   case hI=>exact OwnFrom.and (Own.from (fun s A B row hs hg hr=>⟨hs.1,cell_kept hs.2.1 hg hr,(frozen_kept hs.2.1 hg hr).trans hs.2.2.1,cell_kept hs.2.2.2.1 hg hr,(frozen_kept hs.2.2.2.1 hg hr).trans hs.2.2.2.2.1,cell_kept hs.2.2.2.2.2 hg hr⟩) _) (ownFrom_below (av _) (by simp <;> omega))
   case hIx=>exact fun c=>OwnFrom.and (Own.from (fun s A B row hs hg hr=>by obtain⟨hc,ini,last,e1,e2,e3,e4,e5,e6⟩:=hs;exact⟨hc,ini,last,e1,e2,e3,e4,cell_kept e5 hg hr,cell_kept e6 hg hr⟩) _) (ownFrom_below (av _) (by simp <;> omega))
   case h0=>exact⟨⟨by simp,((((b1.alloc _).alloc _).alloc _).alloc _).cell,((((b1.alloc _).alloc _).alloc _).alloc _).frozen,(((b2.alloc _).alloc _).alloc _).cell,(((b2.alloc _).alloc _).alloc _).frozen,(((((bR.alloc _).alloc _).alloc _).alloc _).alloc _).cell⟩,AR⟩
   case assign=>
    intro l x W K hK
    gi_wp2
    exact hK
   case body=>
    rintro l pre x W ⟨⟨hp,mX,pL,jT,Me,hcr⟩,hB⟩ _;obtain⟨y,hy⟩:=al (x.2%18446744073709551616);obtain⟨k,hk⟩:=al (x.1%2048);rw[hy,hk];have hyl:y<18446744073709551616:=by omega
    have hkl:k<2048:=by omega
    by_cases xo:y=0
    .rw[xo]
     gi_wp2
     exact⟨KeepsFrom.refl _ _,bV _ _,⟨fun q hq=>(bu.1 hq).elim (hp q) (fun e=>by simp at e;subst e;exact Or.inl (hy.trans xo)),mX,pL,jT,Me,hcr⟩,hB⟩
    .have hcl:=(pY y hyl xo).1
     have htz:∀m,CallsIn Fence.wide m prog 273 #[aa y] W fun e w'=>e=ae (U (Lib.ctz 64 y))/\w'=W:=fun m=>callsIn_wide.2 (EB y hyl xo W (HT W hB))
     have hPx:n<=64*k+Lib.ctz 64 y→PN n x:=fun hle=>Or.inr (by rw[hy,hk];exact hle)
     have hXx:64*k+Lib.ctz 64 y<n→x.2%18446744073709551616≠0/\64*(x.1%2048)+Lib.ctz 64 (x.2%18446744073709551616)<n/\64*(x.1%2048)+Lib.ctz 64 (x.2%18446744073709551616)=64*k+Lib.ctz 64 y:=fun hle=>by rw[hy,hk];exact⟨xo,hle,rfl⟩
     have Mf:((y:Int)==0)=false:=by simp;omega
     generalize Lib.ctz 64 y=c at *;have hha:=fun m=>HH.out m W (64*k+c) hB
     rw[show((64*k+c:Nat):Int)=(k:Int)*64+(c:Int) by omega] at hha;by_cases hin:64*k+c<n
     .rw[aw hin] at hha
      gi_wp2_with (refine⟨trivial,?_⟩;first|(gi_at_call 273;refine(CallsIn.inRound l (htz _)).mono ?_;rintro e w' ⟨rfl,rfl⟩)|(gi_at_call 223;refine(CallsIn.inRound l (hha _)).mono ?_;rintro e w' ⟨rfl,rfl⟩))
      refine⟨((KeepsOthers.setCell _ _ _).trans (KeepsOthers.setCell _ _ _)).from _,⟨rfl,pre,x,rfl,hp,(hXx hin).1,(hXx hin).2.1,?_,?_⟩,(hB.setCell (p:=⟨w.heap.size+1,0,none⟩) (Nat.le_succ _) _).setCell (p:=⟨w.heap.size+1+1,0,none⟩) (show w.heap.size<=w.heap.size+1+1 by omega) _⟩
      .rw[(hXx hin).2.2,show((64*k+c:Nat):Int)=(k:Int)*64+(c:Int) by omega]
       exact(World.cell?_setCell_other _ _ _ _ (by simp)).trans (World.cell?_setCell_same' _ _ _ (by rw[mX];rfl))
      .exact World.cell?_setCell_same' _ _ _ (by rw[World.cell?_setCell_other _ _ _ _ (by simp),jT];rfl)
     .rw[az hin] at hha
      gi_wp2_with (refine⟨trivial,?_⟩;first|(gi_at_call 273;refine(CallsIn.inRound l (htz _)).mono ?_;rintro e w' ⟨rfl,rfl⟩)|(gi_at_call 223;refine(CallsIn.inRound l (hha _)).mono ?_;rintro e w' ⟨rfl,rfl⟩))
      exact⟨KeepsFrom.refl _ _,bV _ _,⟨fun q hq=>(bu.1 hq).elim (hp q) (fun e=>by simp at e;subst e;exact hPx (by omega)),mX,pL,jT,Me,hcr⟩,hB⟩
   case done=>
    rintro D ys W hD rfl ⟨⟨hp,mX,pL,jT,Me,hcr⟩,hB⟩ hK
    gi_wp2
    have I8:=((KeepsOthers.setCell W ⟨w.heap.size+1,0,none⟩ (U 0)).trans (KeepsOthers.setCell _ ⟨w.heap.size+1+1,0,none⟩ (.bool false))).same D _ hK rfl;have e1:=(World.cell?_setCell_other (W.setCell (aj (w.heap.size+1)) (U 0)) ⟨w.heap.size+1+1,0,none⟩ ⟨w.heap.size+1,0,none⟩ (.bool false) (by simp)).trans (World.cell?_setCell_same' W ⟨w.heap.size+1,0,none⟩ (U 0) (by rw[mX];rfl));have e2:=World.cell?_setCell_same' (W.setCell (aj (w.heap.size+1)) (U 0)) ⟨w.heap.size+1+1,0,none⟩ (.bool false) (by rw[World.cell?_setCell_other _ _ _ _ (by simp),jT];rfl);have uJ:=(hB.setCell (p:=⟨w.heap.size+1,0,none⟩) (Nat.le_succ _) (U 0)).setCell (p:=⟨w.heap.size+1+1,0,none⟩) (show w.heap.size<=w.heap.size+1+1 by omega) (.bool false);have c5:=cell_kept e1 (grownBy_putObj' _ D (.deferred none)) (fun r e=>by cases e;exact⟨_,I8,rfl⟩);have c6:=cell_kept e2 (grownBy_putObj' _ D (.deferred none)) (fun r e=>by cases e;exact⟨_,I8,rfl⟩);refine⟨by simp,.inl ⟨_,_,rfl,run_takeDeferred I8,?_⟩⟩;refine⟨.tuple #[U ((0:Nat):Int),.bool false],?_,⟨0,false,rfl,sH ws a n _ hwd hws hln hp,uJ.trans (belowK_b (w:=w) (av _) _ D _ _ (by simp at hD;omega) I8 rfl rfl)⟩⟩;simp[results,Tryz.f230,go_sem,c5,c6]
   case stop=>
    rintro D c pre W hD ⟨k,hk,rfl⟩ ⟨⟨rfl,ini,last,e1,e2,e3,e4,e5,e6⟩,hB⟩ hK
    gi_wp2
    have c5:=cell_kept e5 (grownBy_putObj' _ D (.deferred none)) (fun r e=>by cases e;exact⟨_,hK,rfl⟩);have c6:=cell_kept e6 (grownBy_putObj' _ D (.deferred none)) (fun r e=>by cases e;exact⟨_,hK,rfl⟩);obtain⟨k',rfl⟩:∃k',k=k'+1:=by
     cases k with
     | zero=>simp[upto] at e1
     | succ k'=>exact⟨k',rfl⟩
    rw[oM] at e1;obtain⟨rfl,e8⟩:=List.append_inj' e1 rfl;obtain rfl:=List.cons.inj e8 |>.1;refine⟨by simp,.inl ⟨_,_,rfl,run_takeDeferred hK,?_⟩⟩;refine⟨.tuple #[_,.bool true],?_,⟨_,true,rfl,uW ws a n k' _ hwd hws hk e2 e3 e4,hB.trans (belowK_b (w:=w) (av _) W D _ _ (by simp at hD;omega) hK rfl rfl)⟩⟩;unfold wF;simp[results,Tryz.f230,go_sem,c5,c6]
  .have bR:=Boxed.new w 179 (af (aj p))
   have b1:=Boxed.new (w.alloc (.cells #[af (aj p)] 179)) 3 (U 0);have b2:=Boxed.new ((w.alloc (.cells #[af (aj p)] 179)).alloc (.cells #[U 0] 3)) 4 (.bool false);have b3:=Boxed.new (((w.alloc (.cells #[af (aj p)] 179)).alloc (.cells #[U 0] 3)).alloc (.cells #[.bool false] 4)) 179 (af (aj p));have b4:=Boxed.new ((((w.alloc (.cells #[af (aj p)] 179)).alloc (.cells #[U 0] 3)).alloc (.cells #[.bool false] 4)).alloc (.cells #[af (aj p)] 179)) 3 (U a);have b5:=Boxed.new (((((w.alloc (.cells #[af (aj p)] 179)).alloc (.cells #[U 0] 3)).alloc (.cells #[.bool false] 4)).alloc (.cells #[af (aj p)] 179)).alloc (.cells #[U a] 3)) 36 (aa 0);simp only[World.size_alloc] at bR b1 b2 b3 b4 b5;have AR:=((lO.alloc (by simp <;> omega) (.cells #[af (aj p)] 179)).alloc (by simp <;> omega) (.cells #[U a] 3)).alloc (by simp <;> omega) (.cells #[aa 0] 36);have HD:=And.intro (b4.alloc (.cells #[aa 0] 36)).cell (And.intro ((b3.alloc (.cells #[U a] 3)).alloc (.cells #[aa 0] 36)).cell (And.intro b5.cell (And.intro ((AR.cell (p:=⟨p,0,none⟩) hpl).trans (hr.b0.cell 0)) (fun k (hk:k<ws.length)=>(AR.cell (p:=⟨g,k,none⟩) hgl).trans ((hr.b1.cell k).trans (mF .u64 ws k hk))))));have hfr:=zf 2 p a (gE true) (((w.alloc (.cells #[af (aj p)] 179)).alloc (.cells #[U 0] 3)).alloc (.cells #[.bool false] 4));rw[show((gE true:Nat):Int)=0 from rfl] at hfr
   gi_wp2_with (refine⟨trivial,?_⟩;first|(gi_at_call 223;refine hc.mono ?_;rintro e w' ⟨rfl,rfl⟩)|(gi_at_call 272;refine hfr.mono ?_;rintro e w' ⟨rfl,rfl⟩))
   clear hfr;refine wpIn_rangeFunc_ownG rfl (by omega) (gf:=299) (lb:=#[af (aj (w.heap.size+4)),af (aj (w.heap.size+3)),af (aj (w.heap.size+5))]) rfl trivial (enters_of func299 (by kernel_rfl) rfl)
    (qD 2 p g a (gE true) (w.heap.size+4) (w.heap.size+3) (w.heap.size+5) (w.heap.size+6) (by omega) ws hws ha (sG _) hwd (by omega) (by omega) (by omega) (by omega) _ (by simp <;> omega) (by simp <;> omega) HD.1 HD.2.1 HD.2.2.1 HD.2.2.2.1 HD.2.2.2.2) belowK_t (belowK_b (by simp <;> omega)) (bV _ _) (fun _=>rfl)
    (I w n p) (Ix w n) ?hI ?hIx ?h0
    (fun x=>{tmps:=#[af (aj p),U a,.bool true,af (aj w.heap.size),undef,undef,af (aj (w.heap.size+1)),af (aj (w.heap.size+1+1)),aa 0,U ((x.1%2048:Nat):Int),aa ((x.2%18446744073709551616:Nat):Int),undef,.bool true,U a,U a,af (aj p),U a,.bool true,.bool false,af (aj p),U a,aa 0,.func (.func 299) #[] #[af (aj (w.heap.size+4)),af (aj (w.heap.size+3)),af (aj (w.heap.size+5))],U ((x.1%2048:Nat):Int),aa ((x.2%18446744073709551616:Nat):Int),undef,undef,undef,undef,undef,undef,undef,undef,undef,undef,undef],defers:=[]}) ?assign ?body ?done ?stop
   case hI=>exact OwnFrom.and (Own.from (fun s A B row hs hg hr=>⟨hs.1,cell_kept hs.2.1 hg hr,(frozen_kept hs.2.1 hg hr).trans hs.2.2.1,cell_kept hs.2.2.2.1 hg hr,(frozen_kept hs.2.2.2.1 hg hr).trans hs.2.2.2.2.1,cell_kept hs.2.2.2.2.2 hg hr⟩) _) (ownFrom_below (av _) (by simp <;> omega))
   case hIx=>exact fun c=>OwnFrom.and (Own.from (fun s A B row hs hg hr=>by obtain⟨hc,ini,last,e1,e2,e3,e4,e5,e6⟩:=hs;exact⟨hc,ini,last,e1,e2,e3,e4,cell_kept e5 hg hr,cell_kept e6 hg hr⟩) _) (ownFrom_below (av _) (by simp <;> omega))
   case h0=>exact⟨⟨by simp,((((b1.alloc _).alloc _).alloc _).alloc _).cell,((((b1.alloc _).alloc _).alloc _).alloc _).frozen,(((b2.alloc _).alloc _).alloc _).cell,(((b2.alloc _).alloc _).alloc _).frozen,(((((bR.alloc _).alloc _).alloc _).alloc _).alloc _).cell⟩,AR⟩
   case assign=>
    intro l x W K hK
    gi_wp2
    exact hK
   case body=>
    rintro l pre x W ⟨⟨hp,mX,pL,jT,Me,hcr⟩,hB⟩ _;obtain⟨y,hy⟩:=al (x.2%18446744073709551616);obtain⟨k,hk⟩:=al (x.1%2048);rw[hy,hk];have hyl:y<18446744073709551616:=by omega
    have hkl:k<2048:=by omega
    by_cases xo:y=0
    .rw[xo]
     gi_wp2
     exact⟨KeepsFrom.refl _ _,bV _ _,⟨fun q hq=>(bu.1 hq).elim (hp q) (fun e=>by simp at e;subst e;exact Or.inl (hy.trans xo)),mX,pL,jT,Me,hcr⟩,hB⟩
    .have hcl:=(pY y hyl xo).1
     have htz:∀m,CallsIn Fence.wide m prog 273 #[aa y] W fun e w'=>e=ae (U (Lib.ctz 64 y))/\w'=W:=fun m=>callsIn_wide.2 (EB y hyl xo W (HT W hB))
     have hPx:n<=64*k+Lib.ctz 64 y→PN n x:=fun hle=>Or.inr (by rw[hy,hk];exact hle)
     have hXx:64*k+Lib.ctz 64 y<n→x.2%18446744073709551616≠0/\64*(x.1%2048)+Lib.ctz 64 (x.2%18446744073709551616)<n/\64*(x.1%2048)+Lib.ctz 64 (x.2%18446744073709551616)=64*k+Lib.ctz 64 y:=fun hle=>by rw[hy,hk];exact⟨xo,hle,rfl⟩
     have Mf:((y:Int)==0)=false:=by simp;omega
     generalize Lib.ctz 64 y=c at *;have hha:=fun m=>HH.out m W (64*k+c) hB
     rw[show((64*k+c:Nat):Int)=(k:Int)*64+(c:Int) by omega] at hha;by_cases hin:64*k+c<n
     .rw[aw hin] at hha
      gi_wp2_with (refine⟨trivial,?_⟩;first|(gi_at_call 273;refine(CallsIn.inRound l (htz _)).mono ?_;rintro e w' ⟨rfl,rfl⟩)|(gi_at_call 223;refine(CallsIn.inRound l (hha _)).mono ?_;rintro e w' ⟨rfl,rfl⟩))
      refine⟨((KeepsOthers.setCell _ _ _).trans (KeepsOthers.setCell _ _ _)).from _,⟨rfl,pre,x,rfl,hp,(hXx hin).1,(hXx hin).2.1,?_,?_⟩,(hB.setCell (p:=⟨w.heap.size+1,0,none⟩) (Nat.le_succ _) _).setCell (p:=⟨w.heap.size+1+1,0,none⟩) (show w.heap.size<=w.heap.size+1+1 by omega) _⟩
      .rw[(hXx hin).2.2,show((64*k+c:Nat):Int)=(k:Int)*64+(c:Int) by omega]
       exact(World.cell?_setCell_other _ _ _ _ (by simp)).trans (World.cell?_setCell_same' _ _ _ (by rw[mX];rfl))
      .exact World.cell?_setCell_same' _ _ _ (by rw[World.cell?_setCell_other _ _ _ _ (by simp),jT];rfl)
     .rw[az hin] at hha
      gi_wp2_with (refine⟨trivial,?_⟩;first|(gi_at_call 273;refine(CallsIn.inRound l (htz _)).mono ?_;rintro e w' ⟨rfl,rfl⟩)|(gi_at_call 223;refine(CallsIn.inRound l (hha _)).mono ?_;rintro e w' ⟨rfl,rfl⟩))
      exact⟨KeepsFrom.refl _ _,bV _ _,⟨fun q hq=>(bu.1 hq).elim (hp q) (fun e=>by simp at e;subst e;exact hPx (by omega)),mX,pL,jT,Me,hcr⟩,hB⟩
   case done=>
    rintro D ys W hD rfl ⟨⟨hp,mX,pL,jT,Me,hcr⟩,hB⟩ hK
    gi_wp2
    have I8:=((KeepsOthers.setCell W ⟨w.heap.size+1,0,none⟩ (U 0)).trans (KeepsOthers.setCell _ ⟨w.heap.size+1+1,0,none⟩ (.bool false))).same D _ hK rfl;have e1:=(World.cell?_setCell_other (W.setCell (aj (w.heap.size+1)) (U 0)) ⟨w.heap.size+1+1,0,none⟩ ⟨w.heap.size+1,0,none⟩ (.bool false) (by simp)).trans (World.cell?_setCell_same' W ⟨w.heap.size+1,0,none⟩ (U 0) (by rw[mX];rfl));have e2:=World.cell?_setCell_same' (W.setCell (aj (w.heap.size+1)) (U 0)) ⟨w.heap.size+1+1,0,none⟩ (.bool false) (by rw[World.cell?_setCell_other _ _ _ _ (by simp),jT];rfl);have uJ:=(hB.setCell (p:=⟨w.heap.size+1,0,none⟩) (Nat.le_succ _) (U 0)).setCell (p:=⟨w.heap.size+1+1,0,none⟩) (show w.heap.size<=w.heap.size+1+1 by omega) (.bool false);have c5:=cell_kept e1 (grownBy_putObj' _ D (.deferred none)) (fun r e=>by cases e;exact⟨_,I8,rfl⟩);have c6:=cell_kept e2 (grownBy_putObj' _ D (.deferred none)) (fun r e=>by cases e;exact⟨_,I8,rfl⟩);refine⟨by simp,.inl ⟨_,_,rfl,run_takeDeferred I8,?_⟩⟩;refine⟨.tuple #[U ((0:Nat):Int),.bool false],?_,⟨0,false,rfl,sH ws a n _ hwd hws hln hp,uJ.trans (belowK_b (w:=w) (av _) _ D _ _ (by simp at hD;omega) I8 rfl rfl)⟩⟩;simp[results,Tryz.f230,go_sem,c5,c6]
   case stop=>
    rintro D c pre W hD ⟨k,hk,rfl⟩ ⟨⟨rfl,ini,last,e1,e2,e3,e4,e5,e6⟩,hB⟩ hK
    gi_wp2
    have c5:=cell_kept e5 (grownBy_putObj' _ D (.deferred none)) (fun r e=>by cases e;exact⟨_,hK,rfl⟩);have c6:=cell_kept e6 (grownBy_putObj' _ D (.deferred none)) (fun r e=>by cases e;exact⟨_,hK,rfl⟩);obtain⟨k',rfl⟩:∃k',k=k'+1:=by
     cases k with
     | zero=>simp[upto] at e1
     | succ k'=>exact⟨k',rfl⟩
    rw[oM] at e1;obtain⟨rfl,e8⟩:=List.append_inj' e1 rfl;obtain rfl:=List.cons.inj e8 |>.1;refine⟨by simp,.inl ⟨_,_,rfl,run_takeDeferred hK,?_⟩⟩;refine⟨.tuple #[_,.bool true],?_,⟨_,true,rfl,uW ws a n k' _ hwd hws hk e2 e3 e4,hB.trans (belowK_b (w:=w) (av _) W D _ _ (by simp at hD;omega) hK rfl rfl)⟩⟩;unfold wF;simp[results,Tryz.f230,go_sem,c5,c6]
 .have hc:=HH.out 2 _ a lO
  rw[az hlt] at hc
  cases b
  .gi_wp2_with (refine⟨trivial,?_⟩;gi_at_call 223;refine hc.mono ?_;rintro e w' ⟨rfl,rfl⟩)
   refine⟨.tuple #[U ((0:Nat):Int),.bool false],?_,⟨0,false,rfl,uX _ n a _ hlt,lO⟩⟩;simp[results,Tryz.f230,go_sem]
  .gi_wp2_with (refine⟨trivial,?_⟩;gi_at_call 223;refine hc.mono ?_;rintro e w' ⟨rfl,rfl⟩)
   refine⟨.tuple #[U ((0:Nat):Int),.bool false],?_,⟨0,false,rfl,uX _ n a _ hlt,lO⟩⟩;simp[results,Tryz.f230,go_sem]
end Bt
namespace Bt
open Go.RowKit Go.bZ
theorem AS{ws:List Int}(hw:∀x∈ws,0<=x/\x<18446744073709551616):(∀x∈ws,x=0)↔∀i,bit ws i=false:=by
 constructor
 .intro h i
  unfold bit;have:ws.getD (i/64) 0=0:=by
   rw[ao];by_cases hi:i/64<ws.length
   .rw[aq hi];exact h _ (aF _)
   .rw[List.getElem?_eq_none (by omega)];rfl
  rw[this];simp
 .intro h x hx
  obtain⟨j,hj,rfl⟩:=List.getElem_of_mem hx;have h1:=hw _ (aF hj);have h2:ws[j].toNat=0:=by
   apply Nat.eq_of_testBit_eq;intro i;rw[Nat.zero_testBit];by_cases hi:i<64
   .have:=h (64*j+i)
    unfold bit at this;rw[show(64*j+i)/64=j by omega,show(64*j+i)%64=i by omega,ao,aq hj] at this;exact this
   .exact Nat.testBit_lt_two_pow (aB (show ws[j].toNat<2^64 by omega) (Nat.pow_le_pow_right (by decide) (by omega)))
  omega
def xq(ws:List Int)(k c:Nat):Prop:=c<=127*k/\(c=0↔∀x∈ws.take k,x=0)
theorem uY{ws:List Int}{k c W o:Nat}(hk:k<ws.length)(h:xq ws k c)(hW:ws[k]=(W:Int))(h1:o<=127)(h2:o=0↔W=0):xq ws (k+1) (c+o):=by
 refine⟨by have:=h.1;omega,?_⟩;rw[bB hk];constructor
 .intro hc x hx
  rcases bu.1 hx with hx|hx
  .exact h.2.1 (by omega) x hx
  .simp at hx;subst hx;rw[hW,h2.1 (by omega)];rfl
 .intro hx
  have e1:=h.2.2 (fun x Ea=>hx x (List.mem_append_left _ Ea));have e2:=hx ws[k] (List.mem_append_right _ (by simp));have e3:=h2.2 (by rw[hW] at e2;omega);omega
def zg(f:Nat→Bool)(w:World)(e:Ending)(w':World):Prop:=∃c:Nat,e=ae (U c)/\(c=0↔∀i,f i=false)/\w=w'
theorem AU{w:World}{p g n:Nat}{f:Nat→Bool}(h:ee w p g n f):ak 288 #[af (aj p)] w (zg f w):=by
 have d:=cC h;obtain⟨ws,h,rfl⟩:=h;have c0:w.cell? (aj p)=some (ai (aj g) ws.length ws.length):=h.b0.cell 0;have hnn:=h.nn;have hln:=h.ln;have hl:ws.length<=1024:=by omega
 have HC:Hid (∀k,(hk:k<ws.length)→w.cell? (aj g k)=some (aa ws[k])):=bU fun k hk=>(h.b1.cell _).trans (ints_at _ _ _ hk)
 have HW:=bU h.wd;have HZ:=bU (AS h.wd);clear h hln hnn;go_enter func288,ntmps288;go_wp2_with (go_at_call 159;refine d.mono ?_;rintro e w' ⟨rfl,rfl⟩)
 go_loop [3,14] (fun s i=>∃(k c:Nat),k<=ws.length/\i=U k/\s=U c/\Hid (xq ws k c)) (fun _ i=>ws.length-(intOf i).toNat)
 case atStart=>exact⟨0,0,by omega,rfl,rfl,bU ⟨by omega,by simp⟩⟩
 case round=>
  obtain⟨k,c,hk,rfl,rfl,hR⟩:=hrel;have hc:=hR.out.1;by_cases hlt:k<ws.length
  .have ck:=HC.out k hlt
   have hw:=HW.out ws[k] (aF _);obtain⟨W,hW⟩:∃W:Nat,ws[k]=(W:Int):=⟨ws[k].toNat,by omega⟩;have Tu:=bU hW;rw[hW] at ck hw;have o:=fun wx=>uR W (by omega) wx
   clear hW;go_wp2_with (go_at_call 306;refine(o _).mono ?_;rintro e w' ⟨rfl,h1,h2,rfl⟩;have H2:=bU h2;clear h2;generalize mW W=oc at *)
   go_round
   case rel=>exact⟨k+1,c+oc,by omega,by go_num,by rw[aY],bU (uY hlt hR.out Tu.out h1 H2.out)⟩
   case measure=>simp[intOf];omega
  .obtain rfl:k=ws.length:=by omega
   go_wp2_with fail;go_ret;exact⟨c,rfl,by rw[hR.out.2,bK];exact HZ.out,rfl⟩
end Bt
end Go.Proofs.YtgblmelijlgimaaGreatDoor
namespace Go.bZ
open Go.RowKit
theorem jh{B:Nat}{a w:World}(h:Below B a w)(n:Nat):Below B a (w.drewN n):=⟨h.os,h.tape,h.output,h.size,h.block⟩
theorem bd{B:Nat}{a w:World}(h:Below B a w):Below B a w.drew:=⟨h.os,h.tape,h.output,h.size,h.block⟩
theorem bA{B:Nat}{a w:World}(h:Below B a w)(hB:B<=a.heap.size)(o:Obj):Below B a (w.alloc o):=h.alloc (aE hB h.size) o
theorem bT{a b c:World}{B C:Nat}(h:Below B a b)(k:Below C b c)(hB:B<=C):Below B a c:=h.trans (k.mono hB)
theorem fj{a b c:World}(h:Below a.heap.size a b)(k:Below b.heap.size b c):Below a.heap.size a c:=h.trans (k.mono h.size)
end Go.bZ
namespace Go.bZ
open Go.RowKit
theorem cu.up{S T:Nat→Prop}{a b:World}(h:cu S a b)(hst:∀k,S k→T k):cu T a b:=h.mono (fun k _ hk=>hst k hk)
theorem xt(S:Nat→Prop)(w:World)(o:Obj):cu S w (w.alloc o):=(cu.refl S w).alloc o
theorem cu.tr{S T:Nat→Prop}{a b c:World}(h:cu S a b)(k:cu T b c)(hst:∀x,x<a.heap.size→T x→S x):cu S a c:=
 ⟨k.os.trans h.os,k.tape.trans h.tape,k.output.trans h.output,aE h.size k.size,fun i hi hs=>(k.block i (aB hi h.size) (fun ht=>hs (hst i hi ht))).trans (h.block i hi hs)⟩
theorem cu.bl{S:Nat→Prop}{a b c:World}(h:cu S a b)(k:Below b.heap.size b c):cu S a c:=h.trans (cu.cD k)
theorem cj.jf(w:World)(C D:Array Value)(t u:TypeId):cj ((w.alloc (.cells C t)).alloc (.cells D u)) (w.heap.size+1) D u:=by
 have:=cj.new (w.alloc (.cells C t)) D u
 rwa [World.size_alloc] at this
theorem cj.gR(w:World)(C D:Array Value)(t u:TypeId):cj ((w.alloc (.cells C t)).alloc (.cells D u)) w.heap.size C t:=(cj.new w C t).alloc _
end Go.bZ
