/- Parts of the proof of TopApart. -/
import Derived.Test.YtgblmelijlgimaaGreatDoorZTopAC
set_option maxRecDepth 100000
namespace Go.Proofs.YtgblmelijlgimaaGreatDoor
open Go.Proofs.Tryz
namespace Pn
open Go.RowKit Go.bZ Bt
structure iV(w:World)(q g2 p g:Nat)(cs:List Int):Prop where
 b0:cj w q #[af (aj p),ai (aj g2) cs.length cs.length] 193
 b1:cj w g2 (ints .u8 cs) 5
 row:ee w p g cs.length (fun i=>decide (0<cs.getD i 0))
 wd:∀x∈cs,0<=x/\x<256
 n1:q≠g2
 n2:q≠p
 n3:q≠g
 n4:g2≠p
 n5:g2≠g
theorem iV.bY{S:Nat→Prop}{w w':World}{q g2 p g:Nat}{cs:List Int}(h:iV w q g2 p g cs)(hc:cu S w w')(h1:¬S q)(h2:¬S g2)(h3:¬S p)(h4:¬S g):iV w' q g2 p g cs:=
 ⟨h.b0.bY hc h1,h.b1.bY hc h2,h.row.bY hc h3 h4,h.wd,h.n1,h.n2,h.n3,h.n4,h.n5⟩
theorem iV.cA{w w':World}{q g2 p g:Nat}{cs:List Int}(h:iV w q g2 p g cs)(hb:Below w.heap.size w w'):iV w' q g2 p g cs:=h.bY (cu.cD hb) (S:=fun _=>False) id id id id
theorem cC{w:World}{q g2 p g:Nat}{cs:List Int}(h:iV w q g2 p g cs):ak 123 #[af (aj q)] w fun e w'=>e=ae (.bool false)/\w=w':=by
 have c0:w.cell? (aj q)=some (af (aj p)):=h.b0.cell 0;clear h;go_enter func123,ntmps123;go_wp2_with fail;go_ret;exact⟨rfl,rfl⟩
theorem gX{w:World}{q g2 p g:Nat}{cs:List Int}(h:iV w q g2 p g cs):ak 100 #[af (aj q)] w fun e w'=>e=ae (U cs.length)/\w=w':=by
 have d:=cC h;have c1:w.cell? (aj q 1)=some (ai (aj g2) cs.length cs.length):=h.b0.cell 1;clear h;go_enter func100,ntmps100;go_wp2_with (go_at_call 123;refine d.mono ?_;rintro e w' ⟨rfl,rfl⟩)
 go_ret;exact⟨rfl,rfl⟩
theorem uZ{w:World}{q g2 p g:Nat}{cs:List Int}(h:iV w q g2 p g cs)(i:Nat)(hi:i<cs.length):ak 193 #[af (aj q),U i] w fun e w'=>e=ae (U cs[i])/\w=w':=by
 have d:=cC h;have c1:w.cell? (aj q 1)=some (ai (aj g2) cs.length cs.length):=h.b0.cell 1;have c2:w.cell? (aj g2 i)=some (ab cs[i]):=(h.b1.cell _).trans (ints_at _ _ _ hi);have hw:=h.wd cs[i] (aF _);have hn:=h.row.nn;clear h;obtain⟨x,hx⟩:=al (cs[i]);rw[hx] at c2 hw ⊢;clear hx;go_enter func193,ntmps193;go_wp2_with (go_at_call 123;refine d.mono ?_;rintro e w' ⟨rfl,rfl⟩)
 go_ret;exact⟨rfl,rfl⟩
theorem u6(x:Int)(w:World)(a:Value):ak 247 #[a,ab x] w fun e w'=>e=ae (.tuple #[ab ((x+1)%256),.bool (decide (x<255))])/\w=w':=by
 go_enter func247,ntmps247;go_wp2_with fail
 go_ret2
 exact⟨rfl,rfl⟩
theorem ED(x:Int)(w:World)(a:Value):ak 248 #[a,ab x] w fun e w'=>e=ae (.tuple #[ab ((x-1)%256),.bool (decide (0<x))])/\w=w':=by
 go_enter func248,ntmps248;go_wp2_with fail
 go_ret2
 exact⟨rfl,rfl⟩
theorem nj{w:World}{q g2 p g:Nat}{cs:List Int}(h:iV w q g2 p g cs)(i:Nat)(hi:i<cs.length)(v:Int)(h0:0<=v)(h1:v<256){w2:World}
 (hr:ee w2 p g cs.length (lM (fun j=>decide (0<cs.getD j 0)) i (decide (0<v))))(hc:cu (· =g) (w.setCell (aj g2 i) (ab v)) w2):iV w2 q g2 p g (cs.set i v)/\cu (fun k=>k=g2\/k=g) w w2:=by
 refine⟨⟨?_,?_,?_,?_,h.n1,h.n2,h.n3,h.n4,h.n5⟩,?_⟩
 .rw[aI]
  exact(h.b0.other h.n1 i _).bY hc h.n3
 .have:=(h.b1.set i (ab v))
  rw[ints_set] at this;exact this.bY hc h.n5
 .rw[aI]
  have:(fun j=>decide (0<(cs.set i v).getD j 0))=lM (fun j=>decide (0<cs.getD j 0)) i (decide (0<v)):=by
   funext j
   unfold lM;rw[ao,bG];by_cases hj:j=i
   .subst hj;simp[hi]
   .rw[if_neg (Ne.symm hj),if_neg hj]
    show _=decide (0<cs.getD j 0);rw[ao]
  rw[this];exact hr
 .intro x hx
  rcases aZ hx with hx|rfl
  .exact h.wd x hx
  .exact⟨h0,h1⟩
 .exact((cu.refl (fun k=>k=g2\/k=g) w).stored (.inl (.inl rfl)) i (ab v)).trans (hc.mono fun k _ hk=>.inr hk)
theorem AV{w:World}{q g2 p g:Nat}{cs:List Int}(h:iV w q g2 p g cs)(i:Nat)(hi:i<cs.length)(hv:cs[i]<255):ak 246 #[af (aj q),U i,.func (.func 247) #[af (aj q)] #[]] w fun e w'=>e=ae (U 0)/\iV w' q g2 p g (cs.set i (cs[i]+1))/\cu (fun k=>k=g2\/k=g) w w':=by
 have d:=cC h;have c0:w.cell? (aj q)=some (af (aj p)):=h.b0.cell 0;have c1:w.cell? (aj q 1)=some (ai (aj g2) cs.length cs.length):=h.b0.cell 1;have c2:w.cell? (aj g2 i)=some (ab cs[i]):=(h.b1.cell _).trans (ints_at _ _ _ hi);have f2:=h.b1.cE i;have hw:=h.wd cs[i] (aF _);have hn:=h.row.nn;have n1:=h.n1;have jX:=fun(v:Int) (b:Bool)=>kO (h.row.bY (S:=fun k=>k=g2) ((cu.refl (fun k=>k=g2) w).stored (.inl rfl) i (ab v)) (Ne.symm h.n4) (Ne.symm h.n5)) i hi b
 have HT:=bU (fun(v:Int) (h0:0<=v) (h1:v<256) (w2:World)=>@nj w q g2 p g cs h i hi v h0 h1 w2);clear h;obtain⟨x,hx⟩:=al (cs[i]);rw[hx] at c2 hw hv ⊢;clear hx;have dm:=fun w=>u6 x w (af (aj q))
 rw[aw hv,show(x+1)%256=x+1 by omega] at dm;obtain⟨y,hy⟩:=al (x+1);rw[hy] at dm ⊢;have xo:0<=y:=by omega
 have Mf:y<256:=by omega
 clear hy;have hs:=jX y (decide (0<y));clear jX;go_enter func246,ntmps246;go_wp2_with (first|(go_at_call 123;refine d.mono ?_;rintro e w' ⟨rfl,rfl⟩)|(go_at_call 247;refine(dm _).mono ?_;rintro e w' ⟨rfl,rfl⟩)|(go_at_call 173;with_reducible refine hs.mono ?_;rintro e w2 ⟨rfl,AW,jT⟩))
 go_ret;have:=HT.out y xo Mf w2 AW jT;exact⟨rfl,this.1,this.2⟩
theorem so{w:World}{q g2 p g:Nat}{cs:List Int}(h:iV w q g2 p g cs)(i:Nat)(hi:i<cs.length)(hv:¬cs[i]<255):ak 246 #[af (aj q),U i,.func (.func 247) #[af (aj q)] #[]] w fun e w'=>e=ae (U 140)/\w=w':=by
 have d:=cC h;have c0:w.cell? (aj q)=some (af (aj p)):=h.b0.cell 0;have c1:w.cell? (aj q 1)=some (ai (aj g2) cs.length cs.length):=h.b0.cell 1;have c2:w.cell? (aj g2 i)=some (ab cs[i]):=(h.b1.cell _).trans (ints_at _ _ _ hi);have f2:=h.b1.cE i;have hw:=h.wd cs[i] (aF _);have hn:=h.row.nn;have n1:=h.n1;clear h;obtain⟨x,hx⟩:=al (cs[i]);rw[hx] at c2 hw hv;clear hx;have dm:=fun w=>u6 x w (af (aj q))
 rw[az hv] at dm;generalize (x+1)%256=y at dm;go_enter func246,ntmps246;go_wp2_with (first|(go_at_call 123;refine d.mono ?_;rintro e w' ⟨rfl,rfl⟩)|(go_at_call 247;refine(dm _).mono ?_;rintro e w' ⟨rfl,rfl⟩))
 go_ret;exact⟨rfl,rfl⟩
theorem AX{w:World}{q g2 p g:Nat}{cs:List Int}(h:iV w q g2 p g cs)(i:Nat)(hi:i<cs.length)(hv:0<cs[i]):ak 246 #[af (aj q),U i,.func (.func 248) #[af (aj q)] #[]] w fun e w'=>e=ae (U 0)/\iV w' q g2 p g (cs.set i (cs[i]-1))/\cu (fun k=>k=g2\/k=g) w w':=by
 have d:=cC h;have c0:w.cell? (aj q)=some (af (aj p)):=h.b0.cell 0;have c1:w.cell? (aj q 1)=some (ai (aj g2) cs.length cs.length):=h.b0.cell 1;have c2:w.cell? (aj g2 i)=some (ab cs[i]):=(h.b1.cell _).trans (ints_at _ _ _ hi);have f2:=h.b1.cE i;have hw:=h.wd cs[i] (aF _);have hn:=h.row.nn;have n1:=h.n1;have jX:=fun(v:Int) (b:Bool)=>kO (h.row.bY (S:=fun k=>k=g2) ((cu.refl (fun k=>k=g2) w).stored (.inl rfl) i (ab v)) (Ne.symm h.n4) (Ne.symm h.n5)) i hi b
 have HT:=bU (fun(v:Int) (h0:0<=v) (h1:v<256) (w2:World)=>@nj w q g2 p g cs h i hi v h0 h1 w2);clear h;obtain⟨x,hx⟩:=al (cs[i]);rw[hx] at c2 hw hv ⊢;clear hx;have dm:=fun w=>ED x w (af (aj q))
 rw[aw hv,show(x-1)%256=x-1 by omega] at dm;obtain⟨y,hy⟩:=al (x-1);rw[hy] at dm ⊢;have xo:0<=y:=by omega
 have Mf:y<256:=by omega
 clear hy;have hs:=jX y (decide (0<y));clear jX;go_enter func246,ntmps246;go_wp2_with (first|(go_at_call 123;refine d.mono ?_;rintro e w' ⟨rfl,rfl⟩)|(go_at_call 248;refine(dm _).mono ?_;rintro e w' ⟨rfl,rfl⟩)|(go_at_call 173;with_reducible refine hs.mono ?_;rintro e w2 ⟨rfl,AW,jT⟩))
 go_ret;have:=HT.out y xo Mf w2 AW jT;exact⟨rfl,this.1,this.2⟩
theorem Mg{w:World}{q g2 p g:Nat}{cs:List Int}(h:iV w q g2 p g cs)(i:Nat)(hi:i<cs.length)(hv:cs[i]<255):ak 192 #[af (aj q),U i] w fun e w'=>e=ae (U 0)/\iV w' q g2 p g (cs.set i (cs[i]+1))/\cu (fun k=>k=g2\/k=g) w w':=by
 have d:=AV h i hi hv;clear h;go_enter func192,ntmps192;go_wp2_with (go_at_call 246;refine d.mono ?_;rintro e w' ⟨rfl,hp,hc⟩)
 go_ret;exact⟨rfl,hp,hc⟩
theorem I9{w:World}{q g2 p g:Nat}{cs:List Int}(h:iV w q g2 p g cs)(i:Nat)(hi:i<cs.length)(hv:¬cs[i]<255):ak 192 #[af (aj q),U i] w fun e w'=>e=ae (U 140)/\w=w':=by
 have d:=so h i hi hv;clear h;go_enter func192,ntmps192;go_wp2_with (go_at_call 246;refine d.mono ?_;rintro e w' ⟨rfl,rfl⟩)
 go_ret;exact⟨rfl,rfl⟩
theorem EE{w:World}{q g2 p g:Nat}{cs:List Int}(h:iV w q g2 p g cs)(i:Nat)(hi:i<cs.length)(hv:0<cs[i]):ak 194 #[af (aj q),U i] w fun e w'=>e=ae (U 0)/\iV w' q g2 p g (cs.set i (cs[i]-1))/\cu (fun k=>k=g2\/k=g) w w':=by
 have d:=AX h i hi hv;clear h;go_enter func194,ntmps194;go_wp2_with (go_at_call 246;refine d.mono ?_;rintro e w' ⟨rfl,hp,hc⟩)
 go_ret;exact⟨rfl,hp,hc⟩
end Pn
namespace Pn
open Go.RowKit Go.bZ Bt
theorem Lx:(prog.info? 5).map (fun i=>(i.zero,i.size,i.bytes))=some (some (ab 0),1,1):=by kernel_rfl
theorem u7{w w1:World}{p g n:Nat}(hb:Below w.heap.size w w1)(hr:ee w1 p g n (fun _=>false)):
  iV ((w1.alloc (.cells (ints .u8 (List.replicate n 0)) 5)).alloc (.cells #[af (aj p),ai (aj w1.heap.size) n n] 193)) (w1.heap.size+1) w1.heap.size p g (List.replicate n 0)/\
  Below w.heap.size w ((w1.alloc (.cells (ints .u8 (List.replicate n 0)) 5)).alloc (.cells #[af (aj p),ai (aj w1.heap.size) n n] 193)):=by
 have hs:=hb.size;have hlt:=hr.lt;have AW:=(hr.cA ((bV _ w1).alloc (av _) (.cells (ints .u8 (List.replicate n 0)) 5))).cA ((bV _ _).alloc (av _) (.cells #[af (aj p),ai (aj w1.heap.size) n n] 193));refine⟨⟨?_,?_,?_,?_,by omega,by omega,by omega,by omega,by omega⟩,(hb.alloc hs _).alloc (by rw[World.size_alloc];omega) _⟩
 .rw[aN]
  have:=cj.new (w1.alloc (.cells (ints .u8 (List.replicate n 0)) 5)) #[af (aj p),ai (aj w1.heap.size) n n] 193
  rwa [World.size_alloc] at this
 .exact(cj.new w1 _ _).alloc _
 .rw[aN]
  have:(fun i=>decide (0<(List.replicate n (0:Int)).getD i 0))=fun _=>false:=by
   funext i
   rw[ao,List.getElem?_replicate]
   split <;> rfl
  rw[this];exact AW
 .intro x hx
  rw[aQ hx];omega
theorem kP(w:World)(n:Nat)(h:n<=65536):
  ak 67 #[U n] w fun e w'=>∃q g2 p g,e=ae (.tuple #[af (aj q),U 0])/\iV w' q g2 p g (List.replicate n 0)/\Below w.heap.size w w'/\w.heap.size<=q/\w.heap.size<=g2/\w.heap.size<=p/\w.heap.size<=g:=by
 have hmk:=run_make_row' (P:=prog) 27 5 (ab 0) 1 underlying27 Lx rfl .i64 .i64 n (by omega) (by omega);rw[nV] at hmk;have d:=Bt.kP w n h;go_enter func67,ntmps67;go_wp2_with (go_at_call 94;refine d.mono ?_;rintro e w1 ⟨p,g,rfl,hr,hb,hp,hg⟩)
 go_ret2
 exact⟨_,_,p,g,rfl,(u7 hb hr).1,(u7 hb hr).2,by have:=hb.size;omega,by have:=hb.size;omega,hp,hg⟩
end Pn
namespace Hd
open Go.RowKit Go.bZ
def jK(c r s:Int):Bool:=decide (0<=c/\c<8/\0<=r/\0<=s/\r<=63/\s<=63-r)
theorem jL(w:World)(c r s:Int)(_hc: -9223372036854775808<=c/\c<9223372036854775808)(_hr: -9223372036854775808<=r/\r<9223372036854775808)(_hs: -9223372036854775808<=s/\s<9223372036854775808):
  ak 156 #[.agg #[U c,U r,U s]] w fun e w'=>e=ae (.bool (jK c r s))/\Below w.heap.size w w':=by
 by_cases h0:0<=c
 .by_cases h1:c<8
  .by_cases h2:0<=r
   .by_cases h3:0<=s
    .by_cases h4:r<=63
     .by_cases h5:s<=63-r
      .rw[show jK c r s=true from aw (by omega)]
       go_enter func156,ntmps156;go_wp2_with fail;go_ret;exact⟨rfl,(bV _ w).alloc (av _) _⟩
      .rw[show jK c r s=false from az (by omega)]
       go_enter func156,ntmps156;go_wp2_with fail;go_ret;exact⟨rfl,(bV _ w).alloc (av _) _⟩
     .rw[show jK c r s=false from az (by omega)]
      go_enter func156,ntmps156;go_wp2_with fail;go_ret;exact⟨rfl,(bV _ w).alloc (av _) _⟩
    .rw[show jK c r s=false from az (by omega)]
     go_enter func156,ntmps156;go_wp2_with fail;go_ret;exact⟨rfl,(bV _ w).alloc (av _) _⟩
   .rw[show jK c r s=false from az (by omega)]
    go_enter func156,ntmps156;go_wp2_with fail;go_ret;exact⟨rfl,(bV _ w).alloc (av _) _⟩
  .rw[show jK c r s=false from az (by omega)]
   go_enter func156,ntmps156;go_wp2_with fail;go_ret;exact⟨rfl,(bV _ w).alloc (av _) _⟩
 .rw[show jK c r s=false from az (by omega)]
  go_enter func156,ntmps156;go_wp2_with fail;go_ret;exact⟨rfl,(bV _ w).alloc (av _) _⟩
theorem fR(w:World)(C:Array Value)(t:TypeId)(i:Nat){w2:World}(hb:Below (w.alloc (.cells C t)).heap.size (w.alloc (.cells C t)) w2):w2.cell? (aj w.heap.size i)=C[i]?:=
 (hb.cell (p:=⟨w.heap.size,i,none⟩) (by simp)).trans ((cj.new w C t).cell i)
theorem u9(w:World)(c r s:Int)(hc: -9223372036854775808<=c/\c<9223372036854775808)(hr: -9223372036854775808<=r/\r<9223372036854775808)(hs: -9223372036854775808<=s/\s<9223372036854775808):
  ak 157 #[.agg #[U c,U r,U s]] w fun e w'=>e=ae (.tuple (if jK c r s then #[U (r+s+1),U 0] else #[U 0,U 2]))/\Below w.heap.size w w':=by
 have dm:=fun w=>jL w c r s hc hr hs
 cases hm:jK c r s with
 | true=>
  have hb:0<=c/\c<8/\0<=r/\0<=s/\r<=63/\s<=63-r:=of_decide_eq_true hm;rw[hm] at dm;obtain⟨-,-,h2,h3,h4,h5⟩:=hb;clear hc hr hs;go_enter func157,ntmps157;go_wp2_with (go_at_call 156;refine(dm _).mono ?_;rintro e w2 ⟨rfl,hb⟩;have c1:=fR w _ _ 1 hb;have c2:=fR w _ _ 2 hb;simp at c1 c2)
  go_ret2
  exact⟨rfl,((bV _ w).alloc (av _) _).trans (hb.mono (by simp))⟩
 | false=>
  rw[hm] at dm;clear hc hr hs;go_enter func157,ntmps157;go_wp2_with (go_at_call 156;refine(dm _).mono ?_;rintro e w2 ⟨rfl,hb⟩)
  go_ret2
  exact⟨rfl,((bV _ w).alloc (av _) _).trans (hb.mono (by simp))⟩
def kQ(c r s i:Int):Bool×Int:=if jK c r s then(if i<0\/r+s<=i then(false,110) else(decide (i<r),0)) else(false,2)
theorem mG(w:World)(c r s i:Int)(hc: -9223372036854775808<=c/\c<9223372036854775808)(hr: -9223372036854775808<=r/\r<9223372036854775808)(hs: -9223372036854775808<=s/\s<9223372036854775808):
  ak 242 #[.agg #[U c,U r,U s],U i] w fun e w'=>e=ae (.tuple #[.bool (kQ c r s i).1,U (kQ c r s i).2])/\Below w.heap.size w w':=by
 have dm:=fun w=>jL w c r s hc hr hs
 unfold kQ
 cases hm:jK c r s with
 | true=>
  have hb:0<=c/\c<8/\0<=r/\0<=s/\r<=63/\s<=63-r:=of_decide_eq_true hm;rw[hm] at dm;obtain⟨-,-,h2,h3,h4,h5⟩:=hb;clear hc hr hs;rw[if_pos rfl];by_cases h6:i<0
  .rw[if_pos (.inl h6)]
   go_enter func242,ntmps242;go_wp2_with (go_at_call 156;refine(dm _).mono ?_;rintro e w2 ⟨rfl,hb⟩;have c1:=fR w _ _ 1 hb;have c2:=fR w _ _ 2 hb;simp at c1 c2)
   go_ret2
   exact⟨rfl,((bV _ w).alloc (av _) _).trans (hb.mono (by simp))⟩
  .by_cases h7:r+s<=i
   .rw[if_pos (.inr h7)]
    go_enter func242,ntmps242;go_wp2_with (go_at_call 156;refine(dm _).mono ?_;rintro e w2 ⟨rfl,hb⟩;have c1:=fR w _ _ 1 hb;have c2:=fR w _ _ 2 hb;simp at c1 c2)
    go_ret2
    exact⟨rfl,((bV _ w).alloc (av _) _).trans (hb.mono (by simp))⟩
   .rw[if_neg (by omega)]
    go_enter func242,ntmps242;go_wp2_with (go_at_call 156;refine(dm _).mono ?_;rintro e w2 ⟨rfl,hb⟩;have c1:=fR w _ _ 1 hb;have c2:=fR w _ _ 2 hb;simp at c1 c2)
    go_ret2
    exact⟨rfl,((bV _ w).alloc (av _) _).trans (hb.mono (by simp))⟩
 | false=>
  rw[hm] at dm;clear hc hr hs;rw[if_neg (by simp)];go_enter func242,ntmps242;go_wp2_with (go_at_call 156;refine(dm _).mono ?_;rintro e w2 ⟨rfl,hb⟩;have c1:=fR w _ _ 1 hb;have c2:=fR w _ _ 2 hb;simp at c1 c2)
  go_ret2
  exact⟨rfl,((bV _ w).alloc (av _) _).trans (hb.mono (by simp))⟩
end Hd
end Go.Proofs.YtgblmelijlgimaaGreatDoor
namespace Go.Gc
structure eG where
 state:Nat
 slot:Nat
 gen:Nat
structure Hand where
 slot:Nat
 field:Nat
 is:Bool
structure eV where
 n:Nat
 L:Nat
 pg:Nat
 addr:Nat→Nat
 size:Nat→Nat
 cB:Nat→Nat
 pf:Nat→Nat
 pm:Nat→Nat
 cls:Nat→Nat
 hd:Int→Option (Nat×Nat×Nat)
 dv:Nat
structure eV.Ok(K:eV):Prop where
 pos:0<K.n
 sz:∀x,x<K.n→0<K.size x
 apart:∀x y,x<K.n→y<K.n→x≠y→K.addr x+K.size x<=K.addr y\/K.addr y+K.size y<=K.addr x
 RN:∀x,x<K.n→K.cB x<K.pg
 Tv:∀x,x<K.n→K.pf (K.cB x)<=x/\x<K.pf (K.cB x)+K.pm (K.cB x)
 Qq:∀p,p<K.pg→0<K.pm p/\K.pm p<=64/\K.pf p+K.pm p<=K.n
 Mh:∀w c r v,K.hd w=some (c,r,v)→r+v<=63
 xe:K.hd 0=none
 RO:0<K.dv
structure St where
 T:Nat→Bool
 used:Int
 es:List eG
 cs:List Int
 M:Nat→Int
 col:Nat→Nat
 q:List Nat
 eI:Nat→Bool
 dq:Nat→Bool
 wa:Nat
 we:Nat
 hs:List Hand
 root:Nat
 act:Bool
 phase:Nat
 cZ:Nat→Bool
 sa:Nat
 sact:Bool
def cP{α:Type}(f:Nat→α)(i:Nat)(v:α):Nat→α:=fun j=>if j=i then v else f j
theorem cS{α:Type}(f:Nat→α)(i:Nat)(v:α):cP f i v i=v:=by unfold cP;rw[if_pos rfl]
theorem du{α:Type}(f:Nat→α){i j:Nat}(v:α)(h:j≠i):cP f i v j=f j:=by unfold cP;rw[if_neg h]
def cU(K:eV)(M:Nat→Int)(a:Nat):Option (Nat×Nat):=
 match K.hd (M (K.addr a)) with
 | some (c,r,v)=>if c=K.cls a/\r+v+1<=K.size a then some (r,v) else none
 | none=>none
def refs(K:eV)(M:Nat→Int)(a:Nat):Nat:=match cU K M a with|some (r,_)=>r|none=>0
def iW(K:eV)(M:Nat→Int)(a k:Nat):Option Nat:=
 if k<refs K M a/\0<M (K.addr a+1+k)/\M (K.addr a+1+k)<=K.n then some (M (K.addr a+1+k)-1).toNat else none
def lP(K:eV)(M M':Nat→Int)(a:Nat):Prop:=∀i,K.addr a<=i→i<K.addr a+K.size a→M' i=M i
theorem ki{K:eV}{M M':Nat→Int}{a:Nat}(hz:0<K.size a)(h:lP K M M' a):cU K M' a=cU K M a:=by
 unfold cU;rw[h _ (av _) (by omega)]
theorem fw{K:eV}{M:Nat→Int}{a r v:Nat}(h:cU K M a=some (r,v)):r+v+1<=K.size a:=by
 unfold cU at h
 split at h
 .split at h
  .rename_i h1 h2
   injection h with h;injection h with e1 e2;subst e1;subst e2;exact h2.2
  .cases h
 .cases h
theorem jn{K:eV}{M:Nat→Int}{a k:Nat}(h:k<refs K M a):k+1<K.size a:=by
 unfold refs at h
 split at h
 .rename_i r v e
  have:=fw e;omega
 .omega
theorem oN{K:eV}{M M':Nat→Int}{a:Nat}(hz:0<K.size a)(h:lP K M M' a):refs K M' a=refs K M a:=by
 unfold refs;rw[ki hz h]
theorem Ja{K:eV}(hK:K.Ok)(M:Nat→Int)(a:Nat):refs K M a<=63:=by
 unfold refs
 split
 .rename_i r v e
  unfold cU at e
  split at e
  .rename_i c r' v' e2
   split at e
   .injection e with e
    injection e with e1 e3;have:=hK.Mh _ _ _ _ e2;omega
   .cases e
  .cases e
 .omega
theorem lQ{K:eV}{M M':Nat→Int}{a:Nat}(hz:0<K.size a)(h:lP K M M' a)(k:Nat):iW K M' a k=iW K M a k:=by
 unfold iW;rw[oN hz h];by_cases hk:k<refs K M a
 .have:=jn hk
  rw[h (K.addr a+1+k) (by omega) (by omega)]
 .rw[if_neg (fun c=>hk c.1),if_neg (fun c=>hk c.1)]
theorem qG{K:eV}{M:Nat→Int}{a k x:Nat}(h:iW K M a k=some x):k<refs K M a:=by
 unfold iW at h
 split at h
 .rename_i c;exact c.1
 .cases h
theorem Mi{K:eV}{M:Nat→Int}{a k x:Nat}(h:iW K M a k=some x):x<K.n:=by
 unfold iW at h
 split at h
 .rename_i c
  injection h with h;omega
 .cases h
def Zero(K:eV)(M:Nat→Int)(a:Nat):Prop:=∀i,K.addr a<=i→i<K.addr a+K.size a→M i=0
def rootOf(es:List eG)(cs:List Int)(r:Nat):Option Nat:=
 if r<es.length then(match es[r]? with|some e=>if e.state=1 then some e.slot else none|none=>none)
 else if 0<cs.getD (r-es.length) 0 then some (r-es.length) else none
inductive Reach (K:eV) (es:List eG) (cs:List Int) (M:Nat→Int):Nat→Prop
 | root (r x:Nat):rootOf es cs r=some x→Reach K es cs M x
 | iY (a k x:Nat):Reach K es cs M a→iW K M a k=some x→Reach K es cs M x
def Mj(s:St)(a k:Nat):Prop:=s.col a≠2/\∀h∈s.hs,h.is=true→h.slot=a→h.field<=k
inductive fC (K:eV) (s:St):Nat→Prop
 | col (x:Nat):s.col x≠0→fC K s x
 | root (r x:Nat):s.root<=r→rootOf s.es s.cs r=some x→fC K s x
 | iY (a k x:Nat):fC K s a→Mj s a k→iW K s.M a k=some x→fC K s x
def iy(s:St)(G:Nat→Bool)(x:Nat):Prop:=s.T x=true/\G x=false
def mS(K:eV)(s:St):Prop:=(∀h∈s.hs,h.is=false)/\s.root=K.L+K.n/\s.q=[]/\s.wa=s.we/\∀x,s.eI x=false
structure fh(K:eV)(s:St)(G:Nat→Bool):Prop where
 gT:∀x,G x=true→s.T x=true
 tn:∀x,s.T x=true→x<K.n
 lc:s.cs.length=K.n
 le:s.es.length=K.L
 roots:∀r x,rootOf s.es s.cs r=some x→iy s G x
 jo:∀a k x,iy s G a→iW K s.M a k=some x→iy s G x
 free:∀x,x<K.n→s.T x=false→Zero K s.M x
 dw:∀x,s.cZ x=true→Zero K s.M x
 on:∀x,s.eI x=true→x<K.n
 ow:∀x,s.eI x=true→s.dq (K.cB x)=true\/(s.wa<=x/\x<s.we)
 ac:s.act=decide (s.phase≠0)
 sc:s.sact=decide (2<=s.phase)
 ph:s.phase<=3
 idle:s.phase=0→∀x,G x=false
 dm:∀x,s.cZ x=(decide (2<=s.phase)&&(decide (x<s.sa)&&G x))
 sq:s.phase<=1→s.sa=0
 vc:s.sa<=K.n
 sI:s.phase=3→s.sa=K.n
 nw:s.phase≠0→∀x,s.col x≠0→iy s G x
 qv:s.phase=1→∀x∈s.q,iy s G x
 ov:s.phase=1→∀x,s.eI x=true→iy s G x
 hv:s.phase=1→∀h∈s.hs,h.is=true→iy s G h.slot
 gr:s.phase=1→∀x,s.col x=1→x∈s.q\/s.eI x=true\/∃h∈s.hs,h.is=true/\h.slot=x
 gZ:s.phase=1→∀x,iy s G x→fC K s x
 bl:2<=s.phase→∀x,iy s G x→s.col x≠0
 c2:∀x,s.col x<=2
 ww:s.wa<=s.we
 wn:s.we<=K.n
 tN:s.we<=s.wa+64
 rt:s.root<=K.L+K.n
 hf:∀h∈s.hs,h.field<=63
 ql:s.q.length<=K.dv
structure Inv(K:eV)(s:St)(G:Nat→Bool):Prop extends fh K s G where
 nd:s.phase=1→¬mS K s
 ns:s.phase=2→s.sa<K.n
end Go.Gc
namespace Go.Gc
structure Rec where
 size:Nat
 first:Nat
 many:Nat
 cB:Nat
 fk:Nat
def Rec.nk(r:Rec):Nat:=(r.many+r.fk-1)/r.fk
def Good(P:Nat):List Rec→Nat→Nat→Nat→Nat→Prop
 | [],f,p,n,pg=>f=n/\p=pg
 | r::l,f,p,n,pg=>r.first=f/\r.cB=p/\0<r.size/\0<r.fk/\r.fk<=64/\r.fk*r.size<=P/\0<r.many/\Good P l (f+r.many) (p+r.nk) n pg
theorem Good.mono{P:Nat}:∀{l:List Rec} {f p n pg:Nat},Good P l f p n pg→f<=n/\p<=pg/\∀r∈l,f<=r.first/\p<=r.cB
 | [],f,p,n,pg,h=>⟨by have:=h.1;omega,by have:=h.2;omega,fun r hr=>by cases hr⟩
 | r::l,f,p,n,pg,h=>by
   obtain⟨h1,h2,-,-,-,-,-,h3⟩:=h;obtain⟨k1,k2,k3⟩:=Good.mono h3;refine⟨by omega,by omega,fun x hx=>?_⟩;rcases List.mem_cons.1 hx with rfl|hx
   .omega
   .have:=k3 x hx;omega
theorem Rec.zh{r:Rec}(h1:0<r.fk)(h2:0<r.many):0<r.nk:=by
 unfold Rec.nk;exact Nat.div_pos (by omega) h1
theorem Good.slot{P:Nat}:∀{l:List Rec} {f p n pg:Nat},Good P l f p n pg→∀x,f<=x→x<n→∃(k:Nat) (r:Rec),l[k]?=some r/\r.first<=x/\x<r.first+r.many/\(∀(j:Nat) (s:Rec),l[j]?=some s→(s.first<=x↔j<=k))/\r.cB+r.nk<=pg/\0<r.size/\0<r.fk/\r.fk<=64/\r.fk*r.size<=P/\0<r.many/\
  (∀q,r.cB<=q→q<r.cB+r.nk→∀(j:Nat) (s:Rec),l[j]?=some s→(s.cB<=q↔j<=k))
 | [],f,p,n,pg,h,x,h1,h2=>by have:=h.1;omega
 | r::l,f,p,n,pg,h,x,h1,h2=>by
   obtain⟨a1,a2,a3,a4,a5,a6,a7,h3⟩:=h;have hm:=Good.mono h3;have hp:=Rec.zh a4 a7;by_cases hx:x<f+r.many
   .refine⟨0,r,rfl,by omega,by omega,fun j s hs=>?_,by omega,a3,a4,a5,a6,a7,fun q Jb Ow j s hs=>?_⟩
    .cases j with
     | zero=>simp at hs;subst hs;omega
     | succ j=>have:=(hm.2.2 s (aH (by simpa using hs))).1;omega
    .cases j with
     | zero=>simp at hs;subst hs;omega
     | succ j=>have:=(hm.2.2 s (aH (by simpa using hs))).2;omega
   .obtain⟨k,t,b1,b2,b3,b4,b5,b6,b7,b8,b9,Ly,Jc⟩:=Good.slot h3 x (by omega) h2
    have ht:=(hm.2.2 t (aH b1));refine⟨k+1,t,by simpa using b1,b2,b3,fun j s hs=>?_,b5,b6,b7,b8,b9,Ly,fun q Jb Ow j s hs=>?_⟩
    .cases j with
     | zero=>simp at hs;subst hs;omega
     | succ j=>have:=b4 j s (by simpa using hs);omega
    .cases j with
     | zero=>simp at hs;subst hs;omega
     | succ j=>have:=Jc q Jb Ow j s (by simpa using hs);omega
theorem Good.EF{P:Nat}:∀{l:List Rec} {f p n pg:Nat},Good P l f p n pg→∀q,p<=q→q<pg→∃(k:Nat) (r:Rec),l[k]?=some r/\r.cB<=q/\q<r.cB+r.nk/\(∀(j:Nat) (s:Rec),l[j]?=some s→(s.cB<=q↔j<=k))/\r.first+r.many<=n/\0<r.fk/\r.fk<=64/\0<r.many
 | [],f,p,n,pg,h,x,h1,h2=>by have:=h.2;omega
 | r::l,f,p,n,pg,h,x,h1,h2=>by
   obtain⟨a1,a2,a3,a4,a5,a6,a7,h3⟩:=h;have hm:=Good.mono h3;have hp:=Rec.zh a4 a7;by_cases hx:x<p+r.nk
   .refine⟨0,r,rfl,by omega,by omega,fun j s hs=>?_,by omega,a4,a5,a7⟩
    cases j with
    | zero=>simp at hs;subst hs;omega
    | succ j=>have:=(hm.2.2 s (aH (by simpa using hs))).2;omega
   .obtain⟨k,t,b1,b2,b3,b4,b5,b6,b7,b8⟩:=Good.EF h3 x (by omega) h2
    have ht:=(hm.2.2 t (aH b1));refine⟨k+1,t,by simpa using b1,b2,b3,fun j s hs=>?_,b5,b6,b7,b8⟩
    cases j with
    | zero=>simp at hs;subst hs;omega
    | succ j=>have:=b4 j s (by simpa using hs);omega
def oO(l:List Rec)(f:Rec→Bool):Nat:=(l.takeWhile f).length-1
theorem kz{f:Rec→Bool}:∀{l:List Rec} {k:Nat},k<l.length→(∀(j:Nat) (s:Rec),l[j]?=some s→(f s=true↔j<=k))→(l.takeWhile f).length=k+1
 | [],k,h,_=>by simp at h
 | r::l,0,h,hf=>by
   have h0:=(hf 0 r rfl).2 (av _);rw[List.takeWhile_cons,if_pos h0]
   cases l with
   | nil=>rfl
   | cons t l=>
    have h1:¬f t=true:=fun c=>by have:=(hf 1 t rfl).1 c;omega
    rw[List.takeWhile_cons,if_neg h1];rfl
 | r::l,k+1,h,hf=>by
   have h0:=(hf 0 r rfl).2 (aW _);rw[List.takeWhile_cons,if_pos h0,aC];rw[kz (k:=k) (by simpa using h) (fun j s hs=>(hf (j+1) s (by simpa using hs)).trans (by omega))]
def gL(l:List Rec)(k:Nat):Rec:=l.getD k ⟨1,0,0,0,1⟩
def kA(l:List Rec)(x:Nat):Nat:=oO l (fun r=>decide (r.first<=x))
def cJ(l:List Rec)(x:Nat):Nat:=(gL l (kA l x)).size
def gp(l:List Rec)(x:Nat):Nat:=(gL l (kA l x)).cB+(x-(gL l (kA l x)).first)/(gL l (kA l x)).fk
def addrOf(P:Nat)(l:List Rec)(x:Nat):Nat:=gp l x*P+(x-(gL l (kA l x)).first)%(gL l (kA l x)).fk*(gL l (kA l x)).size
def nX(l:List Rec)(q:Nat):Nat:=oO l (fun r=>decide (r.cB<=q))
def iw(l:List Rec)(q:Nat):Nat:=(gL l (nX l q)).first+(q-(gL l (nX l q)).cB)*(gL l (nX l q)).fk
def lC(l:List Rec)(q:Nat):Nat:=min (gL l (nX l q)).fk ((gL l (nX l q)).many-(q-(gL l (nX l q)).cB)*(gL l (nX l q)).fk)
structure eJ(P:Nat)(l:List Rec)(n pg x:Nat)(k:Nat)(r:Rec):Prop where
 at':l[k]?=some r
 cl:kA l x=k
 lo:r.first<=x
 hi:x<r.first+r.many
 nk:r.cB+r.nk<=pg
 sz:0<r.size
 fk:0<r.fk
 Ml:r.fk<=64
 fit:r.fk*r.size<=P
 cp:∀q,r.cB<=q→q<r.cB+r.nk→nX l q=k
 mn:∀(j:Nat) (s:Rec),l[j]?=some s→(s.first<=x↔j<=k)
 kl:k<l.length
theorem gq{P:Nat}{l:List Rec}{n pg:Nat}(h:Good P l 0 0 n pg){x:Nat}(hx:x<n):∃k r,eJ P l n pg x k r:=by
 obtain⟨k,r,b1,b2,b3,b4,b5,b6,b7,b8,b9,Ly,Jc⟩:=Good.slot h x (aW _) hx;have hk:=(au.1 b1).1;refine⟨k,r,b1,?_,b2,b3,b5,b6,b7,b8,b9,fun q h1 h2=>?_,b4,hk⟩
 .unfold kA oO
  rw[kz hk (fun j s hs=>by rw[decide_eq_true_iff];exact b4 j s hs)];rfl
 .unfold nX oO
  rw[kz hk (fun j s hs=>by rw[decide_eq_true_iff];exact Jc q h1 h2 j s hs)];rfl
theorem eJ.gL{P:Nat}{l:List Rec}{n pg x k:Nat}{r:Rec}(h:eJ P l n pg x k r):gL l (kA l x)=r:=by
 rw[h.cl];unfold Gc.gL;rw[ao,h.at'];rfl
theorem eJ.cB{P:Nat}{l:List Rec}{n pg x k:Nat}{r:Rec}(h:eJ P l n pg x k r):gp l x=r.cB+(x-r.first)/r.fk/\(x-r.first)/r.fk<r.nk:=by
 refine⟨by unfold gp;rw[h.gL],?_⟩;have h1:=h.lo;have h2:=h.hi;have h3:=h.fk;unfold Rec.nk;rw[Nat.div_lt_iff_lt_mul h3];have h4:=Nat.div_add_mod (r.many+r.fk-1) r.fk;have h5:=Nat.mod_lt (r.many+r.fk-1) h3;rw[Nat.mul_comm] at h4;omega
theorem eJ.AY{P:Nat}{l:List Rec}{n pg x k:Nat}{r:Rec}(h:eJ P l n pg x k r):r.cB<=gp l x/\gp l x<r.cB+r.nk:=by
 rw[h.cB.1];exact⟨Nat.le_add_right _ _,Nat.add_lt_add_left h.cB.2 _⟩
theorem eJ.addr{P:Nat}{l:List Rec}{n pg x k:Nat}{r:Rec}(h:eJ P l n pg x k r):addrOf P l x=(r.cB+(x-r.first)/r.fk)*P+(x-r.first)%r.fk*r.size/\(x-r.first)%r.fk*r.size+r.size<=P:=by
 refine⟨by unfold addrOf;rw[h.gL,h.cB.1],?_⟩;have h5:=Nat.mod_lt (x-r.first) h.fk;have h6:((x-r.first)%r.fk+1)*r.size<=r.fk*r.size:=Nat.mul_le_mul_right _ h5;rw[Nat.succ_mul] at h6;exact aE h6 h.fit
theorem eJ.back{P:Nat}{l:List Rec}{n pg x k:Nat}{r:Rec}(h:eJ P l n pg x k r):iw l (gp l x)<=x/\x<iw l (gp l x)+lC l (gp l x):=by
 have hp:=h.cB;have hc:=h.cp (gp l x) h.AY.1 h.AY.2;unfold iw lC;rw[hc];have hr:Gc.gL l k=r:=by unfold Gc.gL;rw[ao,h.at'];rfl
 rw[hr,hp.1,Nat.add_sub_cancel_left];have h1:=h.lo;have h2:=h.hi;have h4:=Nat.div_add_mod (x-r.first) r.fk;have h5:=Nat.mod_lt (x-r.first) h.fk;rw[Nat.mul_comm] at h4;generalize (x-r.first)/r.fk*r.fk=z at *;omega
theorem EG{P:Nat}{l:List Rec}{n pg:Nat}(h:Good P l 0 0 n pg){q:Nat}(hq:q<pg):0<lC l q/\lC l q<=64/\iw l q+lC l q<=n:=by
 obtain⟨k,r,b1,b2,b3,b4,b5,b6,b7,b8⟩:=Good.EF h q (aW _) hq;have hk:=(au.1 b1).1;have hc:nX l q=k:=by
  unfold nX oO;rw[kz hk (fun j s hs=>by rw[decide_eq_true_iff];exact b4 j s hs)];rfl
 have hr:gL l k=r:=by unfold gL;rw[ao,b1];rfl
 unfold iw lC;rw[hc,hr];have h1:(q-r.cB)*r.fk<r.many:=by
  have h2:q-r.cB+1<=r.nk:=by omega
  have h3:(q-r.cB+1)*r.fk<=r.nk*r.fk:=Nat.mul_le_mul_right _ h2;have h4:r.nk*r.fk<=r.many+r.fk-1:=Nat.div_mul_le_self _ _;rw[Nat.succ_mul] at h3;omega
 generalize (q-r.cB)*r.fk=z at *;omega
structure xu(l:List Rec)(pg q:Nat)(k:Nat)(r:Rec):Prop where
 at':l[k]?=some r
 cl:nX l q=k
 lo:r.cB<=q
 hi:q<r.cB+r.nk
 mn:∀(j:Nat) (s:Rec),l[j]?=some s→(s.cB<=q↔j<=k)
 kl:k<l.length
 fk:0<r.fk
 Ml:r.fk<=64
 ah:(q-r.cB)*r.fk<r.many
 pf:iw l q=r.first+(q-r.cB)*r.fk
 pm:lC l q=min r.fk (r.many-(q-r.cB)*r.fk)
theorem Mn{P:Nat}{l:List Rec}{n pg:Nat}(h:Good P l 0 0 n pg){q:Nat}(hq:q<pg):∃k r,xu l pg q k r/\r.first+r.many<=n:=by
 obtain⟨k,r,b1,b2,b3,b4,b5,b6,b7,b8⟩:=Good.EF h q (aW _) hq;have hk:=(au.1 b1).1;have hc:nX l q=k:=by
  unfold nX oO;rw[kz hk (fun j s hs=>by rw[decide_eq_true_iff];exact b4 j s hs)];rfl
 have hr:gL l k=r:=by unfold gL;rw[ao,b1];rfl
 refine⟨k,r,⟨b1,hc,b2,b3,b4,hk,b6,b7,?_,by unfold iw;rw[hc,hr],by unfold lC;rw[hc,hr]⟩,b5⟩;have h2:q-r.cB+1<=r.nk:=by omega
 have h3:(q-r.cB+1)*r.fk<=r.nk*r.fk:=Nat.mul_le_mul_right _ h2;have h4:r.nk*r.fk<=r.many+r.fk-1:=Nat.div_mul_le_self _ _;rw[Nat.succ_mul] at h3;omega
theorem mH{P p q a b s:Nat}(h:p<q)(ha:a+s<=P):p*P+a+s<=q*P+b:=by
 have:(p+1)*P<=q*P:=Nat.mul_le_mul_right _ h;rw[Nat.succ_mul] at this;omega
theorem Jd{P:Nat}{l:List Rec}{n pg:Nat}(h:Good P l 0 0 n pg){x y:Nat}(hx:x<n)(hy:y<n)(hxy:x≠y):addrOf P l x+cJ l x<=addrOf P l y\/addrOf P l y+cJ l y<=addrOf P l x:=by
 obtain⟨k,r,sx⟩:=gq h hx;obtain⟨j,s,sy⟩:=gq h hy;have px:=sx.cB;have py:=sy.cB;have ax:=sx.addr;have ay:=sy.addr;have zx:cJ l x=r.size:=by unfold cJ;rw[sx.gL]
 have zy:cJ l y=s.size:=by unfold cJ;rw[sy.gL]
 rw[zx,zy,ax.1,ay.1];rcases Nat.lt_trichotomy (r.cB+(x-r.first)/r.fk) (s.cB+(y-s.first)/s.fk) with e|e|e
 .exact .inl (mH e ax.2)
 .have e3:gp l x=gp l y:=by rw[px.1,py.1];exact e
  have hc:=sx.cp (gp l y) (e3▸sx.AY.1) (e3▸sx.AY.2);have hd:=sy.cp (gp l y) sy.AY.1 sy.AY.2;have hkj:k=j:=hc.symm.trans hd;subst hkj;have hrs:r=s:=by have:=sx.at'.symm.trans sy.at';injection this
  subst hrs;rw[e];have e2:(x-r.first)/r.fk=(y-r.first)/r.fk:=Nat.add_left_cancel e;have h4:=Nat.div_add_mod (x-r.first) r.fk;have h5:=Nat.div_add_mod (y-r.first) r.fk;rw[e2] at h4;have h1:=sx.lo;have h2:=sy.lo;have hne:(x-r.first)%r.fk≠(y-r.first)%r.fk:=by omega
  generalize (x-r.first)%r.fk=a at *;generalize (y-r.first)%r.fk=b at *;rcases Nat.lt_or_gt_of_ne hne with g|g
  .have:(a+1)*r.size<=b*r.size:=Nat.mul_le_mul_right _ g
   rw[Nat.succ_mul] at this;exact .inl (by omega)
  .have:(b+1)*r.size<=a*r.size:=Nat.mul_le_mul_right _ g
   rw[Nat.succ_mul] at this;exact .inr (by omega)
 .exact .inr (mH e ay.2)
theorem jM{P:Nat}{l:List Rec}{n pg:Nat}(h:Good P l 0 0 n pg){x:Nat}(hx:x<n):addrOf P l x+cJ l x<=pg*P:=by
 obtain⟨k,r,sx⟩:=gq h hx;have px:=sx.cB;have ax:=sx.addr;have zx:cJ l x=r.size:=by unfold cJ;rw[sx.gL]
 rw[zx,ax.1];have hp:=sx.nk;have:(r.cB+(x-r.first)/r.fk+1)*P<=pg*P:=Nat.mul_le_mul_right _ (by have:=px.2;generalize (x-r.first)/r.fk=z at *;omega);rw[Nat.succ_mul] at this;generalize (r.cB+(x-r.first)/r.fk)*P=z at *;omega
def Qr(P:Nat)(l:List Rec)(n pg L dv:Nat)(hd:Int→Option (Nat×Nat×Nat)):eV:=⟨n,L,pg,addrOf P l,cJ l,gp l,iw l,lC l,kA l,hd,dv⟩
theorem Mo{P:Nat}{l:List Rec}{n pg L dv:Nat}{hd:Int→Option (Nat×Nat×Nat)}(h:Good P l 0 0 n pg)(hn:0<n)(h1:∀w c r v,hd w=some (c,r,v)→r+v<=63)(h2:hd 0=none)(h3:0<dv):(Qr P l n pg L dv hd).Ok:=by
 refine⟨hn,fun x hx=>?_,fun x y hx hy hxy=>Jd h hx hy hxy,fun x hx=>?_,fun x hx=>?_,fun p hp=>EG h hp,h1,h2,h3⟩
 .obtain⟨k,r,sx⟩:=gq h hx
  show 0<cJ l x;unfold cJ;rw[sx.gL];exact sx.sz
 .obtain⟨k,r,sx⟩:=gq h hx
  have:=sx.AY.2;have:=sx.nk;show gp l x<pg;omega
 .obtain⟨k,r,sx⟩:=gq h hx
  exact sx.back
end Go.Gc
