/- Parts of the proof of TopApart. -/
import Derived.Test.YtgblmelijlgimaaGreatDoorZTopBU
set_option maxRecDepth 100000
namespace Go.Proofs.YtgblmelijlgimaaGreatDoor
open Go.Proofs.Tryz
namespace Rf
open Go.RowKit Go.bZ Go.Cf
theorem Iw{w:World}{g:lI}(h:jw w g)(k:¬C6 g):ak 20 #[.agg #[.slice g.ac g.lc g.cc,U g.cB,.slice g.ad g.lt g.ct,U g.wk,U g.gy,U g.gn]] w fun e w'=>e=ae (.tuple #[U 0,U 2])/\Below w.heap.size w w':=by
 obtain⟨W,hW⟩:=al (w.alloc (.cells #[.slice g.ac g.lc g.cc,U g.cB,.slice g.ad g.lt g.ct,U g.wk,U g.gy,U g.gn] 25));have HX:=jx h hW;obtain⟨bx,⟨y0,y1,y2⟩,hg,-⟩:=HX.out W (bV _ _);have d:=Ld hg k ((g.lt:Int)-1);obtain⟨L,hL⟩:∃L:Int,(g.lt:Int)=L:=⟨_,rfl⟩;have l2:=h.l2;have L0:0<=L:=by omega
 have L1:L<=9223372036854775807:=by omega
 rw[hL] at d;clear h k hg l2;go_enter func20,ntmps20;go_wp2_with (first
  | (refine wpList_load_row rfl _ _ rfl w.heap.size rfl 25 #[.slice g.ac g.lc g.cc,U g.cB,.slice g.ad g.lt g.ct,U g.wk,U g.gy,U g.gn] (0,0) _ bx underlying25 rfl je ?_)
  | (go_at_call 38;(with_reducible refine d.mono ?_);rintro e w1 ⟨rfl,hb⟩;have H1:=bU hb;clear hb bx))
 go_ret2
 exact⟨rfl,(HX.out _ H1.out).2.2.2⟩
theorem DK{w:World}{g:lI}(h:jw w g)(k:C6 g):ak 20 #[.agg #[.slice g.ac g.lc g.cc,U g.cB,.slice g.ad g.lt g.ct,U g.wk,U g.gy,U g.gn]] w fun e w'=>∃s:Nat,e=ae (.tuple #[U s,U 0])/\s<=100000000/\Below w.heap.size w w':=by
 obtain⟨W,hW⟩:=al (w.alloc (.cells #[.slice g.ac g.lc g.cc,U g.cB,.slice g.ad g.lt g.ct,U g.wk,U g.gy,U g.gn] 25));have HX:=jx h hW;obtain⟨bx,⟨y0,y1,y2⟩,hg,-⟩:=HX.out W (bV _ _);have t1:=k.2.2.1.1;have t8:=k.2.2.1.2;have e1:((g.lt-1:Nat):Int)=(g.lt:Int)-1:=by omega
 have d:=Iv hg k (g.lt-1) (by omega);rw[e1] at d;have HR:Hid (∀W1,Below W.heap.size W W1→ak 39 #[.agg #[.slice g.ac g.lc g.cc,U g.cB,.slice g.ad g.lt g.ct,U g.wk,U g.gy,U g.gn],U ((g.lt:Int)-1)] W1 fun e w'=>∃s:Nat,e=ae (.tuple #[U s,U 0])/\s<=2097152/\Below W1.heap.size W1 w'):=bU (fun W1 hb=>by
  have:=rV (HX.out W1 hb).2.2.1 k (g.lt-1) (by omega)
  rwa [e1] at this)
 clear h k hg e1;go_enter func20,ntmps20;go_wp2_with (first
  | (refine wpList_load_row rfl _ _ rfl w.heap.size rfl 25 #[.slice g.ac g.lc g.cc,U g.cB,.slice g.ad g.lt g.ct,U g.wk,U g.gy,U g.gn] (0,0) _ bx underlying25 rfl je ?_)
  | (go_at_call 38;(with_reducible refine d.mono ?_);rintro e w1 ⟨s,rfl,hs,hb⟩;clear bx y0 y1 y2;obtain⟨bx,⟨y0,y1,y2⟩,-,-⟩:=HX.out _ hb;have dR:=HR.out w1 hb;have H1:=bU hb;clear hb)
  | (go_at_call 39;(with_reducible refine dR.mono ?_);rintro e w2 ⟨r,rfl,hr,hb⟩;have H2:=bU (fj H1.out hb);clear hb))
 go_ret2
 exact⟨s+r,by first|rfl|simp,by omega,(HX.out _ H2.out).2.2.2⟩
theorem rW{w:World}{g:lI}(h:jw w g):ak 21 #[.agg #[.slice g.ac g.lc g.cc,U g.cB,.slice g.ad g.lt g.ct,U g.wk,U g.gy,U g.gn]] w fun e w'=>e=ae (.bool (decide ((g.lc:Int)<=50)&&decide ((g.lt:Int)<=50)))/\Below w.heap.size w w':=by
 obtain⟨W,hW⟩:=al (w.alloc (.cells #[.slice g.ac g.lc g.cc,U g.cB,.slice g.ad g.lt g.ct,U g.wk,U g.gy,U g.gn] 25));have HX:=jx h hW;obtain⟨bx,⟨y0,y1,y2⟩,-,-⟩:=HX.out W (bV _ _);clear h
 cases e1:decide ((g.lc:Int)<=50)
 .go_enter func21,ntmps21
  go_wp2_with fail;go_ret;exact⟨rfl,(HX.out _ (bV _ _)).2.2.2⟩
 .cases e2:decide ((g.lt:Int)<=50)
  .go_enter func21,ntmps21
   go_wp2_with fail;go_ret;exact⟨rfl,(HX.out _ (bV _ _)).2.2.2⟩
  .go_enter func21,ntmps21
   go_wp2_with fail;go_ret;exact⟨rfl,(HX.out _ (bV _ _)).2.2.2⟩
theorem Iy{w:World}{g:lI}(h:jw w g)(k:¬C6 g):ak 11 #[.agg #[.slice g.ac g.lc g.cc,U g.cB,.slice g.ad g.lt g.ct,U g.wk,U g.gy,U g.gn]] w fun e w'=>e=ae (.bool false)/\Below w.heap.size w w':=by
 obtain⟨W,hW⟩:=al (w.alloc (.cells #[.slice g.ac g.lc g.cc,U g.cB,.slice g.ad g.lt g.ct,U g.wk,U g.gy,U g.gn] 25));have HX:=jx h hW;obtain⟨bx,-,hg,-⟩:=HX.out W (bV _ _);have d:=Iw hg k;have H6:Hid (∀W1,Below W.heap.size W W1→_):=bU (fun W1 hb=>rW (HX.out W1 hb).2.2.1);have HC:Hid (∀W1,Below W.heap.size W W1→_):=bU (fun W1 hb=>Az (HX.out W1 hb).2.2.1 k);generalize (decide ((g.lc:Int)<=50)&&decide ((g.lt:Int)<=50))=v at H6;clear h k hg
 cases v
 .go_enter func11,ntmps11
  go_wp2_with (first
   | (refine wpList_load_row rfl _ _ rfl w.heap.size rfl 25 #[.slice g.ac g.lc g.cc,U g.cB,.slice g.ad g.lt g.ct,U g.wk,U g.gy,U g.gn] (0,0) _ bx underlying25 rfl je ?_)
   | (go_at_call 20;(with_reducible refine d.mono ?_);rintro e w1 ⟨rfl,hb⟩;clear bx;obtain⟨bx,-,-,-⟩:=HX.out _ hb;have d6:=H6.out w1 hb;have H1:=bU hb;clear hb)
   | (go_at_call 21;(with_reducible refine d6.mono ?_);rintro e w2 ⟨rfl,hb⟩;have H2:=bU (fj H1.out hb);clear hb))
  go_ret;exact⟨rfl,(HX.out _ H2.out).2.2.2⟩
 .go_enter func11,ntmps11
  go_wp2_with (first
   | (refine wpList_load_row rfl _ _ rfl w.heap.size rfl 25 #[.slice g.ac g.lc g.cc,U g.cB,.slice g.ad g.lt g.ct,U g.wk,U g.gy,U g.gn] (0,0) _ bx underlying25 rfl je ?_)
   | (go_at_call 20;(with_reducible refine d.mono ?_);rintro e w1 ⟨rfl,hb⟩;clear bx;obtain⟨bx,-,-,-⟩:=HX.out _ hb;have d6:=H6.out w1 hb;have H1:=bU hb;clear hb)
   | (go_at_call 21;(with_reducible refine d6.mono ?_);rintro e w2 ⟨rfl,hb⟩;clear bx;obtain⟨bx,⟨y0,y1,y2⟩,-,-⟩:=HX.out _ (fj H1.out hb);have y3:w2.cell? (aj w.heap.size 3)=some (U g.wk):=bx.cell 3;have y4:w2.cell? (aj w.heap.size 4)=some (U g.gy):=bx.cell 4;have y5:w2.cell? (aj w.heap.size 5)=some (U g.gn):=bx.cell 5;have dC:=HC.out w2 (fj H1.out hb);have H2:=bU (fj H1.out hb);clear hb)
   | (go_at_call 22;(with_reducible refine dC.mono ?_);rintro e w3 ⟨rfl,hb⟩;have H3:=bU (fj H2.out hb);clear hb))
  go_ret;exact⟨rfl,(HX.out _ H3.out).2.2.2⟩
set_option maxHeartbeats 1000000 in
theorem DM{w:World}{g:lI}(h:jw w g)(k:C6 g):ak 11 #[.agg #[.slice g.ac g.lc g.cc,U g.cB,.slice g.ad g.lt g.ct,U g.wk,U g.gy,U g.gn]] w fun e w'=>∃b:Bool,e=ae (.bool b)/\Below w.heap.size w w':=by
 obtain⟨W,hW⟩:=al (w.alloc (.cells #[.slice g.ac g.lc g.cc,U g.cB,.slice g.ad g.lt g.ct,U g.wk,U g.gy,U g.gn] 25));have HX:=jx h hW;obtain⟨bx,-,hg,-⟩:=HX.out W (bV _ _);have d:=DK hg k;have t1:=k.2.2.1.1;have t8:=k.2.2.1.2;have c8:=k.1.2.1;have ev:(decide ((g.lc:Int)<=50)&&decide ((g.lt:Int)<=50))=true:=by rw[aw (show(g.lc:Int)<=50 by omega),aw (show(g.lt:Int)<=50 by omega)];rfl
 have H6:Hid (∀W1,Below W.heap.size W W1→ak 21 #[.agg #[.slice g.ac g.lc g.cc,U g.cB,.slice g.ad g.lt g.ct,U g.wk,U g.gy,U g.gn]] W1 fun e w'=>e=ae (.bool true)/\Below W1.heap.size W1 w'):=bU (fun W1 hb=>by
  have:=rW (HX.out W1 hb).2.2.1
  rwa [ev] at this)
 have HC:Hid (∀W1,Below W.heap.size W W1→_):=bU (fun W1 hb=>wX (HX.out W1 hb).2.2.1 k);obtain⟨bt,ot,ed,htc⟩:=Iu hg (by omega);have HT:Hid (∀W1,Below W.heap.size W W1→∀i,i<g.lt→W1.cell? (aj bt (ot+i*4+2))=some (U (g.ca i))):=bU (fun W1 hb i hi=>(htc W1 hb i hi).2);clear h k hg ev htc c8;simp only[ed] at *;go_enter func11,ntmps11;go_wp2_with (first
  | (refine wpList_load_row rfl _ _ rfl w.heap.size rfl 25 #[.slice g.ac g.lc g.cc,U g.cB,ai (aj bt ot) g.lt g.ct,U g.wk,U g.gy,U g.gn] (0,0) _ bx underlying25 rfl je ?_)
  | (go_at_call 20;(with_reducible refine d.mono ?_);rintro e w1 ⟨s,rfl,hs,hb⟩;clear bx;obtain⟨bx,-,-,-⟩:=HX.out _ hb;have d6:=H6.out w1 hb;have H1:=bU hb;clear hb;cases pK:decide ((2000:Int)<(s:Int)))
  | (go_at_call 21;(with_reducible refine d6.mono ?_);rintro e w2 ⟨rfl,hb⟩;clear bx;obtain⟨bx,⟨y0,y1,y2⟩,-,-⟩:=HX.out _ (fj H1.out hb);have y3:w2.cell? (aj w.heap.size 3)=some (U g.wk):=bx.cell 3;have y4:w2.cell? (aj w.heap.size 4)=some (U g.gy):=bx.cell 4;have y5:w2.cell? (aj w.heap.size 5)=some (U g.gn):=bx.cell 5;have dC:=HC.out w2 (fj H1.out hb);have H2:=bU (fj H1.out hb);clear hb)
  | (go_at_call 22;(with_reducible refine dC.mono ?_);rintro e w3 ⟨rfl,hb⟩;have H3:=bU (fj H2.out hb);clear hb))
 .go_loopw [5] (fun i wr=>∃k:Nat,k<=g.lt/\i=U k/\Hid (Below W.heap.size W wr)) (fun i _=>g.lt-(intOf i).toNat)
  case atStart=>exact⟨0,by omega,rfl,H3⟩
  case round=>
   obtain⟨k,hk,rfl,HB⟩:=hrel;have z2:=(HX.out wr HB.out).2.1.2.2;by_cases hlt:k<g.lt
   .have zk:=HT.out wr HB.out k hlt
    cases hv:decide ((60:Int)<g.ca k)
    .go_wp2_with fail
     go_roundw
     case rel=>exact⟨k+1,by omega,by go_num,HB⟩
     case measure=>simp[intOf];omega
    .go_wp2_with fail
     go_ret;exact⟨_,rfl,(HX.out _ HB.out).2.2.2⟩
   .obtain rfl:k=g.lt:=by omega
    go_wp2_with fail;go_ret;exact⟨_,rfl,(HX.out _ HB.out).2.2.2⟩
 .go_ret
  exact⟨_,rfl,(HX.out _ H2.out).2.2.2⟩
end Rf
namespace Rf
open Go.RowKit Go.bZ Go.Cf
structure pj(w:World)(A:Option Addr)(n:Nat)(f:Nat→List UInt8):Prop where
 sz:∀i,(f i).length<=9223372036854775807
 ln:n<=9223372036854775807
 at_:0<n→∃b o,A=some ⟨b,o,none⟩/\b<w.heap.size/\∀i,i<n→w.cell? (aj b (o+i))=some (.string (bs (f i)))
theorem pj.cA{w w':World}{A:Option Addr}{n:Nat}{f:Nat→List UInt8}(h:pj w A n f)(hb:Below w.heap.size w w'):pj w' A n f:=
 ⟨h.sz,h.ln,fun hp=>by
  obtain⟨b,o,e,hl,hc⟩:=h.at_ hp;exact⟨b,o,e,aB hl hb.size,fun i hi=>(hb.cell hl).trans (hc i hi)⟩⟩
set_option maxHeartbeats 1000000 in
theorem AA{w:World}{g:lI}{A:Option Addr}{n c:Nat}{f:Nat→List UInt8}(h:jw w g)(hs:pj w A n f):ak 4 #[.agg #[.slice g.ac g.lc g.cc,U g.cB,.slice g.ad g.lt g.ct,U g.wk,U g.gy,U g.gn],.slice A n c,U 80] w fun e w'=>∃b:Bool,e=ae (.bool b)/\(b=true→(∀i,i<n→(f i).length<=255)/\n<=80/\C6 g)/\Below w.heap.size w w':=by
 obtain⟨W,hW⟩:=al (w.alloc (.cells #[.slice g.ac g.lc g.cc,U g.cB,.slice g.ad g.lt g.ct,U g.wk,U g.gy,U g.gn] 25));have HX:=jx h hW;obtain⟨bx,⟨y0,y1,y2⟩,hg,hB⟩:=HX.out W (bV _ _);have y3:W.cell? (aj w.heap.size 3)=some (U g.wk):=bx.cell 3;have y4:W.cell? (aj w.heap.size 4)=some (U g.gy):=bx.cell 4;have y5:W.cell? (aj w.heap.size 5)=some (U g.gn):=bx.cell 5;have HD:Hid (ak 11 #[.agg #[.slice g.ac g.lc g.cc,U g.cB,.slice g.ad g.lt g.ct,U g.wk,U g.gy,U g.gn]] W fun e w'=>∃b:Bool,e=ae (.bool b)/\Hid (b=true→C6 g)/\Below W.heap.size W w'):=bU (by
  by_cases k:C6 g
  .exact(DM hg k).mono (fun e w' ⟨b,he,hb⟩=>⟨b,he,bU (fun _=>k),hb⟩)
  .exact(Iy hg k).mono (fun e w' ⟨he,hb⟩=>⟨false,he,bU (fun e=>by cases e),hb⟩))
 have HA:Hid (0<n→∃b o,A=some ⟨b,o,none⟩/\∀i,i<n→W.cell? (aj b (o+i))=some (.string (bs (f i)))):=bU (fun hp=>by
  obtain⟨b,o,e,-,hc⟩:=(hs.cA hB).at_ hp;exact⟨b,o,e,hc⟩)
 have HN:=bU hs.ln;have HZ:=bU hs.sz;have HB:=bU hB;have hsz:∀l:List UInt8,(bs l).size=l.length:=jy;clear h hs bx hg hB;by_cases h0:n=0
 .subst h0
  have dS:=HD.out;go_enter func4,ntmps4;go_wp2_with fail
  go_loopw [7] (fun i wr=>i=U 0/\wr=W) (fun _ _=>1)
  case atStart=>exact⟨rfl,rfl⟩
  case round=>
   obtain⟨rfl,rfl⟩:=hrel;go_wp2_with (go_at_call 11;(with_reducible refine dS.mono ?_);rintro e w1 ⟨b,rfl,hk,hb⟩;have H1:=bU hb;clear hb)
   go_ret;exact⟨_,rfl,fun e=>⟨fun i hi=>absurd hi (by omega),by omega,hk.out (by simpa using e)⟩,(HX.out _ H1.out).2.2.2⟩
 obtain⟨b,o,rfl,hc⟩:=HA.out (by omega);have HC:=bU hc;clear hc HA;go_enter func4,ntmps4;go_wp2_with fail
 go_loopw [7] (fun i wr=>∃k:Nat,k<=n/\i=U k/\wr=W/\Hid (∀j,j<k→(f j).length<=255)) (fun i _=>n-(intOf i).toNat)
 case atStart=>exact⟨0,by omega,rfl,rfl,bU (fun j hj=>absurd hj (by omega))⟩
 case round=>
  obtain⟨k,hk,rfl,rfl,HK⟩:=hrel;have hn:=HN.out;by_cases hlt:k<n
  .have ck:=HC.out k hlt
   have zk:=HZ.out k;obtain⟨l,hl⟩:=al (f k);rw[hl] at ck zk;have HL:=bU hl;clear hl
   cases hv:decide ((255:Int)<(l.length:Int))
   .have Qk:=bU (of_decide_eq_false hv)
    go_wp2_with fail
    go_roundw
    case rel=>exact⟨k+1,by omega,by go_num,by first|rfl|trivial,bU (fun j hj=>by
     by_cases e:j=k
     .subst e;rw[HL.out];have:=Qk.out;omega
     .exact HK.out j (by omega))⟩
    case measure=>simp[intOf];omega
   .go_wp2_with fail
    go_ret;exact⟨_,rfl,fun e=>(by cases e),HB.out⟩
  .obtain rfl:k=n:=by omega
   have dS:=HD.out
   cases hv:decide ((k:Int)<=80)
   .go_wp2_with fail
    go_ret;exact⟨_,rfl,fun e=>(by cases e),HB.out⟩
   .have Qk:=bU (of_decide_eq_true hv)
    go_wp2_with (go_at_call 11;(with_reducible refine dS.mono ?_);rintro e w1 ⟨b,rfl,hk,hb⟩;have H1:=bU hb;clear hb)
    go_ret;exact⟨_,rfl,fun e=>⟨HK.out,by have:=Qk.out;omega,hk.out (by simpa using e)⟩,(HX.out _ H1.out).2.2.2⟩
end Rf
namespace Rf
open Go.RowKit Go.bZ Go.Cf Go.Proofs.YtgblmelijlgimaaGreatDoor.Fd Mc eK
theorem Le:(prog.info? 9).map (fun i=>(i.zero,i.size,i.bytes))=some (some (.string ByteArray.empty),1,16):=by kernel_rfl
def SV(l:List UInt8):Value:=.string (bs l)
def mV(t:Int)(p:List UInt8):Bool:=decide ((cH p).kind=1/\(cH p).cQ=t)
theorem Lg{p:List UInt8}(h:(cH p).kind=1):mA p=0:=by
 rcases nJ p with e|e
 .rw[e] at h
  exact absurd h (by decide)
 .unfold mA
  rw[e];rfl
def dX(f:Nat→List UInt8)(k:Nat):List (List UInt8):=(List.range k).map f
theorem mC(f:Nat→List UInt8)(k:Nat):dX f (k+1)=dX f k++[f k]:=by simp[dX,List.range_succ]
theorem nK(f:Nat→List UInt8)(k:Nat):(dX f k).length=k:=by simp[dX]
def gz(t:Int)(l:List (List UInt8)):List (List UInt8):=l.filter (mV t)
theorem Iz{t:Int}{f:Nat→List UInt8}{k:Nat}(h:mV t (f k)=true):gz t (dX f (k+1))=gz t (dX f k)++[f k]:=by
 unfold gz;rw[mC,List.filter_append];simp[h]
theorem Lh{t:Int}{f:Nat→List UInt8}{k:Nat}(h:mV t (f k)=false):gz t (dX f (k+1))=gz t (dX f k):=by
 unfold gz;rw[mC,List.filter_append];simp[h]
theorem rX(t:Int)(f:Nat→List UInt8)(k:Nat):(gz t (dX f k)).length<=k:=by
 unfold gz;exact aE (List.length_filter_le _ _) (by rw[nK];exact av _)
theorem Li(w:World)(A:Option Addr)(c:Nat)(t:Int):ak 8 #[.slice A 0 c,U t] w fun e w'=>e=ae (ai none 0 0)/\w=w':=by
 go_enter func8,ntmps8;go_wp2_with fail
 go_loopw [5,6] (fun v i wr=>v=ai none 0 0/\i=U 0/\wr=w) (fun _ _ _=>1)
 case atStart=>exact⟨rfl,rfl,rfl⟩
 case round=>
  obtain⟨rfl,rfl,rfl⟩:=hrel;go_wp2_with fail;go_ret;exact⟨rfl,rfl⟩
set_option maxHeartbeats 1000000 in
theorem AB{w:World}{A:Option Addr}{n c:Nat}{f:Nat→List UInt8}(hs:pj w A n f)(hn:n<=1000)(t:Int):ak 8 #[.slice A n c,U t] w fun e w'=>∃v,e=ae v/\w'.ownsRow w.heap.size 9 1 v (gz t (dX f n)).length ((gz t (dX f n)).map SV)/\Below w.heap.size w w':=by
 by_cases h0:n=0
 .subst h0
  exact(Li w A c t).mono (fun e w' ⟨he,hw⟩=>⟨_,he,hw▸⟨rfl,.inl ⟨rfl,rfl⟩⟩,hw▸bV _ _⟩)
 obtain⟨b,o,rfl,hb,hc⟩:=hs.at_ (by omega);have HC:Hid (∀wr,Below w.heap.size w wr→∀i,i<n→wr.cell? (aj b (o+i))=some (.string (bs (f i)))):=bU (fun wr hw i hi=>(hw.cell hb).trans (hc i hi));obtain⟨i0,uN,iX,jm,nQ⟩:=info_parts Le;have HG:Hid (∀wr,Below w.heap.size w wr→∀p,ak 18 #[.string (bs p)] wr fun e w2=>e=ae (.tuple #[.agg #[ab (cH p).kind,U (cH p).cQ,ab (cH p).code,aa (cH p).h,U (cH p).a,U (cH p).b,aa (cH p).v,U (cH p).worker,ab (cH p).gV],U (mA p)])/\Below wr.heap.size wr w2/\∀W,(w2.alloc (.cells #[ab (cH p).kind,U (cH p).cQ,ab (cH p).code,aa (cH p).h,U (cH p).a,U (cH p).b,aa (cH p).v,U (cH p).worker,ab (cH p).gV] 56)=W→W.cell? (aj w2.heap.size)=some (ab (cH p).kind)/\W.cell? (aj w2.heap.size 1)=some (U (cH p).cQ))):=bU (fun wr _ p=>(Ii p wr).mono (fun e w2 ⟨he,hb⟩=>⟨he,hb,fun W hW=>by
  have b:=cj.new w2 #[ab (cH p).kind,U (cH p).cQ,ab (cH p).code,aa (cH p).h,U (cH p).a,U (cH p).b,aa (cH p).v,U (cH p).worker,ab (cH p).gV] 56;rw[hW] at b;exact⟨b.cell 0,b.cell 1⟩⟩))
 have HY:Hid (∀k,mV t (f k)=true→gz t (dX f (k+1))=gz t (dX f k)++[f k]):=bU (fun k h=>Iz h);have HNo:Hid (∀k,mV t (f k)=false→gz t (dX f (k+1))=gz t (dX f k)):=bU (fun k h=>Lh h);have HL:Hid (∀k,(gz t (dX f k)).length<=k):=bU (rX t f);have H0:Hid (gz t (dX f 0)=[]):=bU rfl;generalize hO:(fun k=>gz t (dX f k))=O at *;have Tc:∀k,gz t (dX f k)=O k:=fun k=>by rw[←hO]
 simp only[Tc] at *;clear hs hc hb hO Tc;go_enter func8,ntmps8;go_wp2_with fail
 go_loopw [5,6] (fun v i wr=>∃k:Nat,k<=n/\i=U k/\Hid (wr.ownsRow w.heap.size 9 1 v (O k).length ((O k).map SV))/\Hid (Below w.heap.size w wr)) (fun _ i _=>n-(intOf i).toNat)
 case atStart=>exact⟨0,by omega,rfl,by rw[H0.out];exact bU ⟨rfl,.inl ⟨rfl,rfl⟩⟩,bU (bV _ _)⟩
 case round=>
  obtain⟨k,hk,rfl,HO,HB⟩:=hrel;by_cases hlt:k<n
  .have ck:=HC.out wr HB.out k hlt
   have y1:=HY.out k;have y2:=HNo.out k;have l1:=HL.out k;have HCk:Hid (∀wr,Below w.heap.size w wr→wr.cell? (aj b (o+k))=some (.string (bs (f k)))):=bU (fun wr hw=>HC.out wr hw k hlt);generalize f k=p at *;have dG:=HG.out wr HB.out p;by_cases uM:(cH p).kind=1
   case neg=>
    have NO:Hid (O (k+1)=O k):=bU (y2 (az (fun h=>uM h.1)));have e1:((cH p).kind==1)=false:=by rw[aA];exact uM
    clear y1 y2 uM l1
    cases eN:(mA p==0)
    .go_wp2_with (go_at_call 18;(with_reducible refine dG.mono ?_);rintro e w2 ⟨rfl,hb,hW⟩;obtain⟨W2,iz⟩:=al (w2.alloc (.cells #[ab (cH p).kind,U (cH p).cQ,ab (cH p).code,aa (cH p).h,U (cH p).a,U (cH p).b,aa (cH p).v,U (cH p).worker,ab (cH p).gV] 56));obtain⟨z0,z1⟩:=hW W2 iz;have H2:Hid (Below w.heap.size w W2):=bU (by rw[←iz];exact bA (bT HB.out hb HB.out.size) (av _) _);have O2:Hid (W2.ownsRow w.heap.size 9 1 u5 (O k).length ((O k).map SV)):=bU (by rw[←iz];exact(oI HO.out hb).alloc _);have RD:=HCk.out W2 H2.out;clear hb hW)
     go_roundw
     case rel=>exact⟨k+1,by omega,by go_num,by rw[NO.out];exact O2,H2⟩
     case measure=>simp[intOf];omega
    .go_wp2_with (go_at_call 18;(with_reducible refine dG.mono ?_);rintro e w2 ⟨rfl,hb,hW⟩;obtain⟨W2,iz⟩:=al (w2.alloc (.cells #[ab (cH p).kind,U (cH p).cQ,ab (cH p).code,aa (cH p).h,U (cH p).a,U (cH p).b,aa (cH p).v,U (cH p).worker,ab (cH p).gV] 56));obtain⟨z0,z1⟩:=hW W2 iz;have H2:Hid (Below w.heap.size w W2):=bU (by rw[←iz];exact bA (bT HB.out hb HB.out.size) (av _) _);have O2:Hid (W2.ownsRow w.heap.size 9 1 u5 (O k).length ((O k).map SV)):=bU (by rw[←iz];exact(oI HO.out hb).alloc _);have RD:=HCk.out W2 H2.out;clear hb hW)
     go_roundw
     case rel=>exact⟨k+1,by omega,by go_num,by rw[NO.out];exact O2,H2⟩
     case measure=>simp[intOf];omega
   case pos=>
    have eN:(mA p==0)=true:=by rw[Lg uM];rfl
    have e1:((cH p).kind==1)=true:=by rw[uM];rfl
    cases e2:((cH p).cQ==t)
    .have NO:Hid (O (k+1)=O k):=bU (y2 (az (fun h=>by rw[h.2] at e2;simp at e2)))
     clear y1 y2 uM l1;go_wp2_with (go_at_call 18;(with_reducible refine dG.mono ?_);rintro e w2 ⟨rfl,hb,hW⟩;obtain⟨W2,iz⟩:=al (w2.alloc (.cells #[ab (cH p).kind,U (cH p).cQ,ab (cH p).code,aa (cH p).h,U (cH p).a,U (cH p).b,aa (cH p).v,U (cH p).worker,ab (cH p).gV] 56));obtain⟨z0,z1⟩:=hW W2 iz;have H2:Hid (Below w.heap.size w W2):=bU (by rw[←iz];exact bA (bT HB.out hb HB.out.size) (av _) _);have O2:Hid (W2.ownsRow w.heap.size 9 1 u5 (O k).length ((O k).map SV)):=bU (by rw[←iz];exact(oI HO.out hb).alloc _);have RD:=HCk.out W2 H2.out;clear hb hW)
     go_roundw
     case rel=>exact⟨k+1,by omega,by go_num,by rw[NO.out];exact O2,H2⟩
     case measure=>simp[intOf];omega
    .have YES:Hid (O (k+1)=O k++[p]):=bU (y1 (aw ⟨uM,by simpa using e2⟩))
     have L1:=bU l1;clear y1 y2 uM l1;go_wp2_with (first
      | (go_at_call 18;(with_reducible refine dG.mono ?_);rintro e w2 ⟨rfl,hb,hW⟩;obtain⟨W2,iz⟩:=al (w2.alloc (.cells #[ab (cH p).kind,U (cH p).cQ,ab (cH p).code,aa (cH p).h,U (cH p).a,U (cH p).b,aa (cH p).v,U (cH p).worker,ab (cH p).gV] 56));obtain⟨z0,z1⟩:=hW W2 iz;have H2:Hid (Below w.heap.size w W2):=bU (by rw[←iz];exact bA (bT HB.out hb HB.out.size) (av _) _);have O2:Hid (W2.ownsRow w.heap.size 9 1 u5 (O k).length ((O k).map SV)):=bU (by rw[←iz];exact(oI HO.out hb).alloc _);have RD:=HCk.out W2 H2.out;clear hb hW)
      | (at_builtin;refine wpList_append_own _ rfl _ _ 26 rfl w.heap.size 9 i0 (.string ByteArray.empty) 1 16 underlying26 uN iX jm nQ rfl (by decide) u5 _ _ rfl (O2.out.alloc _) ⟨W2.heap.size,0,none⟩ 1 1 [.string (bs p)] rfl rfl ?c1 ?c2 ?c3 ?c4 ?c5 ?_))
     case c1=>
      intro j u hj
      match j,hj with
      | 0,hj=>
       simp at hj;subst hj;exact(cj.new W2 #[.string (bs p)] 9).cell 0
      | j+1,hj=>simp at hj
     case c2=>
      intro u hu;simp at hu;subst hu
      rfl
     case c3=>have:=L1.out;unfold maxLen;omega
     case c4=>have:=L1.out;omega
     case c5=>have:=H2.out.size;simp;omega
     intro v' w1 fN hgrow _;have H3:Hid (Below w.heap.size w w1):=bU (H2.out.trans (by
      have b1:Below W2.heap.size W2 (W2.alloc (.cells #[.string (bs p)] 9)):=bA (bV _ _) (av _) _;have hl:=O2.out.lt;exact⟨hgrow.os,hgrow.tape,hgrow.output,aE b1.size hgrow.size,fun k hk=>(hgrow.block k (aB hk (aE H2.out.size b1.size)) (fun e=>by have:=(hl k e.symm).1;omega)).trans (b1.block k (aB hk H2.out.size))⟩))
     have O6:Hid (w1.ownsRow w.heap.size 9 1 v' (O (k+1)).length ((O (k+1)).map SV)):=bU (by
      rw[YES.out,aJ,List.map_append];exact fN)
     clear fN hgrow;go_wp2_with fail
     go_roundw
     case rel=>exact⟨k+1,by omega,by go_num,O6,H3⟩
     case measure=>simp[intOf];omega
  .obtain rfl:k=n:=by omega
   go_wp2_with fail;go_ret;exact⟨_,rfl,HO.out,HB.out⟩
end Rf
namespace Rf
open Go.RowKit Go.bZ Go.Gc Hp Mc Tr
theorem AD:∀(L:List Sn) (k j:Nat),k<L.length→j<8→(lr L)[k*8+j]?=(cX (L.getD k (Sn.told 0)))[j]?
 | [],k,j,h,_=>absurd h (by simp)
 | a::L,0,j,_,hj=>by
   unfold lr;rw[List.flatMap_cons,bj (by show 0*8+j<8;omega),Nat.zero_mul,bM,bJ]
   rfl
 | a::L,k+1,j,h,hj=>by
   have ih:=AD L k j (by simpa using h) hj;unfold lr at ih ⊢;rw[List.flatMap_cons,aS (by show 8<=(k+1)*8+j;omega),show(k+1)*8+j-(cX a).toList.length=k*8+j by show(k+1)*8+j-8=_;omega,ih]
   rfl
structure mD(w:World)(v:Value)(L:List Sn):Prop where
 ln:L.length<=1000
 at_:(v=ai none 0 0/\L.length=0)\/∃g cap,v=ai (aj g) L.length cap/\g<w.heap.size/\∀k,k<L.length→w.cell? (aj g (k*8))=some (U (L.getD k (Sn.told 0)).e)/\w.cell? (aj g (k*8+1))=some (aa (L.getD k (Sn.told 0)).h)/\w.cell? (aj g (k*8+2))=some (aa (L.getD k (Sn.told 0)).w)/\w.cell? (aj g (k*8+3))=some (U (L.getD k (Sn.told 0)).addr)/\w.cell? (aj g (k*8+4))=some (U (L.getD k (Sn.told 0)).used)/\w.cell? (aj g (k*8+5))=some (U (L.getD k (Sn.told 0)).since)/\w.cell? (aj g (k*8+6))=some (U (L.getD k (Sn.told 0)).gY)/\w.cell? (aj g (k*8+7))=some (.bool (L.getD k (Sn.told 0)).ac)
theorem Lj{w:World}{B:Nat}{v:Value}{L:List Sn}(h:w.ownsRow B 38 8 v L.length (lr L))(hl:L.length<=1000):mD w v L:=by
 refine⟨hl,?_⟩;rcases h.2 with k|⟨g,cap,cur,hv,hb,hg,hnc,hcm,hcs,htk⟩
 .exact .inl k
 .refine .inr ⟨g,cap,hv,(aD.1 hg).1,fun k hk=>?_⟩
  have hc:=h.cells (g:=g) (by rw[hv];rfl);have cell:∀j u,j<8→(cX (L.getD k (Sn.told 0)))[j]?=some u→w.cell? (aj g (k*8+j))=some u:=fun j u hj hu=>by
   have:=hc (k*8+j) u ((AD L k j hk hj).trans hu)
   rwa [show(⟨g,0,none⟩:Addr).add (k*8+j)=⟨g,k*8+j,none⟩ by unfold Addr.add;split <;> simp_all] at this
  exact⟨cell 0 _ (by omega) rfl,cell 1 _ (by omega) rfl,cell 2 _ (by omega) rfl,cell 3 _ (by omega) rfl,cell 4 _ (by omega) rfl,cell 5 _ (by omega) rfl,cell 6 _ (by omega) rfl,cell 7 _ (by omega) rfl⟩
theorem mD.cA{w w':World}{v:Value}{L:List Sn}(h:mD w v L)(hb:Below w.heap.size w w'):mD w' v L:=by
 refine⟨h.ln,?_⟩;rcases h.at_ with k|⟨g,cap,hv,hg,hc⟩
 .exact .inl k
 .have e:∀j,w'.cell? (aj g j)=w.cell? (aj g j):=fun j=>hb.cell hg
  refine .inr ⟨g,cap,hv,aB hg hb.size,fun k hk=>?_⟩;rw[e,e,e,e,e,e,e,e];exact hc k hk
theorem DT(w:World)(A B:Option Addr)(c d:Nat):ak 10 #[.slice A 0 c,.slice B 0 d] w fun e w'=>e=ae (.bool true)/\w=w':=by
 go_enter func10,ntmps10;go_wp2_with fail
 go_loopw [5] (fun i wr=>i=U 0/\wr=w) (fun _ _=>1)
 case atStart=>exact⟨rfl,rfl⟩
 case round=>
  obtain⟨rfl,rfl⟩:=hrel;go_wp2_with fail;go_ret;exact⟨rfl,rfl⟩
set_option maxHeartbeats 2000000 in
theorem IA{w:World}{va vb:Value}{L:List Sn}(ha:mD w va L)(hb:mD w vb L):ak 10 #[va,vb] w fun e w'=>e=ae (.bool true)/\Below w.heap.size w w':=by
 by_cases h0:L.length=0
 .have za:∃A c,va=.slice A 0 c:=by
   rcases ha.at_ with⟨k,_⟩|⟨g,cap,hv,_⟩
   .exact⟨_,_,k⟩
   .rw[h0] at hv;exact⟨_,_,hv⟩
  have zb:∃A c,vb=.slice A 0 c:=by
   rcases hb.at_ with⟨k,_⟩|⟨g,cap,hv,_⟩
   .exact⟨_,_,k⟩
   .rw[h0] at hv;exact⟨_,_,hv⟩
  obtain⟨A,c,rfl⟩:=za;obtain⟨B,d,rfl⟩:=zb;exact(DT w A B c d).mono (fun e w' ⟨he,hw⟩=>⟨he,hw▸bV _ _⟩)
 have ln:=ha.ln;rcases ha.at_ with⟨_,k⟩|⟨g1,c1,rfl,l1,mX⟩
 .exact absurd k h0
 rcases hb.at_ with⟨_,k⟩|⟨g2,c2,rfl,l2,jT⟩
 .exact absurd k h0
 have HA:Hid (∀wr,Below w.heap.size w wr→∀k,k<L.length→_):=bU (fun wr cN k hk=>by
  have e:∀j,wr.cell? (aj g1 j)=w.cell? (aj g1 j):=fun j=>cN.cell l1
  have:=mX k hk;rw[←e,←e,←e,←e,←e,←e,←e,←e] at this;exact this)
 have HB:Hid (∀wr,Below w.heap.size w wr→∀k,k<L.length→_):=bU (fun wr cN k hk=>by
  have e:∀j,wr.cell? (aj g2 j)=w.cell? (aj g2 j):=fun j=>cN.cell l2
  have:=jT k hk;rw[←e,←e,←e,←e,←e,←e,←e,←e] at this;exact this)
 clear ha hb mX jT l1 l2;generalize hn:L.length=n at *;clear hn h0;go_enter func10,ntmps10;go_wp2_with fail
 go_loopw [5] (fun i wr=>∃k:Nat,k<=n/\i=U k/\Hid (Below w.heap.size w wr)) (fun i _=>n-(intOf i).toNat)
 case atStart=>exact⟨0,by omega,rfl,bU (bV _ _)⟩
 case round=>
  obtain⟨k,hk,rfl,HW⟩:=hrel;by_cases hlt:k<n
  .obtain⟨a0,a1,a2,a3,a4,a5,a6,a7⟩:=HA.out wr HW.out k hlt
   obtain⟨b0,b1,b2,b3,b4,b5,b6,b7⟩:=HB.out wr HW.out k hlt;generalize L.getD k (Sn.told 0)=s at *;go_wp2_with fail
   go_quiet (fail)
   go_wp2_with fail
   go_roundw
   case rel=>exact⟨k+1,by omega,by go_num,bU (jh HW.out _)⟩
   case measure=>simp[intOf];omega
  .obtain rfl:k=n:=by omega
   go_wp2_with fail;go_ret;exact⟨rfl,HW.out⟩
end Rf
namespace Mc
open Go.RowKit Go.bZ Go.Gc Go.Cf Hp Fm Tr Rf eK
theorem Ak{w:World}{d:MD}{eU n:Nat}{x:Nat→V}{l:List (Int×Sn)}(h:MI w d eU n x l){v0:Value}(LW:cj w d.m #[af (aj d.f),v0] 62)(hn:n<1000)(p:List UInt8)(hp:p.length<=100000):ak 7 #[af (aj d.m),.string (bs p)] w (S9 w d eU n x l v0 p):=by
 have hl:=h.ll;unfold S9;rcases ho:(gU d.T.C d.hs.length x p).2 with _|⟨t,s⟩
 .exact(Lb h LW (by omega) p hp ho).mono (fun e w' q=>⟨q.1,by simpa using q.2⟩)
 .exact(Lc h LW (by omega) (by omega) p hp ho).mono (fun e w' q=>⟨q.1,q.2⟩)
noncomputable def Pz(C:cV)(x:V):List iJ→V
 | []=>x
 | q::l=>Pz C (jk C x q).1 l
theorem wY(C:cV)(q:iJ):∀(l:List iJ) (x:V),Pz C x (l++[q])=(jk C (Pz C x l) q).1
 | [],_=>rfl
 | _::l,_=>wY C q l _
theorem tJ(C:cV)(q:iJ):∀(l:List iJ) (x:V),pN C x (l++[q])=pN C x l++[(jk C (Pz C x l) q).2]
 | [],_=>rfl
 | a::l,x=>by
   show(jk C x a).2::pN C (jk C x a).1 (l++[q])=(jk C x a).2::(pN C (jk C x a).1 l++_);rw[tJ C q l]
   rfl
theorem wZ(C:cV):∀(l:List iJ) (x:V),(pN C x l).length=l.length
 | [],_=>rfl
 | a::l,x=>by
   show(pN C (jk C x a).1 l).length+1=l.length+1;rw[wZ C l]
def reqs(t:Int)(ps:List (List UInt8)):List iJ:=(gz t ps).map (fun p=>ix (cH p))
def oJ(t:Int)(l:List (Int×Sn)):List Sn:=(l.filter (fun p=>p.1==t)).map (·.2)
structure DV(d:MD)(t:Nat)(x0:V)(ps:List (List UInt8))(x:Nat→V)(l:List (Int×Sn)):Prop where
 st:x t=Pz (d.T.C t) x0 (reqs t ps)
 sn:oJ t l=pN (d.T.C t) x0 (reqs t ps)
theorem IB{t:Int}{ps:List (List UInt8)}{p:List UInt8}(h:mV t p=true):reqs t (ps++[p])=reqs t ps++[ix (cH p)]:=by
 unfold reqs gz;rw[List.filter_append];simp[h]
theorem Ll{t:Int}{ps:List (List UInt8)}{p:List UInt8}(h:mV t p=false):reqs t (ps++[p])=reqs t ps:=by
 unfold reqs gz;rw[List.filter_append];simp[h]
theorem lf(t:Int)(l:List (Int×Sn))(a:Int×Sn):oJ t (l++[a])=oJ t l++(if a.1==t then[a.2] else[]):=by
 unfold oJ;rw[List.filter_append]
 cases h:a.1==t <;> simp[h]
theorem DV.step{d:MD}{t:Nat}{x0:V}{ps:List (List UInt8)}{x:Nat→V}{l:List (Int×Sn)}(h:DV d t x0 ps x l)(ht:t<d.hs.length)(p:List UInt8):DV d t x0 (ps++[p]) (gU d.T.C d.hs.length x p).1 (l++(gU d.T.C d.hs.length x p).2.toList):=by
 cases ho:mV t p
 .have hn:¬((cH p).kind=1/\(cH p).cQ=t):=of_decide_eq_false ho
  rw[show DV d t x0 (ps++[p])=fun a b=>DV d t x0 (ps++[p]) a b from rfl];have hr:=Ll (ps:=ps) ho;unfold gU;by_cases k2:(cH p).kind=2
  .rw[if_pos k2]
   exact⟨by rw[hr];exact h.st,by rw[hr];simpa using h.sn⟩
  .rw[if_neg k2]
   by_cases k1:(cH p).kind=1/\(cH p).cQ<d.hs.length
   .rw[if_pos k1]
    have t0:=(Av k1.1).2;have tn:(cH p).cQ≠t:=fun e=>hn ⟨k1.1,e⟩
    refine⟨?_,?_⟩
    .rw[hr]
     show cP x (cH p).cQ.toNat _ t=_;rw[du _ _ (by omega)];exact h.st
    .rw[hr]
     show oJ t (l++[((cH p).cQ,_)])=_;rw[lf,show((cH p).cQ==(t:Int))=false by rw[aA];exact tn,h.sn];simp
   .rw[if_neg k1]
    refine⟨by rw[hr];exact h.st,?_⟩;rw[hr];show oJ t (l++[(-1,_)])=_;rw[lf,show((-1:Int)==(t:Int))=false by rw[aA];omega,h.sn];simp
 .have hy:(cH p).kind=1/\(cH p).cQ=t:=of_decide_eq_true ho
  have hr:=IB (ps:=ps) ho;have e:gU d.T.C d.hs.length x p=(cP x t (jk (d.T.C t) (x t) (ix (cH p))).1,some ((t:Int),(jk (d.T.C t) (x t) (ix (cH p))).2)):=by
   unfold gU;rw[if_neg (by rw[hy.1];decide),if_pos ⟨hy.1,by rw[hy.2];omega⟩,hy.2,aG]
  rw[e];refine⟨?_,?_⟩
  .rw[hr,wY,←h.st]
   exact cS _ _ _
  .rw[hr,tJ,←h.st]
   show oJ t (l++[((t:Int),_)])=_;rw[lf,h.sn];simp
def MR(w:World)(d:MD)(eU t:Nat)(x0:V)(ps:List (List UInt8)):Prop:=∃x l,MI w d eU ps.length x l/\DV d t x0 ps x l/\t<d.hs.length
theorem MR.bY{S:Nat→Prop}{w w':World}{d:MD}{eU t:Nat}{x0:V}{ps:List (List UInt8)}(h:MR w d eU t x0 ps)(hc:cu S w w')(hS:∀k,k<w.heap.size→S k→2<k/\¬(d.lo<=k/\k<=d.m)/\k<eU):MR w' d eU t x0 ps:=by
 obtain⟨x,l,h1,h2,h3⟩:=h;exact⟨x,l,h1.bY hc hS,h2,h3⟩
theorem MR.cA{w w':World}{d:MD}{eU t:Nat}{x0:V}{ps:List (List UInt8)}(h:MR w d eU t x0 ps)(hb:Below w.heap.size w w'):MR w' d eU t x0 ps:=h.bY (cu.cD (S:=fun _=>False) hb) (fun _ _ hk=>hk.elim)
theorem MR.born{w:World}{d:MD}{t:Nat}{x:Nat→V}(h:BI w d x)(ht:t<d.hs.length):MR w d w.heap.size t (x t) []:=⟨x,[],h.mi,⟨rfl,rfl⟩,ht⟩
theorem MR.Eh{w:World}{d:MD}{eU t:Nat}{x0:V}{ps:List (List UInt8)}(h:MR w d eU t x0 ps)(hn:ps.length<1000)(p:List UInt8)(hp:p.length<=100000):ak 7 #[af (aj d.m),.string (bs p)] w fun e w'=>∃v,e=ae v/\MR w' d eU t x0 (ps++[p])/\cu (Sm d eU) w w':=by
 obtain⟨x,l,h1,h2,h3⟩:=h;obtain⟨v,b,o⟩:=h1.mb;refine(Ak h1 b hn p hp).mono ?_;rintro e w' ⟨he,hm,hc,-⟩;exact⟨_,he,⟨_,_,by rw[aJ];exact hm,h2.step h3 p,h3⟩,hc.up (fun k hk=>hk.elim .inl (fun e=>.inr (o.lt k e).1))⟩
theorem IC(t:Int):∀(l:List (Int×Sn)),jF t (fun k=>(l.getD k (0,Sn.told 0)).1) (fun k=>(l.getD k (0,Sn.told 0)).2) l.length=oJ t l:=by
 have gen:∀(l:List (Int×Sn)) (j:Nat),j<=l.length→jF t (fun k=>(l.getD k (0,Sn.told 0)).1) (fun k=>(l.getD k (0,Sn.told 0)).2) j=oJ t (l.take j):=fun l j=>by
  induction j with
  | zero=>intro _;rfl
  | succ j ih=>
   intro hj;rw[rR,ih (by omega),bB (by omega),lf,ao,aq (by omega)]
   rfl
 intro l;rw[gen l l.length (av _),bK]
theorem xc:∀(L:List (Int×Sn)) (k j:Nat),k<L.length→j<9→(lu L)[k*9+j]?=(eB (L.getD k (0,Sn.told 0)).1 (L.getD k (0,Sn.told 0)).2)[j]?
 | [],k,j,h,_=>absurd h (by simp)
 | a::L,0,j,_,hj=>by
   unfold lu;rw[List.flatMap_cons,bj (by show 0*9+j<9;omega),Nat.zero_mul,bM,bJ]
   rfl
 | a::L,k+1,j,h,hj=>by
   have ih:=xc L k j (by simpa using h) hj;unfold lu at ih ⊢;rw[List.flatMap_cons,aS (by show 9<=(k+1)*9+j;omega),show(k+1)*9+j-(eB a.1 a.2).toList.length=k*9+j by show(k+1)*9+j-9=_;omega,ih]
   rfl
theorem MR.trace{w:World}{d:MD}{eU t:Nat}{x0:V}{ps:List (List UInt8)}(h:MR w d eU t x0 ps)(hn:ps.length<=1000):ak 9 #[af (aj d.m),U t] w fun e w'=>∃v A c,e=ae v/\v=.slice A (gz t ps).length c/\mD w' v (pN (d.T.C t) x0 (reqs t ps))/\Below w.heap.size w w':=by
 obtain⟨x,l,h1,h2,h3⟩:=h;obtain⟨v,b,o⟩:=h1.mb;have hl:=h1.ll;have hw:Oj w v l.length (fun k=>(l.getD k (0,Sn.told 0)).1) (fun k=>(l.getD k (0,Sn.told 0)).2):=by
  refine⟨by omega,?_⟩;rcases o.2 with k|⟨g,cap,cur,hv,hb,hg,hnc,hcm,hcs,htk⟩
  .exact .inl k
  .refine .inr ⟨g,0,cap,hv,(aD.1 hg).1,fun k hk j u hu=>?_⟩
   have hj:j<9:=(aD.1 hu).1;have:=o.cells (g:=g) (by rw[hv];rfl) (k*9+j) u ((xc l k j hk hj).trans hu);rw[show(⟨g,0,none⟩:Addr).add (k*9+j)=⟨g,k*9+j,none⟩ by unfold Addr.add;split <;> simp_all] at this;rw[bM];exact this
 refine(Dj (b.cell 0) (b.cell 1) hw (t:Int)).mono ?_;rintro e w' ⟨v',he,ho,hb⟩;rw[IC,h2.sn] at ho;have hln:(pN (d.T.C t) x0 (reqs t ps)).length=(gz t ps).length:=by rw[wZ];unfold reqs;rw[List.length_map]
 have hle:(gz t ps).length<=ps.length:=List.length_filter_le _ _;have hs:=Lj ho (by rw[hln];omega);have hv:∃A c,v'=.slice A (gz t ps).length c:=by
  rcases hs.at_ with⟨k,z⟩|⟨g,cap,hv,_⟩
  .rw[hln] at z
   exact⟨none,0,by rw[z];exact k⟩
  .rw[hln] at hv
   exact⟨_,_,hv⟩
 obtain⟨A,c,hv⟩:=hv;exact⟨v',A,c,he,hv,hs,hb⟩
end Mc
end Go.Proofs.YtgblmelijlgimaaGreatDoor
