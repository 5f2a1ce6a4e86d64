/- Parts of the proof of TopApart. -/
import Derived.Test.YtgblmelijlgimaaGreatDoorZTopBT
set_option maxRecDepth 100000
namespace Go.Proofs.YtgblmelijlgimaaGreatDoor
open Go.Proofs.Tryz
namespace Rf
open Go.RowKit Go.bZ Go.Cf
def lI.gr(g:lI):Int:=g.cl (g.lc-1)
def CT(g:lI)(i:Nat):Prop:=(g.gr<=g.q i/\g.q i<=4096)/\(1<=g.tr i/\g.tr i<=1048576)/\(1<=g.ca i/\g.ca i<=1024)/\(0<=g.sa i/\g.sa i<=1024)
def C6(g:lI):Prop:=C5 g.lc g.cl/\(g.gr<=g.cB/\g.cB<=64)/\(1<=(g.lt:Int)/\(g.lt:Int)<=8)/\(0<=g.wk/\g.wk<=8)/\(1<=g.gy/\g.gy<=64)/\(1<=g.gn/\g.gn<=2147483648)/\∀i,i<g.lt→CT g i
theorem Py{W:World}{b:Nat}{g:lI}(h:cj W b g.cells 25):W.cell? (aj b)=some (.slice g.ac g.lc g.cc)/\W.cell? (aj b 1)=some (U g.cB)/\W.cell? (aj b 2)=some (.slice g.ad g.lt g.ct)/\W.cell? (aj b 3)=some (U g.wk)/\W.cell? (aj b 4)=some (U g.gy)/\W.cell? (aj b 5)=some (U g.gn):=⟨h.cell 0,h.cell 1,h.cell 2,h.cell 3,h.cell 4,h.cell 5⟩
set_option maxHeartbeats 4000000 in
theorem wW{w:World}{g:lI}(h:jw w g):ak 22 #[.agg g.cells] w fun e w'=>∃z:Int,e=ae (U z)/\((z=0/\C6 g)\/(z=2/\¬C6 g))/\Below w.heap.size w w':=by
 obtain⟨W,hW⟩:=al (w.alloc (.cells #[.slice g.ac g.lc g.cc,U g.cB,.slice g.ad g.lt g.ct,U g.wk,U g.gy,U g.gn] 25));have hB:Below w.heap.size w W:=by rw[←hW];exact bA (bV _ _) (av _) _
 have bx:cj W w.heap.size g.cells 25:=by rw[←hW];exact cj.new _ _ _
 have hWg:=h.cA hB;have HX:Hid (∀W1,Below W.heap.size W W1→(W1.cell? (aj w.heap.size)=some (.slice g.ac g.lc g.cc)/\W1.cell? (aj w.heap.size 1)=some (U g.cB)/\W1.cell? (aj w.heap.size 2)=some (.slice g.ad g.lt g.ct)/\W1.cell? (aj w.heap.size 3)=some (U g.wk)/\W1.cell? (aj w.heap.size 4)=some (U g.gy)/\W1.cell? (aj w.heap.size 5)=some (U g.gn))/\jw W1 g/\Below w.heap.size w W1):=bU (fun W1 hb=>⟨Py (bx.cA hb),hWg.cA hb,hB.trans (hb.mono hB.size)⟩);have HF:=bU (fun W n a b=>wU W n a b);obtain⟨c0,-,-,-,-,-⟩:=Py bx;by_cases h5:C5 g.lc g.cl
 .have d5:ak 40 #[.slice g.ac g.lc g.cc] W fun e w'=>e=ae (U 0)/\Below W.heap.size W w':=(wV h.l1 (hWg.c)).mono (fun e w' ⟨z,he,hz,hb⟩=>by
   rcases hz with⟨rfl,_⟩|⟨_,k⟩
   .exact⟨he,hb⟩
   .exact absurd h5 k)
  obtain⟨l1,l8,hcl⟩:=h5;obtain⟨bc,oc,ea,-,-⟩:=h.c l1;have HL:Hid (∀W1,Below W.heap.size W W1→W1.cell? (aj bc (oc+(g.lc-1)))=some (U g.gr)):=bU (fun W1 hb=>by
   obtain⟨b',o',e',-,RC⟩:=(hWg.cA hb).c l1;rw[ea] at e';injection e' with e';injection e' with e1 e2 _;subst e1 e2;exact RC (g.lc-1) (by omega))
  have HT:=bU (fun(W1:World) (hb:Below W.heap.size W W1)=>(hWg.cA hb).t);have VJ:=bU (⟨l1,l8,hcl⟩:C5 g.lc g.cl);have i1:((g.lc:Int)-1).toNat=g.lc-1:=by omega
  have l2:=h.l2;clear h hWg hB bx hcl;unfold lI.cells at *;simp only[ea] at *;by_cases v0:g.gr<=g.cB/\g.cB<=64
  case neg=>
   have e0:decide (g.gr<=g.cB/\g.cB<=64)=false:=az v0;have NO:Hid (¬C6 g):=bU (fun h=>v0 h.2.1);clear v0 HT;go_enter func22,ntmps22;go_wp2_with (first
    | (go_at_call 40;(with_reducible refine d5.mono ?_);rintro e w1 ⟨rfl,hb⟩;obtain⟨⟨y0,y1,y2,y3,y4,y5⟩,-,-⟩:=HX.out w1 hb;have yl:=HL.out w1 hb;have H1:=bU hb;clear hb c0)
    | (go_at_call 41;(with_reducible refine(HF.out _ _ _ _).mono ?_);rintro e w2 ⟨rfl,rfl⟩))
   go_ret;exact⟨_,rfl,.inr ⟨rfl,NO.out⟩,(HX.out _ H1.out).2.2⟩
  have e0:decide (g.gr<=g.cB/\g.cB<=64)=true:=aw v0;by_cases v1:1<=(g.lt:Int)/\(g.lt:Int)<=8
  case neg=>
   have e1:decide (1<=(g.lt:Int)/\(g.lt:Int)<=8)=false:=az v1;have NO:Hid (¬C6 g):=bU (fun h=>v1 h.2.2.1);clear v0 v1 HT;go_enter func22,ntmps22;go_wp2_with (first
    | (go_at_call 40;(with_reducible refine d5.mono ?_);rintro e w1 ⟨rfl,hb⟩;obtain⟨⟨y0,y1,y2,y3,y4,y5⟩,-,-⟩:=HX.out w1 hb;have yl:=HL.out w1 hb;have H1:=bU hb;clear hb c0)
    | (go_at_call 41;(with_reducible refine(HF.out _ _ _ _).mono ?_);rintro e w2 ⟨rfl,rfl⟩))
   go_ret;exact⟨_,rfl,.inr ⟨rfl,NO.out⟩,(HX.out _ H1.out).2.2⟩
  have e1:decide (1<=(g.lt:Int)/\(g.lt:Int)<=8)=true:=aw v1;by_cases v2:0<=g.wk/\g.wk<=8
  case neg=>
   have e2:decide (0<=g.wk/\g.wk<=8)=false:=az v2;have NO:Hid (¬C6 g):=bU (fun h=>v2 h.2.2.2.1);clear v0 v1 v2 HT;go_enter func22,ntmps22;go_wp2_with (first
    | (go_at_call 40;(with_reducible refine d5.mono ?_);rintro e w1 ⟨rfl,hb⟩;obtain⟨⟨y0,y1,y2,y3,y4,y5⟩,-,-⟩:=HX.out w1 hb;have yl:=HL.out w1 hb;have H1:=bU hb;clear hb c0)
    | (go_at_call 41;(with_reducible refine(HF.out _ _ _ _).mono ?_);rintro e w2 ⟨rfl,rfl⟩))
   go_ret;exact⟨_,rfl,.inr ⟨rfl,NO.out⟩,(HX.out _ H1.out).2.2⟩
  have e2:decide (0<=g.wk/\g.wk<=8)=true:=aw v2;by_cases v3:1<=g.gy/\g.gy<=64
  case neg=>
   have e3:decide (1<=g.gy/\g.gy<=64)=false:=az v3;have NO:Hid (¬C6 g):=bU (fun h=>v3 h.2.2.2.2.1);clear v0 v1 v2 v3 HT;go_enter func22,ntmps22;go_wp2_with (first
    | (go_at_call 40;(with_reducible refine d5.mono ?_);rintro e w1 ⟨rfl,hb⟩;obtain⟨⟨y0,y1,y2,y3,y4,y5⟩,-,-⟩:=HX.out w1 hb;have yl:=HL.out w1 hb;have H1:=bU hb;clear hb c0)
    | (go_at_call 41;(with_reducible refine(HF.out _ _ _ _).mono ?_);rintro e w2 ⟨rfl,rfl⟩))
   go_ret;exact⟨_,rfl,.inr ⟨rfl,NO.out⟩,(HX.out _ H1.out).2.2⟩
  have e3:decide (1<=g.gy/\g.gy<=64)=true:=aw v3;by_cases v4:1<=g.gn/\g.gn<=2147483648
  case neg=>
   have e4:decide (1<=g.gn/\g.gn<=2147483648)=false:=az v4;have NO:Hid (¬C6 g):=bU (fun h=>v4 h.2.2.2.2.2.1);clear v0 v1 v2 v3 v4 HT;go_enter func22,ntmps22;go_wp2_with (first
    | (go_at_call 40;(with_reducible refine d5.mono ?_);rintro e w1 ⟨rfl,hb⟩;obtain⟨⟨y0,y1,y2,y3,y4,y5⟩,-,-⟩:=HX.out w1 hb;have yl:=HL.out w1 hb;have H1:=bU hb;clear hb c0)
    | (go_at_call 41;(with_reducible refine(HF.out _ _ _ _).mono ?_);rintro e w2 ⟨rfl,rfl⟩))
   go_ret;exact⟨_,rfl,.inr ⟨rfl,NO.out⟩,(HX.out _ H1.out).2.2⟩
  have e4:decide (1<=g.gn/\g.gn<=2147483648)=true:=aw v4;have HV:=bU (And.intro v0 (And.intro v1 (And.intro v2 (And.intro v3 v4))));have t1:0<g.lt:=by omega
  have t8:g.lt<=8:=by omega
  clear v0 v1 v2 v3 v4 l2;have Ta:Hid (∃bt ot,g.ad=some ⟨bt,ot,none⟩/\∀W1,Below W.heap.size W W1→∀i,i<g.lt→W1.cell? (aj bt (ot+i*4))=some (U (g.q i))/\W1.cell? (aj bt (ot+i*4+1))=some (U (g.tr i))/\W1.cell? (aj bt (ot+i*4+2))=some (U (g.ca i))/\W1.cell? (aj bt (ot+i*4+3))=some (U (g.sa i))):=bU (by
   obtain⟨bt,ot,e,-,-⟩:=HT.out W (bV _ _) t1;refine⟨bt,ot,e,fun W1 hb i hi=>?_⟩;obtain⟨b',o',e',-,RC⟩:=HT.out W1 hb t1;rw[e] at e';injection e' with e';injection e' with e1 e2 _;subst e1 e2;exact RC i hi)
  obtain⟨bt,ot,ed,hT⟩:=Ta.out;have VK:=bU hT;clear hT Ta HT;simp only[ed] at *;go_enter func22,ntmps22;go_wp2_with (first
   | (go_at_call 40;(with_reducible refine d5.mono ?_);rintro e w1 ⟨rfl,hb⟩;obtain⟨⟨y0,y1,y2,y3,y4,y5⟩,-,-⟩:=HX.out w1 hb;have yl:=HL.out w1 hb;have H1:=bU hb;clear hb c0)
   | (go_at_call 41;(with_reducible refine(HF.out _ _ _ _).mono ?_);rintro e w2 ⟨rfl,rfl⟩))
  clear y0 y1 y3 y4 y5 yl e0 e1 e2 e3 e4 i1
  go_loopw [4] (fun i wr=>∃k:Nat,k<=g.lt/\i=U k/\Hid (Below W.heap.size W wr)/\Hid (∀j,j<k→CT g j)) (fun i _=>g.lt-(intOf i).toNat)
  case atStart=>exact⟨0,by omega,rfl,H1,bU (fun j hj=>absurd hj (by omega))⟩
  case round=>
   obtain⟨k,hk,rfl,HB,HK⟩:=hrel;have z2:wr.cell? (aj w.heap.size 2)=some (ai (aj bt ot) g.lt g.ct):=(HX.out wr HB.out).1.2.2.1;by_cases hlt:k<g.lt
   .obtain⟨k0,k1,k2,k3⟩:=VK.out wr HB.out k hlt
    have kM:Hid (Below W.heap.size W (wr.alloc (.cells #[U (g.q k),U (g.tr k),U (g.ca k),U (g.sa k)] 50))):=bU (bA HB.out (av _) _);by_cases v0:g.gr<=g.q k/\g.q k<=4096
    case neg=>
     have e0:decide (g.gr<=g.q k/\g.q k<=4096)=false:=az v0;have NO:Hid (¬C6 g):=bU (fun h=>v0 (h.2.2.2.2.2.2 k hlt).1);clear v0;go_wp2_with (go_at_call 41;(with_reducible refine(HF.out _ _ _ _).mono ?_);rintro e w2 ⟨rfl,rfl⟩)
     go_ret;exact⟨_,rfl,.inr ⟨rfl,NO.out⟩,(HX.out _ kM.out).2.2⟩
    have e0:decide (g.gr<=g.q k/\g.q k<=4096)=true:=aw v0;by_cases v1:1<=g.tr k/\g.tr k<=1048576
    case neg=>
     have e1:decide (1<=g.tr k/\g.tr k<=1048576)=false:=az v1;have NO:Hid (¬C6 g):=bU (fun h=>v1 (h.2.2.2.2.2.2 k hlt).2.1);clear v0 v1;go_wp2_with (go_at_call 41;(with_reducible refine(HF.out _ _ _ _).mono ?_);rintro e w2 ⟨rfl,rfl⟩)
     go_ret;exact⟨_,rfl,.inr ⟨rfl,NO.out⟩,(HX.out _ kM.out).2.2⟩
    have e1:decide (1<=g.tr k/\g.tr k<=1048576)=true:=aw v1;by_cases v2:1<=g.ca k/\g.ca k<=1024
    case neg=>
     have e2:decide (1<=g.ca k/\g.ca k<=1024)=false:=az v2;have NO:Hid (¬C6 g):=bU (fun h=>v2 (h.2.2.2.2.2.2 k hlt).2.2.1);clear v0 v1 v2;go_wp2_with (go_at_call 41;(with_reducible refine(HF.out _ _ _ _).mono ?_);rintro e w2 ⟨rfl,rfl⟩)
     go_ret;exact⟨_,rfl,.inr ⟨rfl,NO.out⟩,(HX.out _ kM.out).2.2⟩
    have e2:decide (1<=g.ca k/\g.ca k<=1024)=true:=aw v2;by_cases v3:0<=g.sa k/\g.sa k<=1024
    case neg=>
     have e3:decide (0<=g.sa k/\g.sa k<=1024)=false:=az v3;have NO:Hid (¬C6 g):=bU (fun h=>v3 (h.2.2.2.2.2.2 k hlt).2.2.2);clear v0 v1 v2 v3;go_wp2_with (go_at_call 41;(with_reducible refine(HF.out _ _ _ _).mono ?_);rintro e w2 ⟨rfl,rfl⟩)
     go_ret;exact⟨_,rfl,.inr ⟨rfl,NO.out⟩,(HX.out _ kM.out).2.2⟩
    have e3:decide (0<=g.sa k/\g.sa k<=1024)=true:=aw v3;have HN:=bU (And.intro v0 (And.intro v1 (And.intro v2 v3)));clear v0 v1 v2 v3;go_wp2_with (go_at_call 41;(with_reducible refine(HF.out _ _ _ _).mono ?_);rintro e w2 ⟨rfl,rfl⟩)
    go_roundw
    case rel=>exact⟨k+1,by omega,by go_num,kM,bU (fun j hj=>by
      by_cases e:j=k
      .subst e;exact HN.out
      .exact HK.out j (by omega))⟩
    case measure=>simp[intOf];omega
   .obtain rfl:k=g.lt:=by omega
    go_wp2_with fail;go_ret;obtain⟨u0,u1,u2,u3,u4⟩:=HV.out;exact⟨_,rfl,.inl ⟨rfl,VJ.out,u0,u1,u2,u3,u4,HK.out⟩,(HX.out _ HB.out).2.2⟩
 .have d5:ak 40 #[.slice g.ac g.lc g.cc] W fun e w'=>e=ae (U 2)/\Below W.heap.size W w':=(wV h.l1 (hWg.c)).mono (fun e w' ⟨z,he,hz,hb⟩=>by
   rcases hz with⟨_,k⟩|⟨rfl,_⟩
   .exact absurd k h5
   .exact⟨he,hb⟩)
  have NO:Hid (¬C6 g):=bU (fun h=>h5 h.1);clear h hWg hB bx h5 HF;unfold lI.cells at *;go_enter func22,ntmps22;go_wp2_with (go_at_call 40;(with_reducible refine d5.mono ?_);rintro e w1 ⟨rfl,hb⟩;have H1:=bU hb;clear hb)
  go_ret;exact⟨_,rfl,.inr ⟨rfl,NO.out⟩,(HX.out _ H1.out).2.2⟩
end Rf
namespace Rf
open Go.RowKit Go.bZ Go.Cf
theorem je:(prog.info? 25).map (·.size)=some 6:=by kernel_rfl
theorem jx{w W:World}{g:lI}(h:jw w g)(hW:w.alloc (.cells #[.slice g.ac g.lc g.cc,U g.cB,.slice g.ad g.lt g.ct,U g.wk,U g.gy,U g.gn] 25)=W):Hid (∀W1,Below W.heap.size W W1→cj W1 w.heap.size #[.slice g.ac g.lc g.cc,U g.cB,.slice g.ad g.lt g.ct,U g.wk,U g.gy,U g.gn] 25/\(W1.cell? (aj w.heap.size)=some (.slice g.ac g.lc g.cc)/\W1.cell? (aj w.heap.size 1)=some (U g.cB)/\W1.cell? (aj w.heap.size 2)=some (.slice g.ad g.lt g.ct))/\jw W1 g/\Below w.heap.size w W1):=bU (fun W1 hb=>by
 have hB:Below w.heap.size w W:=by rw[←hW];exact bA (bV _ _) (av _) _
 have bx:cj W w.heap.size #[.slice g.ac g.lc g.cc,U g.cB,.slice g.ad g.lt g.ct,U g.wk,U g.gy,U g.gn] 25:=by rw[←hW];exact cj.new _ _ _
 have b1:=bx.cA hb;exact⟨b1,⟨b1.cell 0,b1.cell 1,b1.cell 2⟩,(h.cA hB).cA hb,hB.trans (hb.mono hB.size)⟩)
theorem wX{w:World}{g:lI}(h:jw w g)(k:C6 g):ak 22 #[.agg #[.slice g.ac g.lc g.cc,U g.cB,.slice g.ad g.lt g.ct,U g.wk,U g.gy,U g.gn]] w fun e w'=>e=ae (U 0)/\Below w.heap.size w w':=(wW h).mono (fun e w' ⟨z,he,hz,hb⟩=>by
 rcases hz with⟨rfl,_⟩|⟨_,n⟩
 .exact⟨he,hb⟩
 .exact absurd k n)
theorem Az{w:World}{g:lI}(h:jw w g)(k:¬C6 g):ak 22 #[.agg #[.slice g.ac g.lc g.cc,U g.cB,.slice g.ad g.lt g.ct,U g.wk,U g.gy,U g.gn]] w fun e w'=>e=ae (U 2)/\Below w.heap.size w w':=(wW h).mono (fun e w' ⟨z,he,hz,hb⟩=>by
 rcases hz with⟨_,n⟩|⟨rfl,_⟩
 .exact absurd n k
 .exact⟨he,hb⟩)
theorem Is{w:World}{g:lI}(h:jw w g)(k:¬C6 g)(t j:Int):ak 53 #[.agg #[.slice g.ac g.lc g.cc,U g.cB,.slice g.ad g.lt g.ct,U g.wk,U g.gy,U g.gn],U t,U j] w fun e w'=>e=ae (.bool false)/\Below w.heap.size w w':=by
 obtain⟨W,hW⟩:=al (w.alloc (.cells #[.slice g.ac g.lc g.cc,U g.cB,.slice g.ad g.lt g.ct,U g.wk,U g.gy,U g.gn] 25));have HX:=jx h hW;obtain⟨bx,-,hg,-⟩:=HX.out W (bV _ _);have d:=Az hg k;clear h k hg;go_enter func53,ntmps53;go_wp2_with (first
  | (refine wpList_load_row rfl _ _ rfl w.heap.size rfl 25 #[.slice g.ac g.lc g.cc,U g.cB,.slice g.ad g.lt g.ct,U g.wk,U g.gy,U g.gn] (0,0) _ bx underlying25 rfl je ?_)
  | (go_at_call 22;(with_reducible refine d.mono ?_);rintro e w1 ⟨rfl,hb⟩;have H1:=bU hb;clear hb))
 go_ret;exact⟨rfl,(HX.out _ H1.out).2.2.2⟩
theorem pe{w:World}{g:lI}(h:jw w g)(k:C6 g)(t j:Nat)(ht:t<g.lt)(hj:j<g.lc):ak 53 #[.agg #[.slice g.ac g.lc g.cc,U g.cB,.slice g.ad g.lt g.ct,U g.wk,U g.gy,U g.gn],U t,U j] w fun e w'=>e=ae (.bool true)/\Below w.heap.size w w':=by
 obtain⟨W,hW⟩:=al (w.alloc (.cells #[.slice g.ac g.lc g.cc,U g.cB,.slice g.ad g.lt g.ct,U g.wk,U g.gy,U g.gn] 25));have HX:=jx h hW;obtain⟨bx,-,hg,-⟩:=HX.out W (bV _ _);have d:=wX hg k;have t8:=k.2.2.1.2;have c8:=k.1.2.1;have HF:=bU (fun W n a b=>wU W n a b);have e1:decide ((0:Int)<=(t:Int)/\(t:Int)<=(g.lt:Int)-1)=true:=aw (by omega);have e2:decide ((0:Int)<=(j:Int)/\(j:Int)<=(g.lc:Int)-1)=true:=aw (by omega);clear h k hg;go_enter func53,ntmps53;go_wp2_with (first
  | (refine wpList_load_row rfl _ _ rfl w.heap.size rfl 25 #[.slice g.ac g.lc g.cc,U g.cB,.slice g.ad g.lt g.ct,U g.wk,U g.gy,U g.gn] (0,0) _ bx underlying25 rfl je ?_)
  | (go_at_call 22;(with_reducible refine d.mono ?_);rintro e w1 ⟨rfl,hb⟩;obtain⟨-,⟨y0,y1,y2⟩,-,-⟩:=HX.out w1 hb;have H1:=bU hb;clear hb)
  | (go_at_call 41;(with_reducible refine((HF.out _ (t:Int) 0 ((g.lt:Int)-1)).mono ?_));rw[e1];rintro e w2 ⟨rfl,rfl⟩)
  | (go_at_call 41;(with_reducible refine((HF.out _ (j:Int) 0 ((g.lc:Int)-1)).mono ?_));rw[e2];rintro e w2 ⟨rfl,rfl⟩))
 go_ret;exact⟨rfl,(HX.out _ H1.out).2.2.2⟩
theorem C6.cl{g:lI}(k:C6 g){j:Nat}(hj:j<g.lc):∃x:Nat,g.cl j=x/\2<=x/\x<=64/\(x:Int)<=g.cB:=by
 have h1:=k.1.2.2 j hj;have h2:=k.2.1.1;have up:∀d i,i+d<g.lc→g.cl i<=g.cl (i+d):=fun d=>by
  induction d with
  | zero=>intro i _;exact Int.le_refl _
  | succ d ih=>
   intro i hi;have h3:=ih i (by omega);have h4:=(k.1.2.2 (i+(d+1)) hi).2.2 (by omega);rw[show i+(d+1)-1=i+d by omega] at h4;omega
 have h5:=up (g.lc-1-j) j (by omega);rw[show j+(g.lc-1-j)=g.lc-1 by omega] at h5;unfold lI.gr at h2;exact⟨(g.cl j).toNat,by omega,by omega,by omega,by omega⟩
theorem C6.q{g:lI}(k:C6 g){t:Nat}(ht:t<g.lt):∃y:Nat,g.q t=y/\y<=4096:=by
 have h1:=(k.2.2.2.2.2.2 t ht).1;obtain⟨x,e,h2,-,-⟩:=k.cl (j:=g.lc-1) (by have:=k.1.1;omega);unfold lI.gr at h1;exact⟨(g.q t).toNat,by omega,by omega⟩
theorem It{w:World}{g:lI}(h:jw w g):0<g.lc→∃b o,g.ac=some ⟨b,o,none⟩/\∀W,Below w.heap.size w W→∀i,i<g.lc→W.cell? (aj b (o+i))=some (U (g.cl i)):=fun hp=>by
 obtain⟨b,o,e,hl,hc⟩:=h.c hp;exact⟨b,o,e,fun W hb i hi=>(hb.cell hl).trans (hc i hi)⟩
theorem Iu{w:World}{g:lI}(h:jw w g):0<g.lt→∃b o,g.ad=some ⟨b,o,none⟩/\∀W,Below w.heap.size w W→∀i,i<g.lt→W.cell? (aj b (o+i*4))=some (U (g.q i))/\W.cell? (aj b (o+i*4+2))=some (U (g.ca i)):=fun hp=>by
 obtain⟨b,o,e,hl,hc⟩:=h.t hp;exact⟨b,o,e,fun W hb i hi=>⟨(hb.cell hl).trans (hc i hi).1,(hb.cell hl).trans (hc i hi).2.2.1⟩⟩
set_option maxHeartbeats 1000000 in
theorem DE{w:World}{g:lI}(h:jw w g)(k:C6 g)(t j:Nat)(ht:t<g.lt)(hj:j<g.lc):ak 82 #[.agg #[.slice g.ac g.lc g.cc,U g.cB,.slice g.ad g.lt g.ct,U g.wk,U g.gy,U g.gn],U t,U j] w fun e w'=>∃s:Nat,e=ae (.tuple #[U s,U 0])/\s<=4096/\Below w.heap.size w w':=by
 obtain⟨W,hW⟩:=al (w.alloc (.cells #[.slice g.ac g.lc g.cc,U g.cB,.slice g.ad g.lt g.ct,U g.wk,U g.gy,U g.gn] 25));have HX:=jx h hW;obtain⟨bx,-,hg,-⟩:=HX.out W (bV _ _);have d:=pe hg k t j ht hj;obtain⟨bc,oc,ea,hc⟩:=It hg (by omega);obtain⟨bt,ot,ed,htc⟩:=Iu hg (by omega);obtain⟨x,ex,x2,VL,-⟩:=k.cl hj;obtain⟨y,ey,y4⟩:=k.q ht;have HC:Hid (∀W1,Below W.heap.size W W1→W1.cell? (aj bc (oc+j))=some (U x)/\W1.cell? (aj bt (ot+t*4))=some (U y)):=bU (fun W1 hb=>by
  rw[←ex,←ey];exact⟨hc W1 hb j hj,(htc W1 hb t ht).1⟩)
 have t8:=k.2.2.1.2;have c8:=k.1.2.1;have hdv:((y:Int)/(x:Int))=((y/x:Nat):Int):=(Int.natCast_ediv _ _).symm;have hle:y/x<=4096:=aE (Nat.div_le_self _ _) y4;have hdt:(y:Int).tdiv (x:Int)=((y/x:Nat):Int):=by rw[Int.tdiv_eq_ediv_of_nonneg (by omega)];exact hdv
 have uI:((x:Int)==0)=false:=by rw[aA];omega
 obtain⟨n,hn⟩:=al (y/x);rw[hn] at hdv hle hdt;have hwr:IntKind.i64.wrap (n:Int)=(n:Int):=Go.IntWalk.i64_in _ (by omega);clear hn;clear h k hg hc htc ex ey;simp only[ea,ed] at *;go_enter func82,ntmps82;go_wp2_with (first
  | (refine wpList_load_row rfl _ _ rfl w.heap.size rfl 25 #[ai (aj bc oc) g.lc g.cc,U g.cB,ai (aj bt ot) g.lt g.ct,U g.wk,U g.gy,U g.gn] (0,0) _ bx underlying25 rfl je ?_)
  | (go_at_call 53;(with_reducible refine d.mono ?_);rintro e w1 ⟨rfl,hb⟩;obtain⟨-,⟨y0,y1,y2⟩,-,-⟩:=HX.out w1 hb;obtain⟨z0,z1⟩:=HC.out w1 hb;have H1:=bU hb;clear hb))
 go_quiet (fail)
 go_wp2_with fail
 go_ret2
 exact⟨n,rfl,hle,jh (HX.out _ H1.out).2.2.2 _⟩
end Rf
namespace Rf
open Go.RowKit Go.bZ Go.Cf
set_option maxHeartbeats 1000000 in
theorem DJ{w:World}{g:lI}(h:jw w g)(k:C6 g)(t j:Nat)(ht:t<g.lt)(hj:j<g.lc):ak 54 #[.agg #[.slice g.ac g.lc g.cc,U g.cB,.slice g.ad g.lt g.ct,U g.wk,U g.gy,U g.gn],U t,U j] w fun e w'=>∃s:Nat,e=ae (.tuple #[U s,U 0])/\s<=4096/\Below w.heap.size w w':=by
 obtain⟨W,hW⟩:=al (w.alloc (.cells #[.slice g.ac g.lc g.cc,U g.cB,.slice g.ad g.lt g.ct,U g.wk,U g.gy,U g.gn] 25));have HX:=jx h hW;obtain⟨bx,-,hg,-⟩:=HX.out W (bV _ _);have d:=DE hg k t j ht hj;obtain⟨bc,oc,ea,hc⟩:=It hg (by omega);obtain⟨x,ex,x2,VL,xp⟩:=k.cl hj;have c8:=k.1.2.1;have Ml:=k.2.1.2;obtain⟨pg,ep⟩:∃pg:Nat,g.cB=pg:=⟨g.cB.toNat,by omega⟩;rw[ep] at xp Ml;have HC:Hid (∀W1,Below W.heap.size W W1→W1.cell? (aj bc (oc+j))=some (U x)):=bU (fun W1 hb=>by
  rw[←ex];exact hc W1 hb j hj)
 have uI:((x:Int)==0)=false:=by rw[aA];omega
 have qJ:1<=pg/x:=Nat.div_pos (by omega) (by omega);have po:pg/x<=64:=aE (Nat.div_le_self _ _) (by omega);have hdv:((pg:Int)/(x:Int))=((pg/x:Nat):Int):=(Int.natCast_ediv _ _).symm;have hdt:(pg:Int).tdiv (x:Int)=((pg/x:Nat):Int):=by rw[Int.tdiv_eq_ediv_of_nonneg (by omega)];exact hdv
 obtain⟨fk,hper⟩:=al (pg/x);rw[hper] at hdv hdt qJ po;have hwr:IntKind.i64.wrap (fk:Int)=(fk:Int):=Go.IntWalk.i64_in _ (by omega);clear h k hg hc ex hper;simp only[ea,ep] at *;go_enter func54,ntmps54;go_wp2_with (first
  | (refine wpList_load_row rfl _ _ rfl w.heap.size rfl 25 #[ai (aj bc oc) g.lc g.cc,U pg,.slice g.ad g.lt g.ct,U g.wk,U g.gy,U g.gn] (0,0) _ bx underlying25 rfl je ?_)
  | (go_at_call 82;(with_reducible refine d.mono ?_);rintro e w1 ⟨s,rfl,hs,hb⟩;have H1:=bU hb;have HS:=bU hs;clear hb hs))
 go_loopw [10] (fun i wr=>∃p:Nat,p<=s/\i=U p/\Hid (Below W.heap.size W wr)) (fun i _=>s-(intOf i).toNat)
 case atStart=>exact⟨0,by omega,rfl,H1⟩
 case round=>
  obtain⟨p,hp,rfl,HB⟩:=hrel;have s4:=HS.out;obtain⟨-,⟨y0,y1,y2⟩,-,-⟩:=HX.out wr HB.out;have z0:=HC.out wr HB.out;have Mq:p*fk<=4096*64:=Nat.mul_le_mul (by omega) po;have PR:p<=p*fk:=Nat.le_mul_of_pos_right _ qJ;have hmul:(p:Int)*(fk:Int)=((p*fk:Nat):Int):=(Int.natCast_mul _ _).symm;obtain⟨m,hm⟩:=al (p*fk);rw[hm] at hmul PR Mq;have hwm:IntKind.i64.wrap (m:Int)=(m:Int):=Go.IntWalk.i64_in _ (by omega);clear hm;by_cases hlt:m<s
  .have e1:decide ((m:Int)<(s:Int))=true:=aw (by omega)
   go_wp2_with fail
   go_quiet (fail)
   go_wp2_with fail
   go_roundw
   case rel=>exact⟨p+1,by omega,by go_num,bU (jh HB.out _)⟩
   case measure=>simp[intOf];omega
  .have e1:decide ((m:Int)<(s:Int))=false:=az (by omega)
   go_wp2_with fail
   go_quiet (fail)
   go_wp2_with fail
   go_ret2
   exact⟨p,rfl,by omega,jh (HX.out _ HB.out).2.2.2 _⟩
set_option maxHeartbeats 1000000 in
theorem rV{w:World}{g:lI}(h:jw w g)(k:C6 g)(t:Nat)(ht:t<g.lt):ak 39 #[.agg #[.slice g.ac g.lc g.cc,U g.cB,.slice g.ad g.lt g.ct,U g.wk,U g.gy,U g.gn],U t] w fun e w'=>∃s:Nat,e=ae (.tuple #[U s,U 0])/\s<=2097152/\Below w.heap.size w w':=by
 obtain⟨W,hW⟩:=al (w.alloc (.cells #[.slice g.ac g.lc g.cc,U g.cB,.slice g.ad g.lt g.ct,U g.wk,U g.gy,U g.gn] 25));have HX:=jx h hW;obtain⟨bx,-,hg,-⟩:=HX.out W (bV _ _);have d:=pe hg k t 0 ht k.1.1;rw[show((0:Nat):Int)=0 from rfl] at d;have c8:=k.1.2.1;have Ml:=k.2.1.2;have HP:Hid (∀W1,Below W.heap.size W W1→∀j,j<g.lc→ak 54 #[.agg #[.slice g.ac g.lc g.cc,U g.cB,.slice g.ad g.lt g.ct,U g.wk,U g.gy,U g.gn],U t,U j] W1 fun e w'=>∃s:Nat,e=ae (.tuple #[U s,U 0])/\s<=4096/\Below W1.heap.size W1 w'):=bU (fun W1 hb j hj=>DJ (HX.out W1 hb).2.2.1 k t j ht hj);obtain⟨pg,ep⟩:∃pg:Nat,g.cB=pg:=⟨g.cB.toNat,by
  obtain⟨x,-,h2,-,h3⟩:=k.cl (j:=0) k.1.1;omega⟩
 rw[ep] at Ml;clear h k hg;simp only[ep] at *;go_enter func39,ntmps39;go_wp2_with (first
  | (refine wpList_load_row rfl _ _ rfl w.heap.size rfl 25 #[.slice g.ac g.lc g.cc,U pg,.slice g.ad g.lt g.ct,U g.wk,U g.gy,U g.gn] (0,0) _ bx underlying25 rfl je ?_)
  | (go_at_call 53;(with_reducible refine d.mono ?_);rintro e w1 ⟨rfl,hb⟩;have H1:=bU hb;clear hb bx))
 go_loopw [6,7] (fun a i wr=>∃(j r:Nat),j<=g.lc/\i=U j/\a=U r/\r<=j*262144/\Hid (Below W.heap.size W wr)) (fun _ i _=>g.lc-(intOf i).toNat)
 case atStart=>exact⟨0,0,by omega,rfl,rfl,by omega,H1⟩
 case round=>
  obtain⟨j,r,hj,rfl,rfl,hr,HB⟩:=hrel;obtain⟨bx,⟨y0,y1,y2⟩,-,-⟩:=HX.out wr HB.out;by_cases hlt:j<g.lc
  .have dP:=HP.out wr HB.out j hlt
   have HM:Hid (∀s:Nat,s<=4096→∃m:Nat,(s:Int)*(pg:Int)=(m:Int)/\m<=262144/\IntKind.i64.wrap (m:Int)=(m:Int)):=bU (fun s hs=>by
    have:s*pg<=4096*64:=Nat.mul_le_mul hs (by omega);exact⟨s*pg,(Int.natCast_mul _ _).symm,this,Go.IntWalk.i64_in _ (by omega)⟩)
   go_wp2_with (first
    | (refine wpList_load_row rfl _ _ rfl w.heap.size rfl 25 #[.slice g.ac g.lc g.cc,U pg,.slice g.ad g.lt g.ct,U g.wk,U g.gy,U g.gn] (0,0) _ bx underlying25 rfl je ?_)
    | (go_at_call 54;(with_reducible refine dP.mono ?_);rintro e w2 ⟨s,rfl,hs,hb⟩;obtain⟨m,hmul,hm,hwm⟩:=HM.out s hs;clear y0 y1 y2;obtain⟨-,⟨y0,y1,y2⟩,-,-⟩:=HX.out w2 (fj HB.out hb);have H2:=bU (fj HB.out hb);clear hb bx))
   go_roundw
   case rel=>exact⟨j+1,r+m,by omega,by go_num,by go_num,by omega,H2⟩
   case measure=>simp[intOf];omega
  .obtain rfl:j=g.lc:=by omega
   go_wp2_with fail
   go_ret2
   exact⟨r,rfl,by omega,(HX.out _ HB.out).2.2.2⟩
set_option maxHeartbeats 1000000 in
theorem Iv{w:World}{g:lI}(h:jw w g)(k:C6 g)(t:Nat)(ht:t<g.lt):ak 38 #[.agg #[.slice g.ac g.lc g.cc,U g.cB,.slice g.ad g.lt g.ct,U g.wk,U g.gy,U g.gn],U t] w fun e w'=>∃s:Nat,e=ae (.tuple #[U s,U 0])/\s<=16777216/\Below w.heap.size w w':=by
 obtain⟨W,hW⟩:=al (w.alloc (.cells #[.slice g.ac g.lc g.cc,U g.cB,.slice g.ad g.lt g.ct,U g.wk,U g.gy,U g.gn] 25));have HX:=jx h hW;obtain⟨bx,-,hg,-⟩:=HX.out W (bV _ _);have d:=pe hg k t 0 ht k.1.1;rw[show((0:Nat):Int)=0 from rfl] at d;have t8:=k.2.2.1.2;have HP:Hid (∀W1,Below W.heap.size W W1→∀j,j<t→ak 39 #[.agg #[.slice g.ac g.lc g.cc,U g.cB,.slice g.ad g.lt g.ct,U g.wk,U g.gy,U g.gn],U j] W1 fun e w'=>∃s:Nat,e=ae (.tuple #[U s,U 0])/\s<=2097152/\Below W1.heap.size W1 w'):=bU (fun W1 hb j hj=>rV (HX.out W1 hb).2.2.1 k j (by omega));clear h k hg;go_enter func38,ntmps38;go_wp2_with (first
  | (refine wpList_load_row rfl _ _ rfl w.heap.size rfl 25 #[.slice g.ac g.lc g.cc,U g.cB,.slice g.ad g.lt g.ct,U g.wk,U g.gy,U g.gn] (0,0) _ bx underlying25 rfl je ?_)
  | (go_at_call 53;(with_reducible refine d.mono ?_);rintro e w1 ⟨rfl,hb⟩;have H1:=bU hb;clear hb bx))
 go_loopw [6,7] (fun a i wr=>∃(j r:Nat),j<=t/\i=U j/\a=U r/\r<=j*2097152/\Hid (Below W.heap.size W wr)) (fun _ i _=>t-(intOf i).toNat)
 case atStart=>exact⟨0,0,by omega,rfl,rfl,by omega,H1⟩
 case round=>
  obtain⟨j,r,hj,rfl,rfl,hr,HB⟩:=hrel;obtain⟨bx,-,-,-⟩:=HX.out wr HB.out;by_cases hlt:j<t
  .have dP:=HP.out wr HB.out j hlt
   go_wp2_with (first
    | (refine wpList_load_row rfl _ _ rfl w.heap.size rfl 25 #[.slice g.ac g.lc g.cc,U g.cB,.slice g.ad g.lt g.ct,U g.wk,U g.gy,U g.gn] (0,0) _ bx underlying25 rfl je ?_)
    | (go_at_call 39;(with_reducible refine dP.mono ?_);rintro e w2 ⟨s,rfl,hs,hb⟩;have H2:=bU (fj HB.out hb);clear hb bx))
   go_roundw
   case rel=>exact⟨j+1,r+s,by omega,by go_num,by go_num,by omega,H2⟩
   case measure=>simp[intOf];omega
  .obtain rfl:j=t:=by omega
   go_wp2_with fail
   go_ret2
   exact⟨r,rfl,by omega,(HX.out _ HB.out).2.2.2⟩
theorem Ld{w:World}{g:lI}(h:jw w g)(k:¬C6 g)(t:Int):ak 38 #[.agg #[.slice g.ac g.lc g.cc,U g.cB,.slice g.ad g.lt g.ct,U g.wk,U g.gy,U g.gn],U t] w fun e w'=>e=ae (.tuple #[U 0,U 2])/\Below w.heap.size w w':=by
 obtain⟨W,hW⟩:=al (w.alloc (.cells #[.slice g.ac g.lc g.cc,U g.cB,.slice g.ad g.lt g.ct,U g.wk,U g.gy,U g.gn] 25));have HX:=jx h hW;obtain⟨bx,-,hg,-⟩:=HX.out W (bV _ _);have d:=Is hg k t 0;clear h k hg;go_enter func38,ntmps38;go_wp2_with (first
  | (refine wpList_load_row rfl _ _ rfl w.heap.size rfl 25 #[.slice g.ac g.lc g.cc,U g.cB,.slice g.ad g.lt g.ct,U g.wk,U g.gy,U g.gn] (0,0) _ bx underlying25 rfl je ?_)
  | (go_at_call 53;(with_reducible refine d.mono ?_);rintro e w1 ⟨rfl,hb⟩;have H1:=bU hb;clear hb bx))
 go_ret2
 exact⟨rfl,(HX.out _ H1.out).2.2.2⟩
end Rf
end Go.Proofs.YtgblmelijlgimaaGreatDoor
