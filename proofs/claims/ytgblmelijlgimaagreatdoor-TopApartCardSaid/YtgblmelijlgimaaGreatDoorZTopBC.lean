/- Parts of the proof of TopApart. -/
import Derived.Test.YtgblmelijlgimaaGreatDoorZTopBB
set_option maxRecDepth 100000
namespace Go.Proofs.YtgblmelijlgimaaGreatDoor
open Go.Proofs.Tryz
namespace Hp
open Go.RowKit Go.bZ Go.Gc Go.Cf Cn Go.Proofs.YtgblmelijlgimaaGreatDoor.Fd Sl Bd Ca Hd Tb Mk Sw Cy
open Ti (Tn)
theorem Tn.up{w:World}{p g:Nat}{cs:List Int}{m m':Int}(h:Tn w p g cs m)(h1:m<=m')(h2:m'<=1000000):Tn w p g cs m':=by
 obtain⟨f,last,a,b,c,d,e1,e2,e3,e4⟩:=h;exact⟨f,last,a,b,c,d,e1,Int.le_trans e2 h1,h2,e4⟩
theorem Hv.up{w:World}{C:cV}{E:Env}{c:cF}{ws:List Int}{N N':Int}{x:V}(h:Hv w C E c ws N x)(h1:N<=N')(h2:N'<=1000000):Hv w C E c ws N' x:=by
 obtain⟨s,G,hp,r,gn⟩:=h;have m:=hp.cp.co.mp;exact⟨s,G,⟨⟨⟨⟨m.cx,m.mem,m.tb,m.el,m.pn,m.cl,Tn.up m.tn h1 h2,m.gy,m.b0,m.b1,m.hl,m.de,m.d2⟩,hp.cp.co.ar,hp.cp.co.sb,hp.cp.co.rw⟩,hp.cp.cy⟩,hp.b,hp.pc,hp.cf⟩,r,gn⟩
theorem fF.up{w w':World}{C:cV}{E:Env}{c:cF}{ws cR:List Int}{N n m:Int}{x:V}(h:fF w w' C E c ws N x n cR)(h1:n<=m)(h2:N+m<=1000000):fF w w' C E c ws N x m cR:=⟨h.hv.up (by omega) h2,h.rg,h.ch⟩
theorem fF.bl{w w1 w':World}{C:cV}{E:Env}{c:cF}{ws cR:List Int}{N n:Int}{x:V}(L:Lk C E c)(h:fF w w1 C E c ws N x n cR)(hb:Below w1.heap.size w1 w'):fF w w' C E c ws N x n cR:=⟨h.hv.cA L hb,h.rg,h.ch.bl hb⟩
theorem Hv.phase{w:World}{C:cV}{E:Env}{c:cF}{ws:List Int}{N:Int}{x:V}(h:Hv w C E c ws N x):w.cell? (aj (E.A 26) 7)=some (af (aj (E.A 25)))/\∃ph:Nat,(ak 130 #[af (aj (E.A 25))] w fun e w'=>e=ae (ab ph)/\w=w')/\((ph:Int) != 0)=x.v.act:=by
 obtain⟨s,G,hp,r,-⟩:=h;refine⟨hp.cells.2.1,s.phase,tm hp.cp,?_⟩;rw[r.act,Bool.eq_iff_iff,bne_iff_ne,decide_eq_true_iff];omega
theorem yo{C:cV}{f:V→Bool}{x:V}(hf:f x=true):room C f x=x:=by
 have e:(if f x=false/\x.v.act=true then x.fin C else x)=x:=if_neg (fun h=>by rw[hf] at h;cases h.1);show(if f (if f x=false/\x.v.act=true then x.fin C else x)=false then((if f x=false/\x.v.act=true then x.fin C else x).begin C).fin C else(if f x=false/\x.v.act=true then x.fin C else x))=x;rw[e];exact if_neg (by rw[hf];simp)
theorem yp{C:cV}{f:V→Bool}{x:V}(hf:f x=false)(ha:x.v.act=true):room C f x=if f (x.fin C)=false then((x.fin C).begin C).fin C else x.fin C:=by
 have e:(if f x=false/\x.v.act=true then x.fin C else x)=x.fin C:=if_pos ⟨hf,ha⟩;show(if f (if f x=false/\x.v.act=true then x.fin C else x)=false then((if f x=false/\x.v.act=true then x.fin C else x).begin C).fin C else(if f x=false/\x.v.act=true then x.fin C else x))=_;rw[e]
theorem yt{C:cV}{f:V→Bool}{x:V}(hf:f x=false)(ha:x.v.act=false):room C f x=(x.begin C).fin C:=by
 have e:(if f x=false/\x.v.act=true then x.fin C else x)=x:=if_neg (fun h=>by rw[ha] at h;cases h.2);show(if f (if f x=false/\x.v.act=true then x.fin C else x)=false then((if f x=false/\x.v.act=true then x.fin C else x).begin C).fin C else(if f x=false/\x.v.act=true then x.fin C else x))=_;rw[e];exact if_pos hf
def P9(w0:World)(C:cV)(E:Env)(c:cF)(g:Nat)(args:Array Value)(f:V→Bool):Prop:=∀w ws N x,cu (Om E Hl) w0 w→Hv w C E c ws N x→ak g args w fun e w'=>e=ae (.bool (f x))/\Below w.heap.size w w'
set_option maxHeartbeats 1000000 in
theorem oV{w:World}{C:cV}{E:Env}{c:cF}{ws:List Int}{N:Int}{x:V}(L:Lk C E c)(h:Hv w C E c ws N x)(hN:N<1000000){f:V→Bool}(Q:P9 w C E c 178 #[af (aj (E.A 26))] f):ak 176 #[af (aj (E.A 26)),.func (.func 178) #[af (aj (E.A 26))] #[]] w fun e w'=>e=ae (.tuple #[])/\∃cR,fF w w' C E c ws N (room C f x) 1 cR:=by
 obtain⟨y7,ph,dP,hph⟩:=h.phase;have HI:Hid (∀w1 x1 fS n,fF w w1 C E c ws N x1 n fS→ak 178 #[af (aj (E.A 26))] w1 fun e w'=>e=ae (.bool (f x1))/\Hid (fF w w' C E c ws N x1 n fS)):=bU (fun w1 x1 fS n a=>(Q w1 fS _ x1 a.ch a.hv).mono (fun e w' ⟨e1,e2⟩=>⟨e1,bU (a.bl L e2)⟩));have H0:Hid (fF w w C E c ws N x 0 ws):=bU (fF.none L h (bV _ _));have HP:Hid (∀w1 x1 fS n,fF w w1 C E c ws N x1 n fS→w1.cell? (aj (E.A 26) 7)=some (af (aj (E.A 25)))/\∃ph:Nat,(ak 130 #[af (aj (E.A 25))] w1 fun e w'=>e=ae (ab ph)/\w1=w')/\((ph:Int) != 0)=x1.v.act):=bU (fun w1 x1 fS n a=>a.hv.phase);have HE:Hid (∀w1 x1 fS n,fF w w1 C E c ws N x1 n fS→x1.v.act=true→ak 226 #[af (aj (E.A 26))] w1 fun e w'=>e=ae (.tuple #[])/\∃jG,Hid (fF w w' C E c ws N (x1.fin C) n jG)):=bU (fun w1 x1 fS n a ha=>(yn L a.hv ha).mono (fun e w' ⟨e1,jG,e2⟩=>⟨e1,jG,bU (by have:=a.trans e2;rwa [Int.add_zero] at this)⟩));have HG:Hid (∀w1 x1 fS,fF w w1 C E c ws N x1 0 fS→x1.v.act=false→ak 227 #[af (aj (E.A 26))] w1 fun e w'=>e=ae (.tuple #[])/\Hid (fF w w' C E c ws N (x1.begin C) 1 fS)):=bU (fun w1 x1 fS a ha=>(rK L a.hv ha (by omega)).mono (fun e w' ⟨e1,e2⟩=>⟨e1,bU (by have:=a.trans e2;rwa [Int.zero_add] at this)⟩));have HU:Hid (∀w1 x1 fS,fF w w1 C E c ws N x1 0 fS→fF w w1 C E c ws N x1 1 fS):=bU (fun w1 x1 fS a=>a.up (by omega) (by omega));clear h Q dP y7 hph;have d0:=HI.out w x ws 0 H0.out;by_cases hf:f x=true
 .have er:=yo (C:=C) hf
  rw[hf] at d0;rw[er];have rM:=bU (fun w1 a=>HI.out w1 x ws 0 a);rw[hf] at rM;clear hf er HI L;go_enter func176,ntmps176;go_wp2_with (first
   | (go_at_call 178;(with_reducible refine d0.mono ?_);rintro e w1 ⟨rfl,hA⟩;clear d0;have d1:=rM.out w1 hA.out)
   | (go_at_call 178;(with_reducible refine d1.mono ?_);rintro e w2 ⟨rfl,Re⟩))
  go_end0
  exact⟨rfl,ws,HU.out _ _ _ Re.out⟩
 .have hf:f x=false:=by simpa using hf
  rw[hf] at d0;by_cases ha:x.v.act=true
  .have er:=yp (C:=C) hf ha
   rw[er];clear hf er;have p7:(x.fin C).v.act=false:=rfl;have qO:((x.fin C).begin C).v.act=true:=rfl;generalize hX:x.fin C=x1 at *;have O3:Hid (∀w1,fF w w1 C E c ws N x 0 ws→ak 226 #[af (aj (E.A 26))] w1 fun e w'=>e=ae (.tuple #[])/\∃jG,Hid (fF w w' C E c ws N x1 0 jG)):=bU (fun w1 a=>by rw[←hX];exact HE.out w1 x ws 0 a ha);by_cases pL:f x1=true
   .have rM:=bU (fun w1 fS a=>HI.out w1 x1 fS 0 a)
    rw[pL] at rM;have e2:¬(f x1=false):=by rw[pL];simp
    rw[if_neg e2];clear pL e2 HI HE HG hX L;go_enter func176,ntmps176;go_wp2_with (first
     | (go_at_call 178;(with_reducible refine d0.mono ?_);rintro e w1 ⟨rfl,hA⟩;clear d0;obtain⟨y7,ph,dP,e9⟩:=HP.out w1 x ws 0 hA.out;rw[ha] at e9;have dE:=O3.out w1 hA.out)
     | (go_at_call 130;(with_reducible refine dP.mono ?_);rintro e w2 ⟨rfl,rfl⟩)
     | (go_at_call 226;(with_reducible refine dE.mono ?_);rintro e w3 ⟨rfl,Ae,M6⟩;have d1:=rM.out w3 Ae M6.out)
     | (go_at_call 178;(with_reducible refine d1.mono ?_);rintro e w4 ⟨rfl,GL⟩))
    go_end0
    exact⟨rfl,Ae,HU.out _ _ _ GL.out⟩
   .have pL:f x1=false:=by simpa using pL
    have rM:=bU (fun w1 fS a=>HI.out w1 x1 fS 0 a);rw[pL] at rM;rw[if_pos pL];have Kq:=bU (fun w1 fS a=>HG.out w1 x1 fS a p7);generalize hXb:x1.begin C=xb at *;have M7:=bU (fun w1 fS a=>HE.out w1 xb fS 1 a qO);generalize xb.fin C=xf at *;clear hXb pL HI HE HG hX L;go_enter func176,ntmps176;go_wp2_with (first
     | (go_at_call 178;(with_reducible refine d0.mono ?_);rintro e w1 ⟨rfl,hA⟩;clear d0;obtain⟨y7,ph,dP,e9⟩:=HP.out w1 x ws 0 hA.out;rw[ha] at e9;have dE:=O3.out w1 hA.out)
     | (go_at_call 130;(with_reducible refine dP.mono ?_);rintro e w2 ⟨rfl,rfl⟩)
     | (go_at_call 226;(with_reducible refine dE.mono ?_);rintro e w3 ⟨rfl,Ae,M6⟩;clear dE;have d1:=rM.out w3 Ae M6.out)
     | (go_at_call 178;(with_reducible refine d1.mono ?_);rintro e w4 ⟨rfl,GL⟩;have d2:=Kq.out w4 Ae GL.out)
     | (go_at_call 227;(with_reducible refine d2.mono ?_);rintro e w5 ⟨rfl,M8⟩;have d3:=M7.out w5 Ae M8.out)
     | (go_at_call 226;(with_reducible refine d3.mono ?_);rintro e w6 ⟨rfl,LM,Ef⟩))
    go_end0
    exact⟨rfl,LM,Ef.out⟩
  .have ha:x.v.act=false:=by simpa using ha
   have er:=yt (C:=C) hf ha;rw[er];have rM:=bU (fun w1 a=>HI.out w1 x ws 0 a);rw[hf] at rM;have Kq:=bU (fun w1 a=>HG.out w1 x ws a ha);have qO:(x.begin C).v.act=true:=rfl;generalize hXb:x.begin C=xb at *;have M7:=bU (fun w1 fS a=>HE.out w1 xb fS 1 a qO);generalize xb.fin C=xf at *;clear hXb hf er HI HE HG L;go_enter func176,ntmps176;go_wp2_with (first
    | (go_at_call 178;(with_reducible refine d0.mono ?_);rintro e w1 ⟨rfl,hA⟩;clear d0;obtain⟨y7,ph,dP,e9⟩:=HP.out w1 x ws 0 hA.out;rw[ha] at e9;have d1:=rM.out w1 hA.out)
    | (go_at_call 130;(with_reducible refine dP.mono ?_);rintro e w2 ⟨rfl,rfl⟩)
    | (go_at_call 178;(with_reducible refine d1.mono ?_);rintro e w4 ⟨rfl,GL⟩;have d2:=Kq.out w4 GL.out)
    | (go_at_call 227;(with_reducible refine d2.mono ?_);rintro e w5 ⟨rfl,M8⟩;have d3:=M7.out w5 ws M8.out)
    | (go_at_call 226;(with_reducible refine d3.mono ?_);rintro e w6 ⟨rfl,LM,Ef⟩))
   go_end0
   exact⟨rfl,LM,Ef.out⟩
set_option maxHeartbeats 1000000 in
theorem yu{w:World}{C:cV}{E:Env}{c:cF}{ws:List Int}{N:Int}{x:V}(L:Lk C E c)(h:Hv w C E c ws N x)(hN:N<1000000){f:V→Bool}{q1 q2:Nat}(Q:P9 w C E c 177 #[af (aj q1),af (aj q2)] f):ak 176 #[af (aj (E.A 26)),.func (.func 177) #[] #[af (aj q1),af (aj q2)]] w fun e w'=>e=ae (.tuple #[])/\∃cR,fF w w' C E c ws N (room C f x) 1 cR:=by
 obtain⟨y7,ph,dP,hph⟩:=h.phase;have HI:Hid (∀w1 x1 fS n,fF w w1 C E c ws N x1 n fS→ak 177 #[af (aj q1),af (aj q2)] w1 fun e w'=>e=ae (.bool (f x1))/\Hid (fF w w' C E c ws N x1 n fS)):=bU (fun w1 x1 fS n a=>(Q w1 fS _ x1 a.ch a.hv).mono (fun e w' ⟨e1,e2⟩=>⟨e1,bU (a.bl L e2)⟩));have H0:Hid (fF w w C E c ws N x 0 ws):=bU (fF.none L h (bV _ _));have HP:Hid (∀w1 x1 fS n,fF w w1 C E c ws N x1 n fS→w1.cell? (aj (E.A 26) 7)=some (af (aj (E.A 25)))/\∃ph:Nat,(ak 130 #[af (aj (E.A 25))] w1 fun e w'=>e=ae (ab ph)/\w1=w')/\((ph:Int) != 0)=x1.v.act):=bU (fun w1 x1 fS n a=>a.hv.phase);have HE:Hid (∀w1 x1 fS n,fF w w1 C E c ws N x1 n fS→x1.v.act=true→ak 226 #[af (aj (E.A 26))] w1 fun e w'=>e=ae (.tuple #[])/\∃jG,Hid (fF w w' C E c ws N (x1.fin C) n jG)):=bU (fun w1 x1 fS n a ha=>(yn L a.hv ha).mono (fun e w' ⟨e1,jG,e2⟩=>⟨e1,jG,bU (by have:=a.trans e2;rwa [Int.add_zero] at this)⟩));have HG:Hid (∀w1 x1 fS,fF w w1 C E c ws N x1 0 fS→x1.v.act=false→ak 227 #[af (aj (E.A 26))] w1 fun e w'=>e=ae (.tuple #[])/\Hid (fF w w' C E c ws N (x1.begin C) 1 fS)):=bU (fun w1 x1 fS a ha=>(rK L a.hv ha (by omega)).mono (fun e w' ⟨e1,e2⟩=>⟨e1,bU (by have:=a.trans e2;rwa [Int.zero_add] at this)⟩));have HU:Hid (∀w1 x1 fS,fF w w1 C E c ws N x1 0 fS→fF w w1 C E c ws N x1 1 fS):=bU (fun w1 x1 fS a=>a.up (by omega) (by omega));clear h Q dP y7 hph;have d0:=HI.out w x ws 0 H0.out;by_cases hf:f x=true
 .have er:=yo (C:=C) hf
  rw[hf] at d0;rw[er];have rM:=bU (fun w1 a=>HI.out w1 x ws 0 a);rw[hf] at rM;clear hf er HI L;go_enter func176,ntmps176;go_wp2_with (first
   | (go_at_call 177;(with_reducible refine d0.mono ?_);rintro e w1 ⟨rfl,hA⟩;clear d0;have d1:=rM.out w1 hA.out)
   | (go_at_call 177;(with_reducible refine d1.mono ?_);rintro e w2 ⟨rfl,Re⟩))
  go_end0
  exact⟨rfl,ws,HU.out _ _ _ Re.out⟩
 .have hf:f x=false:=by simpa using hf
  rw[hf] at d0;by_cases ha:x.v.act=true
  .have er:=yp (C:=C) hf ha
   rw[er];clear hf er;have p7:(x.fin C).v.act=false:=rfl;have qO:((x.fin C).begin C).v.act=true:=rfl;generalize hX:x.fin C=x1 at *;have O3:Hid (∀w1,fF w w1 C E c ws N x 0 ws→ak 226 #[af (aj (E.A 26))] w1 fun e w'=>e=ae (.tuple #[])/\∃jG,Hid (fF w w' C E c ws N x1 0 jG)):=bU (fun w1 a=>by rw[←hX];exact HE.out w1 x ws 0 a ha);by_cases pL:f x1=true
   .have rM:=bU (fun w1 fS a=>HI.out w1 x1 fS 0 a)
    rw[pL] at rM;have e2:¬(f x1=false):=by rw[pL];simp
    rw[if_neg e2];clear pL e2 HI HE HG hX L;go_enter func176,ntmps176;go_wp2_with (first
     | (go_at_call 177;(with_reducible refine d0.mono ?_);rintro e w1 ⟨rfl,hA⟩;clear d0;obtain⟨y7,ph,dP,e9⟩:=HP.out w1 x ws 0 hA.out;rw[ha] at e9;have dE:=O3.out w1 hA.out)
     | (go_at_call 130;(with_reducible refine dP.mono ?_);rintro e w2 ⟨rfl,rfl⟩)
     | (go_at_call 226;(with_reducible refine dE.mono ?_);rintro e w3 ⟨rfl,Ae,M6⟩;have d1:=rM.out w3 Ae M6.out)
     | (go_at_call 177;(with_reducible refine d1.mono ?_);rintro e w4 ⟨rfl,GL⟩))
    go_end0
    exact⟨rfl,Ae,HU.out _ _ _ GL.out⟩
   .have pL:f x1=false:=by simpa using pL
    have rM:=bU (fun w1 fS a=>HI.out w1 x1 fS 0 a);rw[pL] at rM;rw[if_pos pL];have Kq:=bU (fun w1 fS a=>HG.out w1 x1 fS a p7);generalize hXb:x1.begin C=xb at *;have M7:=bU (fun w1 fS a=>HE.out w1 xb fS 1 a qO);generalize xb.fin C=xf at *;clear hXb pL HI HE HG hX L;go_enter func176,ntmps176;go_wp2_with (first
     | (go_at_call 177;(with_reducible refine d0.mono ?_);rintro e w1 ⟨rfl,hA⟩;clear d0;obtain⟨y7,ph,dP,e9⟩:=HP.out w1 x ws 0 hA.out;rw[ha] at e9;have dE:=O3.out w1 hA.out)
     | (go_at_call 130;(with_reducible refine dP.mono ?_);rintro e w2 ⟨rfl,rfl⟩)
     | (go_at_call 226;(with_reducible refine dE.mono ?_);rintro e w3 ⟨rfl,Ae,M6⟩;clear dE;have d1:=rM.out w3 Ae M6.out)
     | (go_at_call 177;(with_reducible refine d1.mono ?_);rintro e w4 ⟨rfl,GL⟩;have d2:=Kq.out w4 Ae GL.out)
     | (go_at_call 227;(with_reducible refine d2.mono ?_);rintro e w5 ⟨rfl,M8⟩;have d3:=M7.out w5 Ae M8.out)
     | (go_at_call 226;(with_reducible refine d3.mono ?_);rintro e w6 ⟨rfl,LM,Ef⟩))
    go_end0
    exact⟨rfl,LM,Ef.out⟩
  .have ha:x.v.act=false:=by simpa using ha
   have er:=yt (C:=C) hf ha;rw[er];have rM:=bU (fun w1 a=>HI.out w1 x ws 0 a);rw[hf] at rM;have Kq:=bU (fun w1 a=>HG.out w1 x ws a ha);have qO:(x.begin C).v.act=true:=rfl;generalize hXb:x.begin C=xb at *;have M7:=bU (fun w1 fS a=>HE.out w1 xb fS 1 a qO);generalize xb.fin C=xf at *;clear hXb hf er HI HE HG L;go_enter func176,ntmps176;go_wp2_with (first
    | (go_at_call 177;(with_reducible refine d0.mono ?_);rintro e w1 ⟨rfl,hA⟩;clear d0;obtain⟨y7,ph,dP,e9⟩:=HP.out w1 x ws 0 hA.out;rw[ha] at e9;have d1:=rM.out w1 hA.out)
    | (go_at_call 130;(with_reducible refine dP.mono ?_);rintro e w2 ⟨rfl,rfl⟩)
    | (go_at_call 177;(with_reducible refine d1.mono ?_);rintro e w4 ⟨rfl,GL⟩;have d2:=Kq.out w4 GL.out)
    | (go_at_call 227;(with_reducible refine d2.mono ?_);rintro e w5 ⟨rfl,M8⟩;have d3:=M7.out w5 ws M8.out)
    | (go_at_call 226;(with_reducible refine d3.mono ?_);rintro e w6 ⟨rfl,LM,Ef⟩))
   go_end0
   exact⟨rfl,LM,Ef.out⟩
end Hp
namespace Hp
open Go.RowKit Go.bZ Go.Gc Go.Cf Cn Go.Proofs.YtgblmelijlgimaaGreatDoor.Fd Sl Bd Ca Hd Tb Mk Sw Cy
def IS(w0 w:World)(C:cV)(E:Env)(c:cF)(ws:List Int)(N:Int)(x:V)(k:Nat):Prop:=∃cR s G,nB w C E c cR s N x.si x.cy x.v.act/\Rp C s G x/\Gn x/\Go.Gc.nu E.K s<=k/\nc E.bs E.tn ws cR/\cu (Om E Hl) w0 w
theorem IS.yw{w0 w:World}{C:cV}{E:Env}{c:cF}{ws:List Int}{N:Int}{x:V}{k:Nat}(h:IS w0 w C E c ws N x k):∃cR,fF w0 w C E c ws N x 0 cR:=by
 obtain⟨cR,s,G,a,b,d,-,f,g⟩:=h;exact⟨cR,⟨by rw[Int.add_zero];exact⟨s,G,a,b,d⟩,f,g⟩⟩
theorem GN{p:PP}(g:p.Good)(n:Int)(hn:1<=n):(lF p n).Good:=by
 unfold lF;rw[if_neg (by omega)];have h1:=g.GD;refine {g with P3:=?_,P4:=?_,CU:=yi.clip _,de:=?_}
 .show 0<=(if fB.clip (p.si+n)<p.tr then fB.clip (p.si+n) else 0)
  split
  .exact(yi.clip _).1
  .exact Int.le_refl 0
 .show(if fB.clip (p.si+n)<p.tr then fB.clip (p.si+n) else 0)<p.tr
  split
  .assumption
  .omega
 .show yi (LL p n)
  unfold LL
  split
  .exact yi.clip _
  .exact g.de
theorem GO{p:PP}(g:p.Good)(n:Int):(yv p n).Good:=by
 unfold yv;exact {g with de:=yi.clip _}
theorem IS.Rg{w0 w:World}{C:cV}{E:Env}{c:cF}{ws:List Int}{N:Int}{x:V}{k:Nat}(L:Lk C E c)(h:IS w0 w C E c ws N x k):(w.cell? (aj (E.A 26) 8)=some (af (aj (E.A 27)))/\w.cell? (aj (E.A 26) 7)=some (af (aj (E.A 25))))/\(∃d:Int,ak 239 #[af (aj (E.A 27))] w fun e w'=>e=ae (U d)/\w=w')/\ak 240 #[af (aj (E.A 25))] w fun e w1=>∃b,e=ae (.bool b)/\Hid (b=false→IS w0 w1 C E c ws N x k)/\(w1.cell? (aj (E.A 26) 8)=some (af (aj (E.A 27)))/\∃z:Int,w1.cell? (aj (E.A 26) 9)=some (U z))/\w1.frozen? (aj (E.A 26) 9)=false/\Hid (b=true→∀y:Int,ak 241 #[af (aj (E.A 27)),U 1] (w1.setCell (aj (E.A 26) 9) (U y)) fun e w2=>∃r:Int,e=ae (U r)/\Hid (∃k',k'<k/\IS w0 w2 C E c ws N x k')):=by
 obtain⟨cR,s,G,hp,r,gn,hk,rg,ch⟩:=h;obtain⟨p,p1,p2⟩:=hp.pc;refine⟨⟨hp.cells.2.2.1,hp.cells.2.1⟩,⟨p.de,CV w (E.A 27) p p1 p2.g.GD⟩,?_⟩;have hK:C.K.Ok:=by rw[L.cK];exact L.e.K
 have hd:ny E.K s G:=by rw[←L.cK];exact Rp.hd hK r
 refine(zY L.e hp.cp (Rp.uP L r) hd).mono ?_;rintro e w1 ⟨b,fS,s1,rfl,m,-⟩;have h1:=hp.gY L m.ch (by decide) m.cy;have r1:Rp C s1 G x:=r.same (by rw[L.cK];exact m.inv) (by rw[L.cK];exact m.vs);have Sk:cu (Om E Hl) w0 w1:=ch.trans (m.ch.up (Om.up (by decide)));obtain⟨-,-,z8,z,z1,z2⟩:=h1.cells;refine⟨b,rfl,bU (fun _=>⟨fS,s1,G,h1,r1,gn,aE m.le hk,rg.trans m.rg,Sk⟩),⟨z8,z,z1⟩,z2,bU (fun hb y=>?_)⟩;have h2:=h1.work L y;obtain⟨q,q1,q2⟩:=h2.pc;refine(GM _ (E.A 27) q 1 q1 q2.g ⟨by omega,by omega⟩).mono ?_;rintro e w2 ⟨rfl,q3,q4⟩;have h3:=h2.Ko L q4 q3 (C:=C) (N9:=x.si) (Oa:=x.cy) (Oc:=x.v.act) ⟨GO q2.g 1,q2.tr,q2.si,q2.cy,q2.ac⟩;exact⟨_,rfl,bU ⟨Go.Gc.nu E.K s1,aB (m.lt hb) hk,fS,s1,G,h3,r1,gn,av _,rg.trans m.rg,(Sk.trans ((qJ 9 _).up (mx (by decide)))).trans ((wi q4).up (mx (by decide)))⟩⟩
def pT(C:cV)(x:V)(n:Int):Int:=if jj (x.si+n)<C.ua then 0 else if x.v.act then 2 else 1
def j8(C:cV)(x:V)(n:Int):V:={x with si:=if jj (x.si+n)<C.ua then jj (x.si+n) else 0}
set_option maxHeartbeats 1000000 in
theorem GP{w:World}{C:cV}{E:Env}{c:cF}{ws:List Int}{N:Int}{x:V}(L:Lk C E c)(h:Hv w C E c ws N x)(n:Nat)(hn:1<=n)(sh:n<=64)(hN:N<1000000):ak 184 #[af (aj (E.A 26)),U n] w fun e w'=>e=ae (.tuple #[])/\∃cR,fF w w' C E c ws N (iO C x n) 1 cR:=by
 obtain⟨s,G,hp,r,gn⟩:=h;obtain⟨p,p1,p2⟩:=hp.pc;have c8:=hp.cells.2.2.1;have dA:ak 238 #[af (aj (E.A 27)),U n] w fun e w'=>∃z:Int,e=ae (.tuple #[ab (pT C x n),U z])/\Hid (IS w w' C E c ws N (j8 C x n) (Go.Gc.nu E.K s)):=by
  refine(GJ w (E.A 27) p n p1 p2.g (by omega)).mono ?_;rintro e w' ⟨rfl,q1,q2⟩;have ed:pS p n=pT C x n:=by
   unfold pS pT;rw[if_neg (by omega),nC,p2.si,p2.tr,p2.ac]
  have es:(lF p n).si=(j8 C x n).si:=by
   unfold lF j8;rw[if_neg (by omega)];show(if fB.clip (p.si+n)<p.tr then fB.clip (p.si+n) else 0)=_;rw[nC,p2.si,p2.tr]
  have ea:(lF p n).tr=p.tr/\(lF p n).cy=p.cy/\(lF p n).ac=p.ac:=by unfold lF;rw[if_neg (by omega)];exact⟨rfl,rfl,rfl⟩
  have h1:=hp.Ko L q2 q1 (C:=C) (N9:=(j8 C x n).si) (Oa:=x.cy) (Oc:=x.v.act) ⟨GN p2.g n (by omega),ea.1.trans p2.tr,es,ea.2.1.trans p2.cy,ea.2.2.trans p2.ac⟩;refine⟨_,by rw[ed],bU ⟨ws,s,G,h1,r.OV ?_,gn,av _,nc.refl _ _ _,(wi q2).up (mx (by decide))⟩⟩
  split
  .exact wg _
  .exact⟨Int.le_refl 0,by decide⟩
 have HR:=bU (fun wr k (a:IS w wr C E c ws N (j8 C x n) k)=>a.Rg L);have HF:Hid (∀wr k,IS w wr C E c ws N (j8 C x n) k→(pT C x n=0→∃cR,fF w wr C E c ws N (iO C x n) 1 cR)/\(pT C x n=1→ak 227 #[af (aj (E.A 26))] wr fun e w'=>e=ae (.tuple #[])/\∃cR,fF w w' C E c ws N (iO C x n) 1 cR)/\(pT C x n=2→ak 226 #[af (aj (E.A 26))] wr fun e w'=>e=ae (.tuple #[])/\∃cR,fF w w' C E c ws N (iO C x n) 1 cR)):=bU (fun wr k a=>by
  obtain⟨fS,a1⟩:=a.yw;unfold pT iO;by_cases ct:jj (x.si+n)<C.ua
  .have e0:j8 C x n={x with si:=jj (x.si+n)}:=by unfold j8;rw[if_pos ct]
   rw[if_pos ct,if_pos ct,←e0];exact⟨fun _=>⟨fS,a1.up (by omega) (by omega)⟩,fun h=>absurd h (by decide),fun h=>absurd h (by decide)⟩
  .have e0:j8 C x n={x with si:=0}:=by unfold j8;rw[if_neg ct]
   rw[if_neg ct,if_neg ct,←e0];have Oe:=a1.hv;by_cases ha:x.v.act=true
   .rw[if_pos ha,if_pos ha]
    refine⟨fun h=>absurd h (by decide),fun h=>absurd h (by decide),fun _=>(yn L Oe (by rw[e0];exact ha)).mono ?_⟩;rintro e w' ⟨e1,jG,e2⟩;exact⟨e1,jG,(a1.trans e2).up (by omega) (by omega)⟩
   .rw[if_neg ha,if_neg ha]
    refine⟨fun h=>absurd h (by decide),fun _=>(rK L Oe (by rw[e0];simpa using ha) (by omega)).mono ?_,fun h=>absurd h (by decide)⟩;rintro e w' ⟨e1,e2⟩;exact⟨e1,fS,(a1.trans e2).up (by omega) (by omega)⟩)
 have hd:pT C x n=0\/pT C x n=1\/pT C x n=2:=by unfold pT;split;exact .inl rfl;split;exact .inr (.inr rfl);exact .inr (.inl rfl)
 clear hp r gn p1 p2 L;generalize hX:iO C x n=xf at *;generalize hY:j8 C x n=xs at *;generalize hD:pT C x n=due at *;clear hX hY hD;go_enter func184,ntmps184;go_wp2_with (go_at_call 238;(with_reducible refine dA.mono ?_);rintro e w1 ⟨z,rfl,hP⟩)
 clear dA c8
 go_loopg [15] (Go.Gc.nu E.K s) (fun kx v wr=>v=v/\Hid (IS w wr C E c ws N xs kx))
 case atStart=>exact⟨rfl,hP⟩
 case round=>
  obtain⟨-,hQ⟩:=hrel;obtain⟨⟨y8,y7⟩,⟨d,dD⟩,dH⟩:=HR.out wr gk hQ.out;clear HR;rcases hd with rfl|rfl|rfl
  .by_cases xe:0<d
   .have e1:decide (0<d)=true:=aw xe
    go_wp2_with (first
     | (go_at_call 239;(with_reducible refine dD.mono ?_);rintro e w2 ⟨rfl,rfl⟩)
     | (go_at_call 240;(with_reducible refine dH.mono ?_);rintro e w2 ⟨b,rfl,MM,⟨z8,zz,z1⟩,z2,dj⟩;cases b))
    .have hF:=HF.out w2 gk (MM.out trivial)
     go_wp2_with fail
     go_end0
     exact⟨rfl,hF.1 (by first|trivial|rfl)⟩
    .have DP:=bU (dj.out trivial)
     go_wp2_with (go_at_call 241;(with_reducible refine(DP.out _).mono ?_);rintro e w3 ⟨rr,rfl,hW⟩)
     obtain⟨k',k1,k2⟩:=hW.out
     go_roundg k'
     case measure=>exact k1
     case rel=>exact⟨by first|trivial|rfl,bU k2⟩
   .have e1:decide (0<d)=false:=az xe
    have hF:=HF.out wr gk hQ.out;go_wp2_with (go_at_call 239;(with_reducible refine dD.mono ?_);rintro e w2 ⟨rfl,rfl⟩)
    go_end0
    exact⟨rfl,hF.1 (by first|trivial|rfl)⟩
  .by_cases xe:0<d
   .have e1:decide (0<d)=true:=aw xe
    go_wp2_with (first
     | (go_at_call 239;(with_reducible refine dD.mono ?_);rintro e w2 ⟨rfl,rfl⟩)
     | (go_at_call 240;(with_reducible refine dH.mono ?_);rintro e w2 ⟨b,rfl,MM,⟨z8,zz,z1⟩,z2,dj⟩;cases b))
    .have hF:=HF.out w2 gk (MM.out trivial)
     have dB:=hF.2.1 (by first|trivial|rfl);go_wp2_with (go_at_call 227;(with_reducible refine dB.mono ?_);rintro e w3 ⟨rfl,hZ⟩)
     go_end0
     exact⟨rfl,hZ⟩
    .have DP:=bU (dj.out trivial)
     go_wp2_with (go_at_call 241;(with_reducible refine(DP.out _).mono ?_);rintro e w3 ⟨rr,rfl,hW⟩)
     obtain⟨k',k1,k2⟩:=hW.out
     go_roundg k'
     case measure=>exact k1
     case rel=>exact⟨by first|trivial|rfl,bU k2⟩
   .have e1:decide (0<d)=false:=az xe
    have hF:=HF.out wr gk hQ.out;have dB:=hF.2.1 (by first|trivial|rfl);go_wp2_with (first
     | (go_at_call 239;(with_reducible refine dD.mono ?_);rintro e w2 ⟨rfl,rfl⟩)
     | (go_at_call 227;(with_reducible refine dB.mono ?_);rintro e w3 ⟨rfl,hZ⟩))
    go_end0
    exact⟨rfl,hZ⟩
  .by_cases xe:0<d
   .have e1:decide (0<d)=true:=aw xe
    go_wp2_with (first
     | (go_at_call 239;(with_reducible refine dD.mono ?_);rintro e w2 ⟨rfl,rfl⟩)
     | (go_at_call 240;(with_reducible refine dH.mono ?_);rintro e w2 ⟨b,rfl,MM,⟨z8,zz,z1⟩,z2,dj⟩;cases b))
    .have hF:=HF.out w2 gk (MM.out trivial)
     have dB:=hF.2.2 (by first|trivial|rfl);go_wp2_with (go_at_call 226;(with_reducible refine dB.mono ?_);rintro e w3 ⟨rfl,hZ⟩)
     go_end0
     exact⟨rfl,hZ⟩
    .have DP:=bU (dj.out trivial)
     go_wp2_with (go_at_call 241;(with_reducible refine(DP.out _).mono ?_);rintro e w3 ⟨rr,rfl,hW⟩)
     obtain⟨k',k1,k2⟩:=hW.out
     go_roundg k'
     case measure=>exact k1
     case rel=>exact⟨by first|trivial|rfl,bU k2⟩
   .have e1:decide (0<d)=false:=az xe
    have hF:=HF.out wr gk hQ.out;have dB:=hF.2.2 (by first|trivial|rfl);go_wp2_with (first
     | (go_at_call 239;(with_reducible refine dD.mono ?_);rintro e w2 ⟨rfl,rfl⟩)
     | (go_at_call 226;(with_reducible refine dB.mono ?_);rintro e w3 ⟨rfl,hZ⟩))
    go_end0
    exact⟨rfl,hZ⟩
end Hp
namespace Hp
open Go.RowKit Go.bZ Go.Gc Go.Cf Cn Go.Proofs.YtgblmelijlgimaaGreatDoor.Fd Sl Bd Ca Hd Tb Mk Sw Cy
theorem nB.names{w:World}{C:cV}{E:Env}{c:cF}{ws:List Int}{s:St}{N si cy:Int}{ac:Bool}(L:Lk C E c)(h:nB w C E c ws s N si cy ac):(∀i,i<30→E.A i<w.heap.size)/\E.mp<w.heap.size/\E.mw<w.heap.size/\E.mb<w.heap.size/\0<w.heap.size/\2<w.heap.size:=by
 obtain⟨n1,n2⟩:=h.cp.co.mp.names;obtain⟨z,b⟩:=h.b;obtain⟨z2,b2⟩:=h.cp.cy;obtain⟨p,p1,p2⟩:=h.pc;obtain⟨l1,l2⟩:=h.cf.lt L.k;have a:=h.cp.co.ar;refine⟨fun i hi=>?_,n2⟩;by_cases c1:i<22/\(i<3\/5<i)
 .exact n1 i c1.1 c1.2
 .have:i=3\/i=4\/i=5\/i=22\/i=23\/i=24\/i=25\/i=26\/i=27\/i=28\/i=29:=by omega
  rcases this with rfl|rfl|rfl|rfl|rfl|rfl|rfl|rfl|rfl|rfl|rfl
  .exact a.b0.lt
  .exact a.rw.lt.1
  .exact a.rw.lt.2
  .exact h.cp.co.sb.lt
  .exact h.cp.co.rw.lt.1
  .exact h.cp.co.rw.lt.2
  .exact b2.lt
  .exact b.lt
  .exact(aD.1 p1).1
  .rw[←L.gc];exact l1
  .rw[←L.gt];exact l2
theorem nB.tk{S:Nat→Prop}{w w':World}{C:cV}{E:Env}{c:cF}{ws:List Int}{s:St}{N si cy:Int}{ac:Bool}(L:Lk C E c)(h:nB w C E c ws s N si cy ac)(hc:cu S w w')(no:∀i,i<30→¬S (E.A i))(f:¬S E.mp/\¬S E.mw/\¬S E.mb/\¬S 0/\¬S 2):nB w' C E c ws s N si cy ac:=by
 obtain⟨z,b⟩:=h.b;obtain⟨z2,b2⟩:=h.cp.cy;obtain⟨p,p1,p2⟩:=h.pc;have g:=h.cp.co;exact⟨⟨⟨g.mp.tk hc (fun i h1 _=>no i (by omega)) f,g.ar.bY hc (no 3 (by omega)) (no 4 (by omega)) (no 5 (by omega)),g.sb.bY hc (no 22 (by omega)),g.rw.bY hc (no 23 (by omega)) (no 24 (by omega))⟩,z2,b2.bY hc (no 25 (by omega))⟩,⟨z,b.bY hc (no 26 (by omega))⟩,⟨p,Pc.rJ p1 hc (no 27 (by omega)),p2⟩,h.cf.bY L.k hc (by rw[L.gc];exact no 28 (by omega)) (by rw[L.gt];exact no 29 (by omega))⟩
theorem Hv.iv{w0 w w':World}{C:cV}{E:Env}{c:cF}{ws uO:List Int}{N N0:Int}{x x0:V}(L:Lk C E c)(h0:Hv w0 C E c uO N0 x0)(h:Hv w C E c ws N x){B:Nat}(hb:Below B w w')(hB:w0.heap.size<=B):Hv w' C E c ws N x:=by
 obtain⟨s0,G0,I5,-,-⟩:=h0;obtain⟨n1,n2,n3,n4,n5,n6⟩:=I5.names L;obtain⟨s,G,hp,r,gn⟩:=h;exact⟨s,G,hp.tk L (mh hb) (fun i hi=>by have:=n1 i hi;omega) ⟨by omega,by omega,by omega,by omega,by omega⟩,r,gn⟩
theorem fF.iv{w w1 w':World}{C:cV}{E:Env}{c:cF}{ws cR uO:List Int}{N N0 n:Int}{x x0:V}(L:Lk C E c)(h0:Hv w C E c uO N0 x0)(a:fF w w1 C E c ws N x n cR)(hb:Below w.heap.size w1 w'):fF w w' C E c ws N x n cR:=
 ⟨h0.iv L a.hv hb (av _),a.rg,a.ch.tr (mh hb) (fun k h1 h2=>by have h2:w.heap.size<=k:=h2;omega)⟩
theorem iF{w:World}{C:cV}{E:Env}{c:cF}{ws:List Int}{N:Int}{x:V}(L:Lk C E c)(h:Hv w C E c ws N x){k:Nat}(hk:w.heap.size<=k):¬Om E Hl k:=by
 obtain⟨s,G,hp,-,-⟩:=h;obtain⟨n1,n2,n3,n4,n5,n6⟩:=hp.names L;rintro (rfl|⟨i,hi,rfl⟩)
 .omega
 .have hi:=List.mem_range.1 hi
  have:=n1 i (by omega);omega
def cX(s:Sn):Array Value:=#[U s.e,aa s.h,aa s.w,U s.addr,U s.used,U s.since,U s.gY,.bool s.ac]
def eY:Array Value:=#[U 0,aa 0,aa 0,U 0,U 0,U 0,U 0,.bool false]
theorem cG:(prog.info? 38).map (·.size)=some 8:=by kernel_rfl
theorem eE(s:Sn):(cX s).all (·.oneCell')=true:=by
 unfold cX;simp;exact⟨rfl,rfl,rfl,rfl,rfl,rfl,rfl,rfl⟩
def sB(q:iJ):Array Value:=#[ab q.code,aa q.h,U q.a,U q.b,aa q.x]
theorem gG(w:World)(q:iJ):Hid (∀W,(w.alloc (.cells (sB q) 54)).alloc (.cells eY 38)=W→Below w.heap.size w W/\cj W w.heap.size (sB q) 54/\cj W (w.heap.size+1) eY 38):=bU (fun W hW=>by
 subst hW;exact⟨bA (bA (bV w.heap.size w) (av _) _) (av _) _,cj.gR w _ _ _ _,cj.jf w _ _ _ _⟩)
theorem fD(w:World)(z:Int):ak 75 #[U z] w fun e w'=>e=ae (.agg (cX (Sn.told z)))/\Below w.heap.size w w':=by
 have HB:Hid (Below w.heap.size w ((w.alloc (.cells eY 38)).setRow w.heap.size (cX (Sn.told z)))/\cj ((w.alloc (.cells eY 38)).setRow w.heap.size (cX (Sn.told z))) w.heap.size (cX (Sn.told z)) 38):=bU ⟨((cu.refl (fun _=>False) w).alloc _ |>.row (p:=w.heap.size) (.inr (av _)) _).below (av _) (fun _ h=>h.elim),(cj.new w eY 38).setRow _⟩;go_enter func75,ntmps75;go_wp2_with (refine wpList_store_row rfl _ _ _ rfl w.heap.size (cX (Sn.told z)) rfl rfl 38 eY (cj.new w eY 38) cG rfl (eE _) ?_)
 refine bodyPost_ret (results_cell_row rfl _ _ w.heap.size 38 (cX (Sn.told z)) (0,0) _ rfl HB.out.2 underlying38 rfl cG) rfl ?_;exact⟨rfl,HB.out.1⟩
end Hp
end Go.Proofs.YtgblmelijlgimaaGreatDoor
