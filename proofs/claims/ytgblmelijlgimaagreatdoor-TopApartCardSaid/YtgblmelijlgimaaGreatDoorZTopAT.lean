/- Parts of the proof of TopApart. -/
import Derived.Test.YtgblmelijlgimaaGreatDoorZTopAQ
import Derived.Deep.DeepCutAuto
set_option maxRecDepth 100000
namespace Go.Proofs.YtgblmelijlgimaaGreatDoor
open Go.Proofs.Tryz
namespace Mk
open Go.RowKit Go.bZ Go.Gc Sl Mm Hd Bd Gy Bt Tb Pn
open Ti (Tn)
structure PX(w wx:World)(E:Env)(ws:List Int)(s:St)(N:Int)(bx v u k:Nat):Prop where
 mp:cY wx E ws s N
 ch:Below w.heap.size w wx
 bk:cj wx bx #[U k,U v,U u] 195
 lo:w.heap.size<=bx
structure QR(w wx:World)(E:Env)(ws:List Int)(t:St)(N:Int)(bx v u k:Nat):Prop where
 mp:cY wx E ws t N
 ch:cu (Of E.A [12,13,14,15,16,17,18,19]) w wx
 bk:cj wx bx #[U k,U v,U u] 195
 lo:w.heap.size<=bx
theorem jO{K:eV}{M:Nat→Int}{x v u:Nat}(h:cU K M x=some (v,u)):refs K M x=v:=by unfold refs;rw[h]
set_option maxHeartbeats 4000000 in
theorem J6{w:World}{E:Env}(hE:E.Ok){ws:List Int}{s:St}{N:Int}(h:cY w E ws s N){i v u:Nat}{k:Hand}(he:s.hs[i]?=some k)(his:k.is=true)(hx:k.slot<E.n)(hf:k.field<=63)(hh:cU E.K s.M k.slot=some (v,u))(hr:∀j,j<v→0<=s.M (addrOf E.pw E.rs k.slot+1+j)/\s.M (addrOf E.pw E.rs k.slot+1+j)<=E.n)(hq:s.q.length<=E.dv):
  ak 217 #[af (aj (E.A 20)),af (aj (E.A 21) (i*3))] w fun e w'=>e=ae (.bool true)/\cY w' E ws (scan E.K s i k) N/\cu (Of E.A [12,13,14,15,16,17,18,19,21]) w w':=by
 obtain⟨kc,r,X,ob⟩:=me hE h hx hh;have hrv:=jO hh;have v63:=ob.jU.2;obtain⟨tv,er,hto,dRf⟩:∃tv er:Int,(((er=0/\tv= -1)\/(er=110/\tv=0))/\iW E.K s.M k.slot k.field=none\/∃y:Nat,er=0/\tv=y/\y<E.n/\iW E.K s.M k.slot k.field=some y)/\∀W,Below w.heap.size w W→ak 187 #[af (aj (E.A 0)),U k.slot,U k.field] W fun e w'=>e=ae (.tuple #[U tv,U er])/\Below W.heap.size W w':=by
  by_cases hv:k.field<v
  .have hin:=ob.IP h.cx
   have hfit:=ob.fit;have hin:addrOf E.pw E.rs k.slot+r.size<=E.pg*E.pw:=hin;have hm:at' E.bs E.tn ws (addrOf E.pw E.rs k.slot+1+k.field)=s.M (addrOf E.pw E.rs k.slot+1+k.field):=(h.mem _ (by omega)).symm;obtain⟨z0,z1⟩:=hr k.field hv;refine⟨s.M (addrOf E.pw E.rs k.slot+1+k.field)-1,0,?_,fun W hW=>?_⟩
   .by_cases hz:s.M (addrOf E.pw E.rs k.slot+1+k.field)=0
    .left
     refine⟨.inl ⟨rfl,by omega⟩,?_⟩;unfold iW;rw[if_neg];rintro ⟨-,c,-⟩;have c:0<s.M (addrOf E.pw E.rs k.slot+1+k.field):=c;omega
    .right
     refine⟨(s.M (addrOf E.pw E.rs k.slot+1+k.field)-1).toNat,rfl,by omega,by omega,?_⟩;unfold iW;rw[if_pos ⟨by rw[hrv];exact hv,show 0<s.M (addrOf E.pw E.rs k.slot+1+k.field) by omega,show s.M (addrOf E.pw E.rs k.slot+1+k.field)<=E.n from z1⟩]
     rfl
   .rw[←hm]
    exact qX (h.cx.cA hW) ob hv (by rw[show at' E.c.bs E.c.tn ws (addrOf E.c.pw E.c.rs k.slot+1+k.field)=at' E.bs E.tn ws (addrOf E.pw E.rs k.slot+1+k.field) from rfl,hm];exact z1)
  .refine⟨0,110,.inl ⟨.inr ⟨rfl,rfl⟩,?_⟩,fun W hW=>My (h.cx.cA hW) ob (by omega)⟩
   unfold iW;rw[if_neg];rintro ⟨c,-⟩;rw[hrv] at c;exact hv c
 have DR:=bU dRf;have DH:Hid (∀W,Below w.heap.size w W→ak 97 #[af (aj (E.A 0)),U k.slot] W fun e w'=>e=ae (.tuple #[.agg #[U kc,U v,U u],U 0])/\Below W.heap.size W w'):=bU (fun W hW=>mJ (h.cx.cA hW) ob);have HC:Hid (∀W,Below w.heap.size w W→W.cell? (aj (E.A 20))=some (af (aj (E.A 0)))/\W.cell? (aj (E.A 21) (i*3))=some (U k.slot)/\W.cell? (aj (E.A 21) (i*3+1))=some (U k.field)):=bU (fun W hW=>by
  have hW:=h.cA hW;obtain⟨a1,a2,-⟩:=hW.fu he;exact⟨hW.ptr.1,a1,a2⟩)
 have DA:Hid (ak 97 #[af (aj (E.A 0)),U k.slot] (w.alloc (.cells #[U 0,U 0,U 0] 195)).drew fun e w2=>e=ae (.tuple #[.agg #[U kc,U v,U u],U 0])/\(w2.cell? (aj (E.A 20))=some (af (aj (E.A 0)))/\w2.cell? (aj (E.A 21) (i*3))=some (U k.slot))/\(w2.cell? (aj w.heap.size)=some (U 0)/\w2.cell? (aj w.heap.size 1)=some (U 0)/\w2.cell? (aj w.heap.size 2)=some (U 0))/\(w2.frozen? (aj w.heap.size)=false/\w2.frozen? (aj w.heap.size 1)=false/\w2.frozen? (aj w.heap.size 2)=false)/\Hid (PX w (((w2.setCell (aj w.heap.size) (U kc)).setCell (aj w.heap.size 1) (U v)).setCell (aj w.heap.size 2) (U u)) E ws s N w.heap.size v u kc)):=bU (by
  have hA:Below w.heap.size w (w.alloc (.cells #[U 0,U 0,U 0] 195)).drew:=bd (bA (bV _ _) (av _) _);refine(DH.out _ hA).mono ?_;rintro e w2 ⟨rfl,hb⟩;have h2:=fj hA hb;obtain⟨y0,y1,-⟩:=HC.out w2 h2;have B:cj w2 w.heap.size #[U 0,U 0,U 0] 195:=((cj.new w _ _).drew).cA hb;have h3:Below w.heap.size w (((w2.setCell (aj w.heap.size) (U kc)).setCell (aj w.heap.size 1) (U v)).setCell (aj w.heap.size 2) (U u)):=((h2.setCell (by exact av _) _).setCell (by exact av _) _).setCell (by exact av _) _;exact⟨rfl,⟨y0,y1⟩,⟨B.cell 0,B.cell 1,B.cell 2⟩,⟨B.cE 0,B.cE 1,B.cE 2⟩,bU ⟨h.cA h3,h3,((B.set 0 _).set 1 _).set 2 _,av _⟩⟩)
 have DB:Hid (ak 97 #[af (aj (E.A 0)),U k.slot] w.drew fun e w2=>e=ae (.tuple #[.agg #[U kc,U v,U u],U 0])/\(w2.cell? (aj (E.A 20))=some (af (aj (E.A 0)))/\w2.cell? (aj (E.A 21) (i*3))=some (U k.slot))/\Hid (PX w (w2.alloc (.cells #[U kc,U v,U u] 195)) E ws s N w2.heap.size v u kc)):=bU (by
  refine(DH.out w.drew (bd (bV _ _))).mono ?_;rintro e w2 ⟨rfl,hb⟩;have h2:=fj (bd (bV w.heap.size w)) hb;obtain⟨y0,y1,-⟩:=HC.out w2 h2;have h3:Below w.heap.size w (w2.alloc (.cells #[U kc,U v,U u] 195)):=bA h2 (av _) _;exact⟨rfl,⟨y0,y1⟩,bU ⟨h.cA h3,h3,cj.new w2 _ _,h2.size⟩⟩)
 obtain⟨c0,cs,cf⟩:=HC.out w (bV _ _);go_enter func217,ntmps217
 go_upto_region 1 with fail
 go_cut [5,6] (fun p e wx=>e=U 0/\∃bx,p=af (aj bx)/\Hid (PX w wx E ws s N bx v u kc))
 case first=>
  go_wp2_with fail;go_region_held3 (fun W=>W.cell? (aj (E.A 20))=some (af (aj (E.A 0)))/\W.cell? (aj (E.A 21) (i*3))=some (U k.slot)) (first|exact⟨y0,y1⟩|exact⟨hS.out.mp.ptr.1,(hS.out.mp.fu he).1⟩|go_keep)
   (first|(go_at_call 97;(with_reducible refine DA.out.mono ?_);rintro e w2 ⟨rfl,⟨y0,y1⟩,⟨z0,z1,z2⟩,⟨f0,f1,f2⟩,hS⟩)|(go_at_call 97;(with_reducible refine DB.out.mono ?_);rintro e w2 ⟨rfl,⟨y0,y1⟩,hS⟩))
  all_goals (go_wp2_with fail;go_meet;exact⟨rfl,_,rfl,hS⟩)
 case rest=>
  obtain⟨rfl,bx,rfl,hS⟩:=hcut;rename_i ON;refine ON _ _ ?_;clear ON;apply wp_seq_k;intro _ _
  go_cut [] (fun wx=>Hid (QR w wx E ws (gS E.K s (iW E.K s.M k.slot k.field)) N bx v u kc))
  case first=>
   obtain⟨d0,d1,d2⟩:=HC.out wc hS.out.ch;have OA:Hid (∀W,Below wc.heap.size wc W→W.cell? (aj (E.A 20))=some (af (aj (E.A 0)))/\W.cell? (aj (E.A 21) (i*3))=some (U k.slot)/\W.cell? (aj (E.A 21) (i*3+1))=some (U k.field)):=bU (fun W hW=>HC.out W (fj hS.out.ch hW));have J7:Hid (∀W,Below wc.heap.size wc W→ak 187 #[af (aj (E.A 0)),U k.slot,U k.field] W fun e w'=>e=ae (.tuple #[U tv,U er])/\Below W.heap.size W w'):=bU (fun W hW=>DR.out W (fj hS.out.ch hW));have HSt:Hid (∀W,Below wc.heap.size wc W→PX w W E ws s N bx v u kc):=bU (fun W hW=>⟨hS.out.mp.cA hW,fj hS.out.ch hW,hS.out.bk.cA hW,hS.out.lo⟩);have HSh:Hid (∀W y,Below wc.heap.size wc W→iW E.K s.M k.slot k.field=some y→y<E.n→ak 261 #[af (aj (E.A 20)),U y] W fun e w'=>e=ae (.tuple #[])/\Hid (QR w w' E ws (gS E.K s (iW E.K s.M k.slot k.field)) N bx v u kc)):=bU (fun W y hW hy hyn=>by
    have q:=HSt.out W hW;refine(ox hE q.mp hyn hq).mono ?_;rintro e w' ⟨rfl,hp,hc⟩;refine⟨rfl,bU ⟨by rw[hy];exact hp,(cu.cD q.ch).trans hc,q.bk.bY hc (fun hb=>h.lt q.lo (Of.up (by decide) _ hb)),q.lo⟩⟩)
   have HNo:Hid (∀W,Below wc.heap.size wc W→iW E.K s.M k.slot k.field=none→Hid (QR w W E ws (gS E.K s (iW E.K s.M k.slot k.field)) N bx v u kc)):=bU (fun W hW hy=>by
    have q:=HSt.out W hW;exact bU ⟨by rw[hy];exact q.mp,cu.cD q.ch,q.bk,q.lo⟩)
   clear DR HC DH DA DB HSt;rcases hto with⟨⟨rfl,rfl⟩|⟨rfl,rfl⟩,hno⟩|⟨y,rfl,rfl,hyn,hyf⟩
   .go_wp2_with fail
    go_region_held3 (fun W=>W.cell? (aj (E.A 20))=some (af (aj (E.A 0)))/\W.cell? (aj (E.A 21) (i*3))=some (U k.slot)/\W.cell? (aj (E.A 21) (i*3+1))=some (U k.field)) (first|exact⟨y0,y1,y2⟩|go_keep)
     ((go_at_call 187;(with_reducible refine(J7.out _ (bd (bV _ _))).mono ?_);rintro e w2 ⟨rfl,cN⟩;obtain⟨y0,y1,y2⟩:=OA.out w2 (fj (bd (bV _ _)) cN);have kM:=bU (fj (bd (bV _ _)) cN);clear cN))
    all_goals (go_wp2_with fail;go_meet;exact HNo.out _ kM.out hno)
   .go_wp2_with fail
    go_region_held3 (fun W=>W.cell? (aj (E.A 20))=some (af (aj (E.A 0)))/\W.cell? (aj (E.A 21) (i*3))=some (U k.slot)/\W.cell? (aj (E.A 21) (i*3+1))=some (U k.field)) (first|exact⟨y0,y1,y2⟩|go_keep)
     ((go_at_call 187;(with_reducible refine(J7.out _ (bd (bV _ _))).mono ?_);rintro e w2 ⟨rfl,cN⟩;obtain⟨y0,y1,y2⟩:=OA.out w2 (fj (bd (bV _ _)) cN);have kM:=bU (fj (bd (bV _ _)) cN);clear cN))
    all_goals (go_wp2_with fail;go_meet;exact HNo.out _ kM.out hno)
   .go_wp2_with fail
    go_region_held3 (fun W=>W.cell? (aj (E.A 20))=some (af (aj (E.A 0)))/\W.cell? (aj (E.A 21) (i*3))=some (U k.slot)/\W.cell? (aj (E.A 21) (i*3+1))=some (U k.field)) (first|exact⟨y0,y1,y2⟩|go_keep)
     ((go_at_call 187;(with_reducible refine(J7.out _ (bd (bV _ _))).mono ?_);rintro e w2 ⟨rfl,cN⟩;obtain⟨y0,y1,y2⟩:=OA.out w2 (fj (bd (bV _ _)) cN);have kM:=bU (fj (bd (bV _ _)) cN);clear cN))
    all_goals (go_wp2_with (go_at_call 261;(with_reducible refine(HSh.out _ y kM.out hyf hyn).mono ?_);rintro e w3 ⟨rfl,hT⟩);go_meet;exact hT)
  case rest=>
   have hT:=hcut.out;clear hcut;obtain⟨T,hTe⟩:=al (gS E.K s (iW E.K s.M k.slot k.field));have hTs:T.hs=s.hs:=by rw[←hTe];exact oP _ _ _
   have heT:T.hs[i]?=some k:=by rw[hTs];exact he
   rw[hTe] at hT;obtain⟨g1,g2,g3⟩:=hT.mp.fu heT;have g4:=hT.mp.b1.cE (i*3+1);obtain⟨M1,K1⟩:=hT.mp.MJ hE heT (k.field+1);have e1:((k.field+1:Nat):Int)=(k.field:Int)+1:=by omega
   rw[e1] at M1 K1;have KB:cu (Of E.A [12,13,14,15,16,17,18,19,21]) w (wc.setCell (aj (E.A 21) (i*3+1)) (U ((k.field:Int)+1))):=(hT.ch.up (Of.up (by decide))).trans (K1.up (Of.up (by decide)));have BX:cj (wc.setCell (aj (E.A 21) (i*3+1)) (U ((k.field:Int)+1))) bx #[U kc,U v,U u] 195:=hT.bk.bY K1 (fun hb=>h.lt hT.lo (Of.up (by decide) _ hb));clear K1 DR DH HC DA DB c0 cs cf hS hto
   go_upto_region 6 with fail
   obtain⟨W,hW⟩:=al (wc.setCell (aj (E.A 21) (i*3+1)) (U ((k.field:Int)+1)));rw[hW] at M1 KB BX ⊢;clear hW g1 g2 g3 g4;have heW:(T.hs.set i {k with field:=k.field+1})[i]?=some {k with field:=k.field+1}:=by
    rw[bG,if_pos rfl,if_pos (au.1 heT).1]
   obtain⟨g1,g2,g3⟩:=M1.fu heW;have g2:W.cell? (aj (E.A 21) (i*3+1))=some (U ((k.field:Int)+1)):=by rw[←e1];exact g2
   have g1:W.cell? (aj (E.A 21) (i*3))=some (U k.slot):=g1;have b1:W.cell? (aj bx 1)=some (U v):=BX.cell 1;have m4:=M1.ptr.2.2.2.2.1;have HZ:Hid (∀W',Below W.heap.size W W'→v<=k.field+1→ak 262 #[af (aj (E.A 12)),U k.slot] W' fun e w'=>e=ae (U 0)/\(w'.cell? (aj (E.A 20) 4)=some (af (aj (E.A 12)))/\w'.cell? (aj (E.A 21) (i*3))=some (U k.slot))/\(∃v1 v2,w'.cell? (aj (E.A 21) (i*3+1))=some v1/\w'.cell? (aj (E.A 21) (i*3+2))=some v2)/\(w'.frozen? (aj (E.A 21) (i*3))=false/\w'.frozen? (aj (E.A 21) (i*3+1))=false/\w'.frozen? (aj (E.A 21) (i*3+2))=false)/\Hid (cY (jX w' (E.A 21) i ⟨0,0,false⟩) E ws (scan E.K s i k) N/\cu (Of E.A [12,13,14,15,16,17,18,19,21]) w (jX w' (E.A 21) i ⟨0,0,false⟩))):=bU (fun W' PY hle=>by
    refine(vM hE (M1.cA PY) hx).mono ?_;rintro e w' ⟨rfl,hp,hc⟩;obtain⟨q1,q2,q3⟩:=hp.fu heW;obtain⟨r1,r2⟩:=hp.hand hE heW ⟨0,0,false⟩;refine⟨rfl,⟨hp.ptr.2.2.2.2.1,q1⟩,⟨_,_,q2,q3⟩,⟨hp.b1.cE _,hp.b1.cE _,hp.b1.cE _⟩,bU ⟨?_,?_⟩⟩
    .have e3:scan E.K s i k={T with col:=cP T.col k.slot 2,hs:=(T.hs.set i {k with field:=k.field+1}).set i ⟨0,0,false⟩}:=by
      unfold scan;rw[if_pos (by rw[hrv];exact hle),hTe,hTs,List.set_set]
     rw[e3];exact r1
    .exact((KB.bl PY).trans (hc.up (Of.up (by decide)))).trans (r2.up (Of.up (by decide))))
   have HY:Hid (∀n,¬v<=k.field+1→cY (W.drewN n) E ws (scan E.K s i k) N/\cu (Of E.A [12,13,14,15,16,17,18,19,21]) w (W.drewN n)):=bU (fun n hle=>by
    refine⟨?_,KB.drewN n⟩;have e3:scan E.K s i k={T with hs:=T.hs.set i {k with field:=k.field+1}}:=by
     unfold scan;rw[if_neg (by rw[hrv];exact hle),hTe,hTs,←his]
    rw[e3];exact M1.drewN n)
   clear M1 KB BX hT g3;have f63:(k.field:Int)<=63:=by omega
   by_cases hle:v<=k.field+1
   .have hd:decide ((v:Int)<=(k.field:Int)+1)=true:=aw (by omega)
    go_wp2_with fail
    go_quiet (fail)
    go_wp2_with fail;go_region_held3 (fun W=>W.cell? (aj (E.A 20) 4)=some (af (aj (E.A 12)))/\W.cell? (aj (E.A 21) (i*3))=some (U k.slot)) (first|exact⟨y0,y1⟩|go_keep)
     ((go_at_call 262;(with_reducible refine(HZ.out _ (by first|exact jh (bV _ _) _|exact bd (jh (bV _ _) _)|exact bd (bV _ _)) hle).mono ?_);rintro e w3 ⟨rfl,⟨y0,y1⟩,⟨v1,v2,y2,y3⟩,⟨f0,f1,f2⟩,hZ⟩))
    all_goals
     go_wp2_with fail;go_ret;exact⟨rfl,hZ.out⟩
   .have hd:decide ((v:Int)<=(k.field:Int)+1)=false:=az (by omega)
    go_wp2_with fail
    go_quiet (fail)
    go_wp2_with fail;go_ret;exact⟨rfl,HY.out _ hle⟩
end Mk
namespace Mk
open Go.RowKit Go.bZ Go.Gc Sl Mm Hd Bd Gy Bt Tb Pn
open Ti (Tn)
theorem cY.OO{w w':World}{E:Env}(hE:E.Ok){ws:List Int}{s:St}{N:Int}(h:cY w E ws s N){q:List Nat}{eI dq:Nat→Bool}{wa we:Nat}(hg:dV w' E.i q eI dq wa we)(hc:cu E.i.own w w'):cY w' E ws {s with q:=q,eI:=eI,dq:=dq,wa:=wa,we:=we} N/\cu (Of E.A [14,15,16,17,18,19]) w w':=by
 have hk:=hc.up (fun k hk=>ou hk);exact⟨h.OG hE (col:=s.col) (hk.up (Of.up (by decide))) (ib h.tn hk (hE.no (by decide)) (hE.no (by decide))) hg,hk⟩
def ry(w:World)(g i:Nat):Prop:=(∃v0 v1 v2,w.cell? (aj g (i*3))=some v0/\w.cell? (aj g (i*3+1))=some v1/\w.cell? (aj g (i*3+2))=some v2)/\w.frozen? (aj g (i*3))=false/\w.frozen? (aj g (i*3+1))=false/\w.frozen? (aj g (i*3+2))=false
theorem cY.Gb{w:World}{E:Env}{ws:List Int}{s:St}{N:Int}(h:cY w E ws s N){i:Nat}{k:Hand}(he:s.hs[i]?=some k):ry w (E.A 21) i:=by
 obtain⟨a1,a2,a3⟩:=h.fu he;exact⟨⟨_,_,_,a1,a2,a3⟩,h.b1.cE _,h.b1.cE _,h.b1.cE _⟩
theorem zO{w:World}{g i:Nat}(h:ry w g i)(x:Nat):ak 216 #[af (aj g (i*3)),U x] w fun e w'=>e=ae (.tuple #[])/\w'=jX w g i ⟨x,0,true⟩:=by
 obtain⟨⟨v0,v1,v2,c0,c1,c2⟩,f0,f1,f2⟩:=h;refine(FT w g (i*3) x c0 c1 c2 f0 f1 f2).mono ?_;rintro e w' ⟨rfl,hw⟩;refine⟨rfl,?_⟩;rw[hw,jX]
 rfl
theorem J8{w:World}{E:Env}{ws:List Int}{s:St}{N:Int}(h:cY w E ws s N)(hq:s.q=[])(hv:Value):ak 214 #[af (aj (E.A 20)),hv] w fun e w'=>e=ae (.bool false)/\w=w':=by
 have g:=h.gy;rw[hq] at g;have d:ak 215 #[af (aj (E.A 14))] w fun e w'=>e=ae (.tuple #[U 0,.bool false])/\w=w':=Bo (i:=E.i) g
 obtain⟨z,b0⟩:=h.b0;have c5:w.cell? (aj (E.A 20) 5)=some (af (aj (E.A 14))):=b0.cell 5;clear h b0 g hq;generalize E.A 20=q at *;generalize E.A 14=PU at *;go_enter func214,ntmps214;go_wp2_with (go_at_call 215;(with_reducible refine d.mono ?_);rintro e w2 ⟨rfl,rfl⟩)
 go_ret;exact⟨rfl,rfl⟩
theorem J9{w:World}{E:Env}(hE:E.Ok){ws:List Int}{s:St}{N:Int}(h:cY w E ws s N){x:Nat}{l:List Nat}(hq:s.q=x::l){i:Nat}{k:Hand}(he:s.hs[i]?=some k):ak 214 #[af (aj (E.A 20)),af (aj (E.A 21) (i*3))] w fun e w'=>e=ae (.bool true)/\cY w' E ws (take s i x l) N/\cu (Of E.A [14,15,16,17,18,19,21]) w w':=by
 have g:=h.gy;rw[hq] at g;have d:ak 215 #[af (aj (E.A 14))] w fun e w'=>e=ae (.tuple #[U x,.bool true])/\ry w' (E.A 21) i/\Hid (cY (jX w' (E.A 21) i ⟨x,0,true⟩) E ws (take s i x l) N/\cu (Of E.A [14,15,16,17,18,19,21]) w (jX w' (E.A 21) i ⟨x,0,true⟩)):=by
  refine(Bp g).mono ?_;rintro e w' ⟨rfl,hg,hc⟩;obtain⟨hp,hk⟩:=h.OO hE hg hc;obtain⟨r1,r2⟩:=hp.hand hE he ⟨x,0,true⟩;exact⟨rfl,hp.Gb he,bU ⟨r1,(hk.up (Of.up (by decide))).trans (r2.up (Of.up (by decide)))⟩⟩
 obtain⟨z,b0⟩:=h.b0;have c5:w.cell? (aj (E.A 20) 5)=some (af (aj (E.A 14))):=b0.cell 5;clear h b0 g hq;generalize E.A 20=q at *;generalize E.A 14=PU at *;generalize E.A 21=TZ at *;go_enter func214,ntmps214;go_wp2_with (first|(go_at_call 215;(with_reducible refine d.mono ?_);rintro e w2 ⟨rfl,ha,hz⟩;have ht:=zO ha x)|(go_at_call 216;(with_reducible refine ht.mono ?_);rintro e w3 ⟨rfl,rfl⟩))
 go_ret;exact⟨rfl,hz.out⟩
theorem Ka{w:World}{E:Env}{ws:List Int}{s:St}{N:Int}(h:cY w E ws s N)(hw:s.wa=s.we)(hq:s.q≠[]\/∀p,p<E.pg→s.dq p=false)(hv:Value):ak 218 #[af (aj (E.A 20)),hv] w fun e w'=>e=ae (.bool false)/\Below w.heap.size w w':=by
 have g:=h.gy;rw[←hw] at g;have d:ak 219 #[af (aj (E.A 14))] w fun e w'=>e=ae (.tuple #[U 0,.bool false,.bool false])/\Below w.heap.size w w':=by
  cases hs:s.q with
  | nil=>
   rw[hs] at g;refine xE (i:=E.i) g ?_ h.de h.d2;rcases hq with hq|hq
   .exact absurd hs hq
   .exact hq
  | cons x l=>
   rw[hs] at g;exact Bq (i:=E.i) g h.de h.d2
 obtain⟨z,b0⟩:=h.b0;have c5:w.cell? (aj (E.A 20) 5)=some (af (aj (E.A 14))):=b0.cell 5;clear h b0 g hq;generalize E.A 20=q at *;generalize E.A 14=PU at *;go_enter func218,ntmps218;go_wp2_with (go_at_call 219;(with_reducible refine d.mono ?_);rintro e w2 ⟨rfl,hb⟩)
 go_ret;exact⟨rfl,hb⟩
def MN(w w2:World)(E:Env)(ws:List Int)(t:St)(N:Int)(i x:Nat)(b:Bool):Prop:=
 if b then ry w2 (E.A 21) i/\cY (jX w2 (E.A 21) i ⟨x,0,true⟩) E ws t N/\cu (Of E.A [14,15,16,17,18,19,21]) w (jX w2 (E.A 21) i ⟨x,0,true⟩)
 else cY w2 E ws t N/\cu (Of E.A [14,15,16,17,18,19,21]) w w2
theorem zP{w:World}{E:Env}{ws:List Int}{N:Int}{i:Nat}{Q:St→Prop}
 (d:ak 219 #[af (aj (E.A 14))] w fun e w'=>∃(x:Nat) (b:Bool) (t:St),e=ae (.tuple #[U (if b then(x:Int) else 0),.bool b,.bool true])/\Q t/\Hid (MN w w' E ws t N i x b))(c5:w.cell? (aj (E.A 20) 5)=some (af (aj (E.A 14)))):
  ak 218 #[af (aj (E.A 20)),af (aj (E.A 21) (i*3))] w fun e w'=>e=ae (.bool true)/\∃t,Q t/\cY w' E ws t N/\cu (Of E.A [14,15,16,17,18,19,21]) w w':=by
 have d:ak 219 #[af (aj (E.A 14))] w fun e w'=>(∃(x:Nat) (t:St),e=ae (.tuple #[U x,.bool true,.bool true])/\Hid (Q t)/\ry w' (E.A 21) i/\Hid (cY (jX w' (E.A 21) i ⟨x,0,true⟩) E ws t N/\cu (Of E.A [14,15,16,17,18,19,21]) w (jX w' (E.A 21) i ⟨x,0,true⟩)))\/∃t:St,e=ae (.tuple #[U 0,.bool false,.bool true])/\Hid (Q t)/\Hid (cY w' E ws t N/\cu (Of E.A [14,15,16,17,18,19,21]) w w'):=by
  refine d.mono ?_;rintro e w' ⟨x,b,t,rfl,hq,hw⟩
  cases b with
  | true=>exact .inl ⟨x,t,rfl,bU hq,hw.out.1,bU hw.out.2⟩
  | false=>exact .inr ⟨t,rfl,bU hq,bU hw.out⟩
 generalize E.A 20=q at *;generalize E.A 14=PU at *;generalize QS:E.A 21=TZ at *;clear QS;go_enter func218,ntmps218;go_wp2_with (first|(go_at_call 219;(with_reducible refine d.mono ?_);rintro e w2 (⟨x,t,rfl,hq,ha,hz⟩|⟨t,rfl,hq,hz⟩))|(go_at_call 216;(with_reducible refine(zO ha x).mono ?_);rintro e w3 ⟨rfl,rfl⟩))
 all_goals
  go_ret;exact⟨rfl,t,hq.out,hz.out⟩
end Mk
namespace Mk
open Go.RowKit Go.bZ Go.Gc Sl Mm Hd Bd Gy Bt Tb Pn
open Ti (Tn)
theorem zQ{w w':World}{E:Env}(hE:E.Ok){ws:List Int}{s:St}{N:Int}(h:cY w E ws s N){i:Nat}{k:Hand}(he:s.hs[i]?=some k)(t:St)(hg:dV w' E.i t.q (cP t.eI t.wa false) t.dq (t.wa+1) t.we)(hc:cu E.i.own w w')(e1:{s with q:=t.q,eI:=t.eI,dq:=t.dq,wa:=t.wa,we:=t.we}=t):MN w w' E ws (walked t i) N i t.wa (t.eI t.wa):=by
 obtain⟨hp,hk⟩:=h.OO hE hg hc;have e2:({s with q:=t.q,eI:=cP t.eI t.wa false,dq:=t.dq,wa:=t.wa+1,we:=t.we}:St)={t with wa:=t.wa+1,eI:=cP t.eI t.wa false}:=by rw[←e1]
 have e3:t.hs=s.hs:=by rw[←e1]
 rw[e2] at hp;unfold MN walked;by_cases hb:t.eI t.wa=true
 .rw[if_pos hb,if_pos hb]
  obtain⟨r1,r2⟩:=hp.hand hE (i:=i) (k:=k) (by show t.hs[i]?=_;rw[e3];exact he) ⟨t.wa,0,true⟩;exact⟨hp.Gb (i:=i) (k:=k) (by show t.hs[i]?=_;rw[e3];exact he),r1,(hk.up (Of.up (by decide))).trans (r2.up (Of.up (by decide)))⟩
 .rw[if_neg hb,if_neg hb]
  exact⟨hp,hk.up (Of.up (by decide))⟩
theorem Kb{w:World}{E:Env}(hE:E.Ok){ws:List Int}{s:St}{N:Int}(h:cY w E ws s N)(hw:s.wa<s.we)(hn:s.we<=E.n){i:Nat}{k:Hand}(he:s.hs[i]?=some k):
  ak 218 #[af (aj (E.A 20)),af (aj (E.A 21) (i*3))] w fun e w'=>e=ae (.bool true)/\∃t,t=walked s i/\cY w' E ws t N/\cu (Of E.A [14,15,16,17,18,19,21]) w w':=by
 refine zP (Q:=fun t=>t=walked s i) ?_ h.ptr.2.2.2.2.2;refine(Jl (i:=E.i) h.gy hw hn).mono ?_;rintro e w' ⟨rfl,hg,hc⟩;exact⟨s.wa,s.eI s.wa,walked s i,rfl,rfl,bU (zQ hE h he s hg hc rfl)⟩
theorem CE{w:World}{E:Env}(hE:E.Ok){ws:List Int}{s:St}{N:Int}(h:cY w E ws s N)(hw:s.wa=s.we)(hq:s.q=[]){p0:Nat}(I5:p0<E.pg)(xe:s.dq p0=true){i:Nat}{k:Hand}(he:s.hs[i]?=some k):
  ak 218 #[af (aj (E.A 20)),af (aj (E.A 21) (i*3))] w fun e w'=>e=ae (.bool true)/\∃t,(∃p,p<E.pg/\s.dq p=true/\t=walked (opened E.K s p) i)/\cY w' E ws t N/\cu (Of E.A [14,15,16,17,18,19,21]) w w':=by
 refine zP (Q:=fun t=>∃p,p<E.pg/\s.dq p=true/\t=walked (opened E.K s p) i) ?_ h.ptr.2.2.2.2.2;have g:=h.gy;rw[hq,←hw] at g;refine(Bu (i:=E.i) g h.cx.pl hE.gd I5 xe (fun k hk=>?_) h.de h.d2).mono ?_
 .obtain⟨j,hj,rfl⟩:=ou hk
  simp only[List.mem_cons,List.not_mem_nil,or_false] at hj;exact⟨fun e=>by have:=hE.inj j 1 (by omega) (by omega) e;omega,fun e=>by have:=hE.inj j 2 (by omega) (by omega) e;omega⟩
 .rintro e w' ⟨p,h1,h2,rfl,hg,hc⟩
  refine⟨iw E.rs p,s.eI (iw E.rs p),walked (opened E.K s p) i,rfl,⟨p,h1,h2,rfl⟩,bU ?_⟩;exact zQ hE h he (opened E.K s p) (by rw[show(opened E.K s p).q=[] from hq];exact hg) hc (by rfl)
def Kc:Array Value:=#[.bool false,.bool false,.nilFunc,.bool false,.bool true,.func (.func 213) #[] #[],.bool false,.bool false,.func (.func 214) #[] #[],.bool true,.bool false,.func (.func 217) #[] #[],.bool false,.bool false,.func (.func 218) #[] #[]]
theorem rz(w:World):ak 166 #[] w fun e w'=>e=ae (.agg Kc)/\Below w.heap.size w w':=by
 have s1:∀(a:Addr) (W:World),(store a .nilFunc).run prog W=stored prog W a .nilFunc .plain:=fun a W=>run_store _ _ _ _ _ rfl
 have s2:∀(a:Addr) (W:World) (f:Fn) (x y:Array Value),(store a (.func f x y)).run prog W=stored prog W a (.func f x y) .plain:=fun a W f x y=>run_store _ _ _ _ _ rfl
 have KB:Hid (Below w.heap.size w (w.alloc (.cells Kc 268))):=bU (bA (bV _ _) (av _) _);have hmc:Kc=#[.bool false,.bool false,.nilFunc,.bool false,.bool true,.func (.func 213) #[] #[],.bool false,.bool false,.func (.func 214) #[] #[],.bool true,.bool false,.func (.func 217) #[] #[],.bool false,.bool false,.func (.func 218) #[] #[]]:=rfl;go_enter func166,ntmps166;go_wp2_with fail;rw[←hmc];refine bodyPost_ret (v:=.agg Kc) (by simp[results,Tryz.results166,go_sem,hmc]) rfl ⟨rfl,KB.out⟩
end Mk
namespace Mk
open Go.RowKit Go.bZ Go.Gc Sl Mm Hd Bd Gy Bt Tb Pn
open Ti (Tn)
def mU:List Nat:=[12,13,14,15,16,17,18,19,20,21]
structure Kd(w wx:World)(E:Env)(ws:List Int)(s:St)(N:Int)(bx:Nat)(fl an:Bool)(f:Fn):Prop where
 mp:cY wx E ws s N
 ch:Below w.heap.size w wx
 bk:cj wx bx #[.bool fl,.bool an,.func f #[] #[]] 267
theorem cY.step{w:World}{E:Env}(hE:E.Ok){ws:List Int}{s:St}{N:Int}(h:cY w E ws s N):∃z:Int,w.cell? (aj (E.A 20) 9)=some (U z)/\w.frozen? (aj (E.A 20) 9)=false/\∀y:Int,Hid (cY (w.setCell (aj (E.A 20) 9) (U y)) E ws s N/\cu (Of E.A [20]) w (w.setCell (aj (E.A 20) 9) (U y))):=by
 obtain⟨z,b0⟩:=h.b0;refine⟨z,b0.cell 9,b0.cE 9,fun y=>bU ⟨?_,ud 9 _⟩⟩;exact h.own hE ((ud (E:=E) (w:=w) 9 (U y)).up (Of.up (by decide))) (root:=s.root) (act:=s.act) (hs:=s.hs) ⟨y,b0.set 9 (U y)⟩ (h.b1.other (hE.ne (by decide)) 9 _) h.hl
theorem iR{w:World}{E:Env}{ws:List Int}{s:St}{N:Int}(h:cY w E ws s N)(fl an:Bool)(f:Fn):ak 166 #[] w.drew fun e w2=>e=ae (.agg #[.bool false,.bool false,.nilFunc,.bool false,.bool true,.func (.func 213) #[] #[],.bool false,.bool false,.func (.func 214) #[] #[],.bool true,.bool false,.func (.func 217) #[] #[],.bool false,.bool false,.func (.func 218) #[] #[]])/\w2.cell? (aj (E.A 20) 6)=some (ai (aj (E.A 21)) E.hn E.hn)/\Hid (Kd w (w2.alloc (.cells #[.bool fl,.bool an,.func f #[] #[]] 267)) E ws s N w2.heap.size fl an f):=by
 refine(rz w.drew).mono ?_;rintro e w2 ⟨rfl,hb⟩;have h2:=fj (bd (bV w.heap.size w)) hb;obtain⟨z,b0⟩:=(h.cA h2).b0;have h3:Below w.heap.size w (w2.alloc (.cells #[.bool fl,.bool an,.func f #[] #[]] 267)):=bA h2 (av _) _;exact⟨rfl,b0.cell 6,bU ⟨h.cA h3,h3,cj.new w2 _ _⟩⟩
theorem jt{w:World}{E:Env}{ws:List Int}{s:St}{N:Int}(h:cY w E ws s N)(fl an:Bool)(f:Fn):ak 166 #[] (w.alloc (.cells #[.bool false,.bool false,.nilFunc] 267)).drew fun e w2=>e=ae (.agg #[.bool false,.bool false,.nilFunc,.bool false,.bool true,.func (.func 213) #[] #[],.bool false,.bool false,.func (.func 214) #[] #[],.bool true,.bool false,.func (.func 217) #[] #[],.bool false,.bool false,.func (.func 218) #[] #[]])/\w2.cell? (aj (E.A 20) 6)=some (ai (aj (E.A 21)) E.hn E.hn)/\(w2.cell? (aj w.heap.size)=some (.bool false)/\w2.cell? (aj w.heap.size 1)=some (.bool false)/\w2.cell? (aj w.heap.size 2)=some .nilFunc)/\(w2.frozen? (aj w.heap.size)=false/\w2.frozen? (aj w.heap.size 1)=false/\w2.frozen? (aj w.heap.size 2)=false)/\(((w2.setCell (aj w.heap.size) (.bool fl)).setCell (aj w.heap.size 1) (.bool an)).setCell (aj w.heap.size 2) (.func f #[] #[])).cell? (aj (E.A 20) 6)=some (ai (aj (E.A 21)) E.hn E.hn)/\Hid (Kd w (((w2.setCell (aj w.heap.size) (.bool fl)).setCell (aj w.heap.size 1) (.bool an)).setCell (aj w.heap.size 2) (.func f #[] #[])) E ws s N w.heap.size fl an f):=by
 have hA:Below w.heap.size w (w.alloc (.cells #[.bool false,.bool false,.nilFunc] 267)).drew:=bd (bA (bV _ _) (av _) _);refine(rz _).mono ?_;rintro e w2 ⟨rfl,hb⟩;have h2:=fj hA hb;have B:cj w2 w.heap.size #[.bool false,.bool false,.nilFunc] 267:=((cj.new w _ _).drew).cA hb;have h3:Below w.heap.size w (((w2.setCell (aj w.heap.size) (.bool fl)).setCell (aj w.heap.size 1) (.bool an)).setCell (aj w.heap.size 2) (.func f #[] #[])):=((h2.setCell (by exact av _) _).setCell (by exact av _) _).setCell (by exact av _) _;obtain⟨z,b0⟩:=(h.cA h2).b0;obtain⟨z',T7⟩:=(h.cA h3).b0;exact⟨rfl,b0.cell 6,⟨B.cell 0,B.cell 1,B.cell 2⟩,⟨B.cE 0,B.cE 1,B.cE 2⟩,T7.cell 6,bU ⟨h.cA h3,h3,((B.set 0 _).set 1 _).set 2 _⟩⟩
attribute [local irreducible] wpStill in
set_option maxHeartbeats 400000 in
theorem ti{w:World}{E:Env}(hE:E.Ok){ws:List Int}{s:St}{N:Int}(h:cY w E ws s N)(ha:s.act=true){i:Nat}{k:Hand}(he:s.hs[i]?=some k){b:Bool}{Q:St→Prop}{l:List Nat}(hl:l.all (fun i=>mU.contains i)=true)
 (DF:∀W,Below w.heap.size w W→ak 213 #[af (aj (E.A 20)),af (aj (E.A 21) (i*3))] W fun e w'=>e=ae (.bool b)/\∃t,Q t/\cY w' E ws t N/\cu (Of E.A l) W w'):
  ak 131 #[af (aj (E.A 20)),U i,ab 1] w fun e w'=>e=ae (.bool b)/\∃t,Q t/\cY w' E ws t N/\cu (Of E.A mU) w w':=by
 have dA:=gJ h;rw[ha] at dA;have hi:i<E.hn:=by rw[←h.hl];exact(au.1 he).1
 have hh:=hE.h2;obtain⟨z0,b0⟩:=h.b0;have c6:w.cell? (aj (E.A 20) 6)=some (ai (aj (E.A 21)) E.hn E.hn):=b0.cell 6;clear b0;have HM:=bU h;have DB:=bU (iR h false true (.func 213));have DA:=bU (jt h false true (.func 213));have s1:∀(a:Addr) (W:World),(store a .nilFunc).run prog W=stored prog W a .nilFunc .plain:=fun a W=>run_store _ _ _ _ _ rfl
 have s2:∀(a:Addr) (W:World) (f:Fn) (x y:Array Value),(store a (.func f x y)).run prog W=stored prog W a (.func f x y) .plain:=fun a W f x y=>run_store _ _ _ _ _ rfl
 have x1:∀W:World,(Instr.index 268 (.agg #[.bool false,.bool false,.nilFunc,.bool false,.bool true,.func (.func 213) #[] #[],.bool false,.bool false,.func (.func 214) #[] #[],.bool true,.bool false,.func (.func 217) #[] #[],.bool false,.bool false,.func (.func 218) #[] #[]]) (ab 1)).run prog W=.ok (.agg #[.bool false,.bool true,.func (.func 213) #[] #[]]) W:=fun _=>by kernel_rfl
 clear h;go_enter func131,ntmps131
 go_upto_region 3 with(go_at_call 165;(with_reducible refine dA.mono ?_);rintro e w2 ⟨rfl,rfl⟩)
 go_cut [7,8] (fun p q wx=>p=af (aj (E.A 21) (i*3))/\∃bx,q=af (aj bx)/\Hid (Kd w wx E ws s N bx false true (.func 213)))
 case first=>
  go_wp2_with fail;go_region_held3 (fun W=>W.cell? (aj (E.A 20) 6)=some (ai (aj (E.A 21)) E.hn E.hn)) (first|exact y6|exact z6|go_keep)
   (first|(go_at_call 166;(with_reducible refine DA.out.mono ?_);rintro e w2 ⟨rfl,y6,⟨q0,q1,q2⟩,⟨f0,f1,f2⟩,z6,hS⟩)|(go_at_call 166;(with_reducible refine DB.out.mono ?_);rintro e w2 ⟨rfl,y6,hS⟩))
  all_goals (go_wp2_with fail;go_meet;exact⟨rfl,_,rfl,hS⟩)
 case rest=>
  obtain⟨rfl,bx,rfl,hS⟩:=hcut;have k0:wc.cell? (aj bx)=some (.bool false):=hS.out.bk.cell 0;have k1:wc.cell? (aj bx 1)=some (.bool true):=hS.out.bk.cell 1;have k2:wc.cell? (aj bx 2)=some (.func (.func 213) #[] #[]):=hS.out.bk.cell 2;have k3:=(hS.out.mp.fu he).2.2;have Gd:Hid (∀W,Below wc.heap.size wc W→ak 213 #[af (aj (E.A 20)),af (aj (E.A 21) (i*3))] W fun e w'=>e=ae (.bool b)/\(∃z:Int,w'.cell? (aj (E.A 20) 9)=some (U z)/\w'.frozen? (aj (E.A 20) 9)=false/\Hid (∀n y,∃t,Q t/\cY ((w'.drewN n).setCell (aj (E.A 20) 9) (U y)) E ws t N/\cu (Of E.A mU) w ((w'.drewN n).setCell (aj (E.A 20) 9) (U y))))/\Hid (∀n,∃t,Q t/\cY (w'.drewN n) E ws t N/\cu (Of E.A mU) w (w'.drewN n))):=bU (fun W hW=>by
   have hb:=fj hS.out.ch hW;refine(DF W hb).mono ?_;rintro e w' ⟨rfl,t,hQ,hp,hc⟩;have hC:cu (Of E.A mU) w w':=(cu.cD hb).trans (hc.up (Of.up hl));obtain⟨z,a1,a2,-⟩:=hp.step hE;refine⟨rfl,⟨z,a1,a2,bU (fun n y=>?_)⟩,bU (fun n=>⟨t,hQ,hp.drewN n,hC.drewN n⟩)⟩;obtain⟨z2,-,-,a3⟩:=(hp.drewN n).step hE;exact⟨t,hQ,(a3 y).out.1,(hC.drewN n).trans ((a3 y).out.2.up (Of.up (by decide)))⟩)
  clear DF DA DB x1 s1 s2 dA HM c6;go_wp2_with fail
  go_still_tail 17,(by kernel_rfl)
  change wpList _ _ _ _ _ wc.drew
  clear k0 k1 k2 k3
  cases b
  .go_wp2_with (go_at_call 213;(with_reducible refine(Gd.out _ (bd (bV _ _))).mono ?_);rintro e w3 ⟨rfl,-,hN⟩)
   go_ret;exact⟨rfl,hN.out 0⟩
  .go_wp2_with (go_at_call 213;(with_reducible refine(Gd.out _ (bd (bV _ _))).mono ?_);rintro e w3 ⟨rfl,⟨z,a1,a2,hZ⟩,-⟩)
   go_ret;exact⟨rfl,hZ.out 0 _⟩
end Mk
end Go.Proofs.YtgblmelijlgimaaGreatDoor
