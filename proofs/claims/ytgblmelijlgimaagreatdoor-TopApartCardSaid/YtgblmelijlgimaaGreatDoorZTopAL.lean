/- Parts of the proof of TopApart. -/
import Derived.Test.YtgblmelijlgimaaGreatDoorZTopAK
set_option maxRecDepth 100000
namespace Go.Proofs.YtgblmelijlgimaaGreatDoor
open Go.Proofs.Tryz
namespace Bd
open Go.RowKit Go.bZ Go.Gc Sl
theorem vA{w:World}{b mp tn p g cap:Nat}{rs:List Rec}{n pg pw:Nat}(hb:xO w b mp tn p)(h:ff w p g cap rs n pg pw){x k:Nat}{r:Rec}(hs:eJ pw rs n pg x k r)(hx:x<n)(c v u sz:Nat)(hc:c<8)(hv:v+u<=63)(hck:c=k)(hsz:v+u+1<=sz):
  ak 121 #[af (aj b),U x,U sz,.agg #[U c,U v,U u]] w fun e w'=>e=ae (.bool true)/\Below w.heap.size w w':=by
 have dj:=(bV _ w).alloc (av _) (.cells #[U c,U v,U u] 195);have dn:=Hd.u9 (w.alloc (.cells #[U c,U v,U u] 195)) (c:Int) v u (by omega) (by omega) (by omega);rw[show Hd.jK (c:Int) v u=true from aw (by omega),if_pos rfl] at dn;have HX:Hid (∀W,Below (w.alloc (.cells #[U c,U v,U u] 195)).heap.size (w.alloc (.cells #[U c,U v,U u] 195)) W→W.cell? (aj b 2)=some (af (aj p))/\(ak 158 #[af (aj p),U x] W fun e w'=>e=ae (.tuple #[U k,U 0])/\Below W.heap.size W w')):=bU (fun W hW=>⟨(cj.cA (cj.cA hb dj) hW).cell 2,Bb W ((h.cA dj).cA hW) hs hx⟩);have HY:Hid (∀W,Below (w.alloc (.cells #[U c,U v,U u] 195)).heap.size (w.alloc (.cells #[U c,U v,U u] 195)) W→W.cell? (aj w.heap.size)=some (U c)):=bU (fun W hW=>(hW.cell (p:=⟨w.heap.size,0,none⟩) (by simp)).trans (eX w _ _ 0));have HB:=bU dj;have hl:=h.l8;have hkl:=hs.kl;subst hck;have e5:decide ((v:Int)+(u:Int)+1<=(sz:Int))=true:=aw (by omega);clear h hs hb dj hx;go_enter func121,ntmps121;go_wp2_with (first|(go_at_call 157;refine dn.mono ?_;rintro e w2 ⟨rfl,cN⟩;obtain⟨e2,dc⟩:=HX.out w2 cN)|(go_at_call 158;(with_reducible refine dc.mono ?_);rintro e w3 ⟨rfl,dJ⟩;have e3:=HY.out w3 (fj cN dJ)))
 go_ret;exact⟨rfl,bT HB.out (fj cN dJ) (by simp)⟩
end Bd
namespace Bd
open Go.RowKit Go.bZ Go.Gc Sl Mm Hd
structure Ctx(w:World)(b mp tn p g cap:Nat)(rs:List Rec)(n pg pw mw mb cO:Nat)(bs:List Nat)(ws:List Int):Prop where
 bd:xO w b mp tn p
 pl:ff w p g cap rs n pg pw
 mm:fI w mp mw mb cO bs ws
 gw:Gw w
 ok:Go.Gc.Good pw rs 0 0 n pg
 ht:tn+1<bs.length
 hr:bs.getD (tn+1) 0=bs.getD tn 0+pg*pw
 n1:mp≠mw
 n2:mb≠mw
theorem Ctx.cA{w w':World}{b mp tn p g cap:Nat}{rs:List Rec}{n pg pw mw mb cO:Nat}{bs:List Nat}{ws:List Int}(h:Ctx w b mp tn p g cap rs n pg pw mw mb cO bs ws)(hb:Below w.heap.size w w'):Ctx w' b mp tn p g cap rs n pg pw mw mb cO bs ws:=
 ⟨cj.cA h.bd hb,h.pl.cA hb,h.mm.cA hb,h.gw.cA hb,h.ok,h.ht,h.hr,h.n1,h.n2⟩
def at'(bs:List Nat)(tn:Nat)(ws:List Int)(a:Nat):Int:=ws.getD (bs.getD tn 0+a) 0
theorem Ctx.word{w:World}{b mp tn p g cap:Nat}{rs:List Rec}{n pg pw mw mb cO:Nat}{bs:List Nat}{ws:List Int}(h:Ctx w b mp tn p g cap rs n pg pw mw mb cO bs ws){a:Nat}(ha:a<pg*pw):∃X:Nat,at' bs tn ws a=X/\X<18446744073709551616/\ws[bs.getD tn 0+a]?=some (X:Int)/\bs.getD tn 0+a+1<=bs.getD (tn+1) 0:=by
 have h1:=h.mm.le (tn+1) h.ht;have h2:=h.hr;have hl:bs.getD tn 0+a<ws.length:=by omega
 have hw:=h.mm.wd ws[bs.getD tn 0+a] (aF _);refine⟨ws[bs.getD tn 0+a].toNat,?_,by omega,?_,by omega⟩
 .unfold at'
  rw[ao (l:=ws),aq hl];show ws[bs.getD tn 0+a]=_;omega
 .rw[aq hl]
  congr 1
  omega
end Bd
namespace Bd
open Go.RowKit Go.bZ Go.Gc Sl Mm Hd
set_option maxHeartbeats 1000000 in
theorem Fj{w:World}{b mp tn p g cap:Nat}{rs:List Rec}{n pg pw mw mb cO:Nat}{bs:List Nat}{ws:List Int}(h:Ctx w b mp tn p g cap rs n pg pw mw mb cO bs ws){x k:Nat}{r:Rec}(hs:eJ pw rs n pg x k r)(hx:x<n)(X v u:Nat)(hX:at' bs tn ws (addrOf pw rs x)=X)(hd:zt X=some (k,v,u))(hsz:v+u+1<=r.size):
  ak 97 #[af (aj b),U x] w fun e w'=>e=ae (.tuple #[.agg #[U k,U v,U u],U 0])/\Below w.heap.size w w':=by
 have dj:=(bV _ w).alloc (av _) (.cells #[U 0,U 0,U 0] 195);have h1:=h.cA dj;have ha:=jM h.ok hx;have hz:cJ rs x=r.size:=by unfold cJ;rw[hs.gL]
 have hrs:=hs.sz;obtain⟨Y,e1,e2,e3,e4⟩:=h.word (a:=addrOf pw rs x) (by omega);obtain rfl:Y=X:=by omega
 have dp:=jZ h1.bd h1.pl hs hx;have DL:Hid (∀W,Below (w.alloc (.cells #[U 0,U 0,U 0] 195)).heap.size (w.alloc (.cells #[U 0,U 0,U 0] 195)) W→ak 119 #[af (aj mp),U tn,U (addrOf pw rs x:Int)] W fun e w'=>e=ae (.tuple #[aa Y,U 0])/\Below W.heap.size W w'):=bU (fun W hW=>tV (h1.cA hW).mm tn _ h.ht e4 (Y:Int) e3);have DG:Hid (∀W,Below (w.alloc (.cells #[U 0,U 0,U 0] 195)).heap.size (w.alloc (.cells #[U 0,U 0,U 0] 195)) W→ak 120 #[aa Y] W fun e w'=>e=ae (.tuple #[.agg #[U k,U v,U u],U 0])/\Below W.heap.size W w'):=bU (fun W hW=>get_some W (h1.cA hW).gw Y e2 k v u hd);have hbd:k<8/\v+u<=63:=by
  unfold zt at hd
  split at hd
  .rename_i hc
   injection hd with hd;injection hd with q1 hd;injection hd with q2 q3;omega
  .cases hd
 have HBd:Hid (∀W,Below (w.alloc (.cells #[U 0,U 0,U 0] 195)).heap.size (w.alloc (.cells #[U 0,U 0,U 0] 195)) W→W.cell? (aj b)=some (af (aj mp))/\W.cell? (aj b 1)=some (U tn)):=bU (fun W hW=>⟨cj.cell (h1.cA hW).bd 0,cj.cell (h1.cA hW).bd 1⟩);have DY:Hid (∀W,Below (w.alloc (.cells #[U 0,U 0,U 0] 195)).heap.size (w.alloc (.cells #[U 0,U 0,U 0] 195)) W→ak 121 #[af (aj b),U x,U r.size,.agg #[U k,U v,U u]] W fun e w'=>e=ae (.bool true)/\Below W.heap.size W w'):=bU (fun W hW=>vA (h1.cA hW).bd (h1.cA hW).pl hs hx k v u r.size hbd.1 hbd.2 rfl hsz);have HB:=bU dj;generalize addrOf pw rs x=ad at *;clear h h1 hs hx dj hX hd e1 e2 e3 e4 ha hz hrs hsz hbd;go_enter func97,ntmps97;go_wp2_with (go_at_call 118;(with_reducible refine dp.mono ?_);rintro e w2 ⟨rfl,cN⟩;obtain⟨y0,y1⟩:=HBd.out w2 cN)
 go_region_held3 (fun w'=>w'.cell? (aj b)=some (af (aj mp))/\w'.cell? (aj b 1)=some (U tn)) (first|exact⟨z0,z1⟩|go_keep)
  ((go_at_call 119;refine(DL.out _ (bd cN)).mono ?_;rintro e w3 ⟨rfl,dJ⟩;obtain⟨z0,z1⟩:=HBd.out w3 (fj (bd cN) dJ)))
 have H3:=bU (fj (bd cN) dJ);have BZ:Hid (cj (w.alloc (.cells #[U 0,U 0,U 0] 195)) w.heap.size #[U 0,U 0,U 0] 195):=bU (cj.new w _ _);clear cN dJ y0 y1 z0 z1 dp;go_wp2_with (first|(go_at_call 120;refine(DG.out _ H3.out).mono ?_;rintro e w4 ⟨rfl,ni⟩;have H4:=bU (fj H3.out ni);have m0:=eX w4 #[U k,U v,U u] 195;have H5:Hid (Below (w.alloc (.cells #[U 0,U 0,U 0] 195)).heap.size (w.alloc (.cells #[U 0,U 0,U 0] 195)) (w4.alloc (.cells #[U k,U v,U u] 195))):=bU (bA H4.out (av _) _);clear m0)|(go_at_call 121;refine(DY.out _ H5.out).mono ?_;rintro e w5 ⟨rfl,uK⟩;have T5:=BZ.out.cA (fj H5.out uK);have S5:=(cj.new w4 #[U k,U v,U u] 195).cA uK;have m0:w5.cell? (aj w4.heap.size)=some (U k):=S5.cell 0;have m1:w5.cell? (aj w4.heap.size 1)=some (U v):=S5.cell 1;have m2:w5.cell? (aj w4.heap.size 2)=some (U u):=S5.cell 2;have k0:w5.cell? (aj w.heap.size)=some (U 0):=T5.cell 0;have k1:w5.cell? (aj w.heap.size 1)=some (U 0):=T5.cell 1;have k2:w5.cell? (aj w.heap.size 2)=some (U 0):=T5.cell 2;have f0:=T5.cE 0;have f1:=T5.cE 1;have f2:=T5.cE 2;have H6:=bU (bT HB.out (fj H5.out uK) (by simp));clear T5 S5 uK))
 refine bodyPost_ret (v:=.tuple #[.agg #[U k,U v,U u],U 0]) (by simp[results,Tryz.results97,go_sem,k0,k1,k2]) rfl ?_;exact⟨rfl,((H6.out.setCell (by show w.heap.size<=w.heap.size;omega) _).setCell (by show w.heap.size<=w.heap.size;omega) _).setCell (by show w.heap.size<=w.heap.size;omega) _⟩
end Bd
namespace Bd
open Go.RowKit Go.bZ Go.Gc Sl Mm Hd
set_option maxHeartbeats 1000000 in
theorem tZ{w:World}{b mp tn p g cap:Nat}{rs:List Rec}{n pg pw mw mb cO:Nat}{bs:List Nat}{ws:List Int}(h:Ctx w b mp tn p g cap rs n pg pw mw mb cO bs ws){x k:Nat}{r:Rec}(hs:eJ pw rs n pg x k r)(hx:x<n)(X:Nat)(hX:at' bs tn ws (addrOf pw rs x)=X)(hd:zt X=none):
  ak 97 #[af (aj b),U x] w fun e w'=>e=ae (.tuple #[.agg #[U 0,U 0,U 0],U 5])/\Below w.heap.size w w':=by
 have dj:=(bV _ w).alloc (av _) (.cells #[U 0,U 0,U 0] 195);have h1:=h.cA dj;have ha:=jM h.ok hx;have hz:cJ rs x=r.size:=by unfold cJ;rw[hs.gL]
 have hrs:=hs.sz;obtain⟨Y,e1,e2,e3,e4⟩:=h.word (a:=addrOf pw rs x) (by omega);obtain rfl:Y=X:=by omega
 have dp:=jZ h1.bd h1.pl hs hx;have DL:Hid (∀W,Below (w.alloc (.cells #[U 0,U 0,U 0] 195)).heap.size (w.alloc (.cells #[U 0,U 0,U 0] 195)) W→ak 119 #[af (aj mp),U tn,U (addrOf pw rs x:Int)] W fun e w'=>e=ae (.tuple #[aa Y,U 0])/\Below W.heap.size W w'):=bU (fun W hW=>tV (h1.cA hW).mm tn _ h.ht e4 (Y:Int) e3);have DG:Hid (∀W,Below (w.alloc (.cells #[U 0,U 0,U 0] 195)).heap.size (w.alloc (.cells #[U 0,U 0,U 0] 195)) W→ak 120 #[aa Y] W fun e w'=>e=ae (.tuple #[.agg #[U 0,U 0,U 0],U 5])/\Below W.heap.size W w'):=bU (fun W hW=>get_none W (h1.cA hW).gw Y e2 hd);have HBd:Hid (∀W,Below (w.alloc (.cells #[U 0,U 0,U 0] 195)).heap.size (w.alloc (.cells #[U 0,U 0,U 0] 195)) W→W.cell? (aj b)=some (af (aj mp))/\W.cell? (aj b 1)=some (U tn)):=bU (fun W hW=>⟨cj.cell (h1.cA hW).bd 0,cj.cell (h1.cA hW).bd 1⟩);have HB:=bU dj;generalize addrOf pw rs x=ad at *;clear h h1 hs hx dj hX hd e1 e2 e3 e4 ha hz hrs;go_enter func97,ntmps97;go_wp2_with (go_at_call 118;(with_reducible refine dp.mono ?_);rintro e w2 ⟨rfl,cN⟩;obtain⟨y0,y1⟩:=HBd.out w2 cN)
 go_region_held3 (fun w'=>w'.cell? (aj b)=some (af (aj mp))/\w'.cell? (aj b 1)=some (U tn)) (first|exact⟨z0,z1⟩|go_keep)
  ((go_at_call 119;refine(DL.out _ (bd cN)).mono ?_;rintro e w3 ⟨rfl,dJ⟩;obtain⟨z0,z1⟩:=HBd.out w3 (fj (bd cN) dJ)))
 have H3:=bU (fj (bd cN) dJ);have BZ:Hid (cj (w.alloc (.cells #[U 0,U 0,U 0] 195)) w.heap.size #[U 0,U 0,U 0] 195):=bU (cj.new w _ _);clear cN dJ y0 y1 z0 z1 dp;go_wp2_with (go_at_call 120;refine(DG.out _ H3.out).mono ?_;rintro e w4 ⟨rfl,ni⟩;have H5:Hid (Below (w.alloc (.cells #[U 0,U 0,U 0] 195)).heap.size (w.alloc (.cells #[U 0,U 0,U 0] 195)) (w4.alloc (.cells #[U 0,U 0,U 0] 195))):=bU (bA (fj H3.out ni) (av _) _);have T5:=BZ.out.cA H5.out;have k0:(w4.alloc (.cells #[U 0,U 0,U 0] 195)).cell? (aj w.heap.size)=some (U 0):=T5.cell 0;have k1:(w4.alloc (.cells #[U 0,U 0,U 0] 195)).cell? (aj w.heap.size 1)=some (U 0):=T5.cell 1;have k2:(w4.alloc (.cells #[U 0,U 0,U 0] 195)).cell? (aj w.heap.size 2)=some (U 0):=T5.cell 2;have f0:=T5.cE 0;have f1:=T5.cE 1;have f2:=T5.cE 2;have H6:=bU (bT HB.out H5.out (by simp));clear T5)
 refine bodyPost_ret (v:=.tuple #[.agg #[U 0,U 0,U 0],U 5]) (by simp[results,Tryz.results97,go_sem,k0,k1,k2]) rfl ?_;exact⟨rfl,((H6.out.setCell (by show w.heap.size<=w.heap.size;omega) _).setCell (by show w.heap.size<=w.heap.size;omega) _).setCell (by show w.heap.size<=w.heap.size;omega) _⟩
end Bd
namespace Bd
open Go.RowKit Go.bZ Go.Gc Sl Mm Hd
structure Bc where
 b:Nat
 mp:Nat
 tn:Nat
 p:Nat
 g:Nat
 cap:Nat
 rs:List Rec
 n:Nat
 pg:Nat
 pw:Nat
 mw:Nat
 mb:Nat
 cO:Nat
 bs:List Nat
def Cx(w:World)(c:Bc)(ws:List Int):Prop:=Ctx w c.b c.mp c.tn c.p c.g c.cap c.rs c.n c.pg c.pw c.mw c.mb c.cO c.bs ws
theorem Cx.cA{w w':World}{c:Bc}{ws:List Int}(h:Cx w c ws)(hb:Below w.heap.size w w'):Cx w' c ws:=Ctx.cA h hb
theorem Cx.bY{S:Nat→Prop}{w w':World}{c:Bc}{ws:List Int}(h:Cx w c ws)(hc:cu S w w')(h0:¬S 0)(h1:¬S c.b)(h2:¬S c.p)(h3:¬S c.g)(h4:¬S c.mp)(h5:¬S c.mw)(h6:¬S c.mb):Cx w' c ws:=
 ⟨h.bd.bY hc h1,h.pl.bY hc h2 h3,h.mm.bY hc h4 h5 h6,h.gw.bY hc h0,h.ok,h.ht,h.hr,h.n1,h.n2⟩
structure Ob(c:Bc)(ws:List Int)(x k v u:Nat)(r:Rec)(X:Nat):Prop where
 sl:eJ c.pw c.rs c.n c.pg x k r
 lt:x<c.n
 at_:at' c.bs c.tn ws (addrOf c.pw c.rs x)=X
 hd:zt X=some (k,v,u)
 fit:v+u+1<=r.size
theorem Ob.jU{c:Bc}{ws:List Int}{x k v u:Nat}{r:Rec}{X:Nat}(o:Ob c ws x k v u r X):k<8/\v+u<=63:=by
 have hd:=o.hd;unfold zt at hd
 split at hd
 .rename_i hc
  injection hd with hd;injection hd with q1 hd;injection hd with q2 q3;omega
 .cases hd
theorem Ob.IP{w:World}{c:Bc}{ws:List Int}(h:Cx w c ws){x k v u:Nat}{r:Rec}{X:Nat}(o:Ob c ws x k v u r X):addrOf c.pw c.rs x+r.size<=c.pg*c.pw:=by
 have ha:=jM h.ok o.lt;have hz:cJ c.rs x=r.size:=by unfold cJ;rw[o.sl.gL]
 omega
theorem mJ{w:World}{c:Bc}{ws:List Int}(h:Cx w c ws){x k v u:Nat}{r:Rec}{X:Nat}(o:Ob c ws x k v u r X):
  ak 97 #[af (aj c.b),U x] w fun e w'=>e=ae (.tuple #[.agg #[U k,U v,U u],U 0])/\Below w.heap.size w w':=Fj h o.sl o.lt X v u o.at_ o.hd o.fit
theorem Fk{w:World}{c:Bc}{ws:List Int}(h:Cx w c ws){q4 q8:Nat}{cA:Int}(b4:cj w q4 #[af (aj c.b)] 136)(b8:cj w q8 #[aa cA] 36)(n1:q8≠q4)(n2:q8≠c.b)(a:Nat)(ha:a<c.pg*c.pw):
  ak 285 #[U a,af (aj q4),af (aj q8)] w fun e w'=>e=ae (.tuple #[])/\cj w' q8 #[aa (at' c.bs c.tn ws a)] 36/\cu (· =q8) w w':=by
 obtain⟨Y,e1,e2,e3,e4⟩:=Ctx.word h ha;rw[e1];have DL:Hid (∀W,Below w.heap.size w W→ak 119 #[af (aj c.mp),U c.tn,U a] W fun e w'=>e=ae (.tuple #[aa Y,U 0])/\Below W.heap.size W w'):=bU (fun W hW=>tV (h.cA hW).mm c.tn _ h.ht e4 (Y:Int) e3);have c4:w.cell? (aj q4)=some (af (aj c.b)):=b4.cell 0;have c0:w.cell? (aj c.b)=some (af (aj c.mp)):=cj.cell h.bd 0;have c1:w.cell? (aj c.b 1)=some (U c.tn):=cj.cell h.bd 1;have HC:Hid (∀W,Below w.heap.size w W→W.cell? (aj q4)=some (af (aj c.b))/\W.cell? (aj c.b)=some (af (aj c.mp))/\W.cell? (aj c.b 1)=some (U c.tn)/\cj W q8 #[aa cA] 36):=bU (fun W hW=>⟨(b4.cA hW).cell 0,cj.cell (h.cA hW).bd 0,cj.cell (h.cA hW).bd 1,b8.cA hW⟩);have n3:=Ne.symm n1;have n4:=Ne.symm n2;generalize c.b=b at *;generalize c.mp=mp at *;clear h b4 b8 ha e1 e2 e3 e4;go_enter func285,ntmps285;go_wp2_with fail;go_region_held3 (fun w'=>w'.cell? (aj q4)=some (af (aj b))/\w'.cell? (aj b)=some (af (aj mp))/\w'.cell? (aj b 1)=some (U c.tn)) (first|exact⟨z4,z0,z1⟩|go_keep)
  ((go_at_call 119;refine(DL.out _ (bd (bV _ _))).mono ?_;rintro e w3 ⟨rfl,dJ⟩;obtain⟨z4,z0,z1,z8⟩:=HC.out w3 (fj (bd (bV _ _)) dJ);have f8:=z8.cE 0;have g8:=z8.cell 0;have Z8:=bU z8;have H3:=bU (fj (bd (bV _ _)) dJ);clear z8 dJ))
 all_goals
  go_wp2_with fail
  go_end0
  exact⟨rfl,Z8.out.set 0 _,(cu.cD (S:=(· =q8)) H3.out).stored (.inl rfl) 0 _⟩
end Bd
namespace Bd
open Go.RowKit Go.bZ Go.Gc Sl Mm Hd
theorem qW{k v u i:Nat}(hk:k<8)(hv:v+u<=63)(hi:i<v+u):kQ (k:Int) v u i=(decide (i<v),0):=by
 unfold kQ;rw[show jK (k:Int) v u=true from aw (by omega)];have h1:¬((i:Int)<0\/(v:Int)+u<=i):=by omega
 simp[h1]
theorem BE{k v u i:Nat}(hk:k<8)(hv:v+u<=63)(hi:v+u<=i):kQ (k:Int) v u i=(false,110):=by
 unfold kQ;rw[show jK (k:Int) v u=true from aw (by omega)];have h1:((i:Int)<0\/(v:Int)+u<=i):=by omega
 simp[h1]
theorem Jv{w:World}{c:Bc}{ws:List Int}(h:Cx w c ws){x k v u:Nat}{r:Rec}{X:Nat}(o:Ob c ws x k v u r X){i:Nat}(hi:i<v+u){ref:Bool}(hr:decide (i<v)=ref)
 {q4 q8:Nat}{cA:Int}(b4:cj w q4 #[af (aj c.b)] 136)(b8:cj w q8 #[aa cA] 36)(n1:q8≠q4)(n2:q8≠c.b):
  ak 284 #[af (aj c.b),.bool ref,U x,U i,.func (.func 285) #[] #[af (aj q4),af (aj q8)]] w fun e w'=>e=ae (U 0)/\cj w' q8 #[aa (at' c.bs c.tn ws (addrOf c.pw c.rs x+1+i))] 36/\cu (· =q8) w w':=by
 have hf:=o.jU;have ha:=o.IP h;have hfit:=o.fit;have dh:=mJ h o;have df:=fun W=>Hd.mG W (k:Int) v u i (by omega) (by omega) (by omega)
 rw[qW hf.1 hf.2 hi,hr] at df;have DP:Hid (∀W,Below w.heap.size w W→ak 118 #[af (aj c.b),U x] W fun e w'=>e=ae (.tuple #[U (addrOf c.pw c.rs x:Int),U r.size,U 0])/\Below W.heap.size W w'):=bU (fun W hW=>jZ (h.cA hW).bd (h.cA hW).pl o.sl o.lt);obtain⟨a,hae⟩:=al (addrOf c.pw c.rs x+1+i);have DO:Hid (∀W,Below w.heap.size w W→ak 285 #[U a,af (aj q4),af (aj q8)] W fun e w'=>e=ae (.tuple #[])/\cj w' q8 #[aa (at' c.bs c.tn ws a)] 36/\cu (· =q8) W w'):=bU (fun W hW=>Fk (h.cA hW) (b4.cA hW) (b8.cA hW) n1 n2 a (by omega));have hsm:=h.pl.small;rw[hae];generalize addrOf c.pw c.rs x=ad at *;have e2:((ad:Int)+1+(i:Int))=(a:Int):=by omega
 have e3:(ref==ref)=true:=by cases ref <;> rfl
 have e4:(ref != ref)=false:=by cases ref <;> rfl
 have QF:Hid (∀W,Below w.heap.size w W→ak 285 #[U ((ad:Int)+1+(i:Int)),af (aj q4),af (aj q8)] W fun e w'=>e=ae (.tuple #[])/\cj w' q8 #[aa (at' c.bs c.tn ws a)] 36/\cu (· =q8) W w'):=bU (fun W hW=>by rw[e2];exact DO.out W hW);clear h o b4 b8 hr hae e2 DO;generalize c.b=b at *;go_enter func284,ntmps284;go_wp2_with (first|(go_at_call 97;(with_reducible refine dh.mono ?_);rintro e w2 ⟨rfl,cN⟩;have H2:Hid (Below w.heap.size w (w2.alloc (.cells #[U k,U v,U u] 195))):=bU (bA cN (av _) _))|(go_at_call 242;refine(df _).mono ?_;rintro e w3 ⟨rfl,dJ⟩;have H3:=bU (fj H2.out dJ))|(go_at_call 118;refine(DP.out _ H3.out).mono ?_;rintro e w4 ⟨rfl,ni⟩;have H4:=bU (fj H3.out ni))|(go_at_call 285;refine(QF.out _ H4.out).mono ?_;rintro e w5 ⟨rfl,q5,k5⟩;have Q5:=bU q5;have K5:=bU k5;clear q5 k5))
 go_ret;exact⟨rfl,Q5.out,(cu.cD (S:=(· =q8)) H4.out).trans K5.out⟩
end Bd
namespace Bd
open Go.RowKit Go.bZ Go.Gc Sl Mm Hd
theorem OC{w:World}{c:Bc}{ws:List Int}(h:Cx w c ws){x k v u:Nat}{r:Rec}{X:Nat}(o:Ob c ws x k v u r X){i:Nat}(hi:v<=i)(f:Value):
  ak 284 #[af (aj c.b),.bool true,U x,U i,f] w fun e w'=>e=ae (U 110)/\Below w.heap.size w w':=by
 have hf:=o.jU;have dh:=mJ h o;have df:=fun W=>Hd.mG W (k:Int) v u i (by omega) (by omega) (by omega)
 generalize c.b=b at *;by_cases xP:i<v+u
 .rw[qW hf.1 hf.2 xP,show decide (i<v)=false from az (by omega)] at df
  clear h o;go_enter func284,ntmps284;go_wp2_with (first|(go_at_call 97;(with_reducible refine dh.mono ?_);rintro e w2 ⟨rfl,cN⟩;have H2:Hid (Below w.heap.size w (w2.alloc (.cells #[U k,U v,U u] 195))):=bU (bA cN (av _) _))|(go_at_call 242;refine(df _).mono ?_;rintro e w3 ⟨rfl,dJ⟩;have H3:=bU (fj H2.out dJ)))
  go_ret;exact⟨rfl,H3.out⟩
 .rw[BE hf.1 hf.2 (by omega)] at df
  clear h o;go_enter func284,ntmps284;go_wp2_with (first|(go_at_call 97;(with_reducible refine dh.mono ?_);rintro e w2 ⟨rfl,cN⟩;have H2:Hid (Below w.heap.size w (w2.alloc (.cells #[U k,U v,U u] 195))):=bU (bA cN (av _) _))|(go_at_call 242;refine(df _).mono ?_;rintro e w3 ⟨rfl,dJ⟩;have H3:=bU (fj H2.out dJ)))
  go_ret;exact⟨rfl,H3.out⟩
theorem zu{w:World}{c:Bc}{ws:List Int}(h:Cx w c ws){x k v u:Nat}{r:Rec}{X:Nat}(o:Ob c ws x k v u r X){i:Nat}(hi:i<v+u){ref:Bool}(hr:decide (i<v)=ref):
  ak 243 #[af (aj c.b),.bool ref,U x,U i] w fun e w'=>e=ae (.tuple #[aa (at' c.bs c.tn ws (addrOf c.pw c.rs x+1+i)),U 0])/\Below w.heap.size w w':=by
 have hlt:=cj.lt h.bd;have dj:Below w.heap.size w ((w.alloc (.cells #[af (aj c.b)] 136)).alloc (.cells #[aa 0] 36)):=((bV _ w).alloc (av _) _).alloc (by simp) _;have d:=Jv (h.cA dj) o hi hr (cj.gR w _ _ _ _) (cj.jf w _ _ _ _) (by omega) (by omega);generalize at' c.bs c.tn ws (addrOf c.pw c.rs x+1+i)=Z at *;have HB:=bU dj;clear h o hi hr dj hlt;generalize c.b=b at *;go_enter func243,ntmps243;go_wp2_with (go_at_call 284;(with_reducible refine d.mono ?_);rintro e w3 ⟨rfl,q3,k3⟩;have k0:w3.cell? (aj (w.heap.size+1))=some (aa Z):=q3.cell 0;have f0:=q3.cE 0;have HP:=bU k3;clear q3 k3)
 refine bodyPost_ret (v:=.tuple #[aa Z,U 0]) (by simp[results,Tryz.results243,go_sem,k0]) rfl ?_;exact⟨rfl,(HB.out.trans (HP.out.below (by simp;omega) (fun k hk=>by have hk:k=w.heap.size+1:=hk;omega))).setCell (by show w.heap.size<=w.heap.size+1;omega) _⟩
theorem Jw{w:World}{c:Bc}{ws:List Int}(h:Cx w c ws){x k v u:Nat}{r:Rec}{X:Nat}(o:Ob c ws x k v u r X){i:Nat}(hi:v<=i):
  ak 243 #[af (aj c.b),.bool true,U x,U i] w fun e w'=>e=ae (.tuple #[aa 0,U 110])/\Below w.heap.size w w':=by
 have dj:Below w.heap.size w ((w.alloc (.cells #[af (aj c.b)] 136)).alloc (.cells #[aa 0] 36)):=((bV _ w).alloc (av _) _).alloc (by simp) _;have d:=fun f=>OC (h.cA dj) o hi f
 have HB:=bU dj;have BN:Hid (cj ((w.alloc (.cells #[af (aj c.b)] 136)).alloc (.cells #[aa 0] 36)) (w.heap.size+1) #[aa 0] 36):=bU (cj.jf w _ _ _ _);clear h o hi dj;generalize c.b=b at *;go_enter func243,ntmps243;go_wp2_with (go_at_call 284;(with_reducible refine(d _).mono ?_);rintro e w3 ⟨rfl,k3⟩;have q3:=BN.out.cA k3;have k0:w3.cell? (aj (w.heap.size+1))=some (aa 0):=q3.cell 0;have f0:=q3.cE 0;have HP:=bU k3;clear q3 k3)
 refine bodyPost_ret (v:=.tuple #[aa 0,U 110]) (by simp[results,Tryz.results243,go_sem,k0]) rfl ?_;exact⟨rfl,(bT HB.out HP.out (by simp;omega)).setCell (by show w.heap.size<=w.heap.size+1;omega) _⟩
theorem qX{w:World}{c:Bc}{ws:List Int}(h:Cx w c ws){x k v u:Nat}{r:Rec}{X:Nat}(o:Ob c ws x k v u r X){i:Nat}(hi:i<v)(hz:at' c.bs c.tn ws (addrOf c.pw c.rs x+1+i)<=c.n):
  ak 187 #[af (aj c.b),U x,U i] w fun e w'=>e=ae (.tuple #[U (at' c.bs c.tn ws (addrOf c.pw c.rs x+1+i)-1),U 0])/\Below w.heap.size w w':=by
 have d:=zu h o (i:=i) (by omega) (aw hi);obtain⟨Y,e1,e2,_,_⟩:=Ctx.word h (a:=addrOf c.pw c.rs x+1+i) (by have:=o.IP h;have:=o.fit;omega);rw[e1] at d hz ⊢;have DS:Hid (∀W,Below w.heap.size w W→W.cell? (aj c.b 2)=some (af (aj c.p))/\ak 68 #[af (aj c.p)] W fun e w'=>e=ae (U c.n)/\W=w'):=bU (fun W hW=>⟨cj.cell (h.cA hW).bd 2,ik (h.cA hW).pl⟩);have hn:=h.pl.jU;clear h o hi e1 e2;generalize c.b=b at *;generalize c.p=p at *;generalize c.n=n at *;go_enter func187,ntmps187;go_wp2_with (first|(go_at_call 243;(with_reducible refine d.mono ?_);rintro e w3 ⟨rfl,dJ⟩;obtain⟨y2,ds⟩:=DS.out w3 dJ;have H3:=bU dJ;clear dJ)|(go_at_call 68;(with_reducible refine ds.mono ?_);rintro e w4 ⟨rfl,rfl⟩))
 go_ret2
 exact⟨rfl,H3.out⟩
theorem My{w:World}{c:Bc}{ws:List Int}(h:Cx w c ws){x k v u:Nat}{r:Rec}{X:Nat}(o:Ob c ws x k v u r X){i:Nat}(hi:v<=i):
  ak 187 #[af (aj c.b),U x,U i] w fun e w'=>e=ae (.tuple #[U 0,U 110])/\Below w.heap.size w w':=by
 have d:=Jw h o hi;clear h o hi;generalize c.b=b at *;go_enter func187,ntmps187;go_wp2_with (go_at_call 243;(with_reducible refine d.mono ?_);rintro e w3 ⟨rfl,dJ⟩;have H3:=bU dJ;clear dJ)
 go_ret2
 exact⟨rfl,H3.out⟩
theorem zv{w:World}{c:Bc}{ws:List Int}(h:Cx w c ws){x k v u:Nat}{r:Rec}{X:Nat}(o:Ob c ws x k v u r X){i:Nat}(hi:v<=i)(xP:i<v+u):
  ak 186 #[af (aj c.b),U x,U i] w fun e w'=>e=ae (.tuple #[aa (at' c.bs c.tn ws (addrOf c.pw c.rs x+1+i)),U 0])/\Below w.heap.size w w':=by
 have d:=zu h o (i:=i) xP (az (by omega));generalize at' c.bs c.tn ws (addrOf c.pw c.rs x+1+i)=Z at *;clear h o hi xP;generalize c.b=b at *;go_enter func186,ntmps186;go_wp2_with (go_at_call 243;(with_reducible refine d.mono ?_);rintro e w3 ⟨rfl,dJ⟩;have H3:=bU dJ;clear dJ)
 go_ret2
 exact⟨rfl,H3.out⟩
end Bd
namespace Bd
open Go.RowKit Go.bZ Go.Gc Sl Mm Hd
structure Bc.Ne(c:Bc):Prop where
 b:c.b≠c.mw
 p:c.p≠c.mw
 g:c.g≠c.mw
 z:0≠c.mw
theorem Cx.mem{w w':World}{c:Bc}{ws cR:List Int}(h:Cx w c ws)(hn:c.Ne)(hm:fI w' c.mp c.mw c.mb c.cO c.bs cR)(hc:cu (· =c.mw) w w'):Cx w' c cR:=
 ⟨h.bd.bY hc hn.b,h.pl.bY hc hn.p hn.g,hm,h.gw.bY hc hn.z,h.ok,h.ht,h.hr,h.n1,h.n2⟩
theorem BF{w:World}{c:Bc}{ws:List Int}(h:Cx w c ws)(hn:c.Ne){q4 q8:Nat}{z:Int}(iX:0<=z)(jm:z<18446744073709551616)(b4:cj w q4 #[af (aj c.b)] 136)(b8:cj w q8 #[aa z] 36)(n1:q4≠c.mw)(n2:q8≠c.mw)(a:Nat)(ha:a<c.pg*c.pw):
  ak 286 #[U a,af (aj q4),af (aj q8)] w fun e w'=>e=ae (.tuple #[])/\Cx w' c (ws.set (c.bs.getD c.tn 0+a) z)/\cu (· =c.mw) w w':=by
 obtain⟨Y,e1,e2,e3,e4⟩:=Ctx.word h ha;have DL:Hid (∀W,Below w.heap.size w W→ak 234 #[af (aj c.mp),U c.tn,U a,aa z] W fun e w'=>e=ae (U 0)/\fI w' c.mp c.mw c.mb c.cO c.bs (ws.set (c.bs.getD c.tn 0+a) z)/\cu (· =c.mw) W w'):=bU (fun W hW=>vm (h.cA hW).mm c.tn _ h.ht e4 z iX jm h.n1 h.n2);have c4:w.cell? (aj q4)=some (af (aj c.b)):=b4.cell 0;have c8:w.cell? (aj q8)=some (aa z):=b8.cell 0;have c0:w.cell? (aj c.b)=some (af (aj c.mp)):=cj.cell h.bd 0;have c1:w.cell? (aj c.b 1)=some (U c.tn):=cj.cell h.bd 1;have HC:Hid (∀W,cu (· =c.mw) w W→W.cell? (aj q4)=some (af (aj c.b))/\W.cell? (aj c.b)=some (af (aj c.mp))/\W.cell? (aj c.b 1)=some (U c.tn)/\W.cell? (aj q8)=some (aa z)):=bU (fun W hW=>⟨(b4.bY hW n1).cell 0,(cj.bY h.bd hW hn.b).cell 0,(cj.bY h.bd hW hn.b).cell 1,(b8.bY hW n2).cell 0⟩);have HF:Hid (∀W,fI W c.mp c.mw c.mb c.cO c.bs (ws.set (c.bs.getD c.tn 0+a) z)→cu (· =c.mw) w W→Cx W c (ws.set (c.bs.getD c.tn 0+a) z)):=bU (fun W hm hc=>h.mem hn hm hc);have HR:=bU (cu.refl (· =c.mw) w);generalize c.bs.getD c.tn 0+a=j at *;clear h b4 b8 ha e1 e2 e3 e4 hn n1 n2 iX jm;obtain⟨b,hb⟩:=al (c.b);obtain⟨mp,hmp⟩:=al (c.mp);rw[hb] at c4 c0 c1 HC;rw[hmp] at c0 HC DL;have HMP:=bU hmp;clear hb hmp;go_enter func286,ntmps286;go_wp2_with fail;go_region_held3 (fun w'=>w'.cell? (aj q4)=some (af (aj b))/\w'.cell? (aj b)=some (af (aj mp))/\w'.cell? (aj b 1)=some (U c.tn)/\w'.cell? (aj q8)=some (aa z)) (first|exact⟨z4,z0,z1,z8⟩|go_keep)
  ((go_at_call 234;refine(DL.out _ (bd (bV _ _))).mono ?_;rintro e w3 ⟨rfl,RU,Mx⟩;obtain⟨z4,z0,z1,z8⟩:=HC.out w3 (HR.out.drew.trans Mx);have M3:=bU RU;have H3:=bU (HR.out.drew.trans Mx);clear RU Mx))
 all_goals
  go_wp2_with fail
  go_end0
  exact⟨rfl,HF.out _ (by rw[HMP.out];exact M3.out) H3.out,H3.out⟩
theorem Fl{w:World}{c:Bc}{ws:List Int}(h:Cx w c ws)(hn:c.Ne){x k v u:Nat}{r:Rec}{X:Nat}(o:Ob c ws x k v u r X){i:Nat}(hi:i<v+u){ref:Bool}(hr:decide (i<v)=ref)
 {q4 q8:Nat}{z:Int}(iX:0<=z)(jm:z<18446744073709551616)(b4:cj w q4 #[af (aj c.b)] 136)(b8:cj w q8 #[aa z] 36)(n1:q4≠c.mw)(n2:q8≠c.mw):
  ak 284 #[af (aj c.b),.bool ref,U x,U i,.func (.func 286) #[] #[af (aj q4),af (aj q8)]] w fun e w'=>e=ae (U 0)/\Cx w' c (ws.set (c.bs.getD c.tn 0+(addrOf c.pw c.rs x+1+i)) z)/\cu (· =c.mw) w w':=by
 have hf:=o.jU;have ha:=o.IP h;have hfit:=o.fit;have dh:=mJ h o;have df:=fun W=>Hd.mG W (k:Int) v u i (by omega) (by omega) (by omega)
 rw[qW hf.1 hf.2 hi,hr] at df;have DP:Hid (∀W,Below w.heap.size w W→ak 118 #[af (aj c.b),U x] W fun e w'=>e=ae (.tuple #[U (addrOf c.pw c.rs x:Int),U r.size,U 0])/\Below W.heap.size W w'):=bU (fun W hW=>jZ (h.cA hW).bd (h.cA hW).pl o.sl o.lt);obtain⟨a,hae⟩:=al (addrOf c.pw c.rs x+1+i);have DO:Hid (∀W,Below w.heap.size w W→ak 286 #[U a,af (aj q4),af (aj q8)] W fun e w'=>e=ae (.tuple #[])/\Cx w' c (ws.set (c.bs.getD c.tn 0+a) z)/\cu (· =c.mw) W w'):=bU (fun W hW=>BF (h.cA hW) hn iX jm (b4.cA hW) (b8.cA hW) n1 n2 a (by omega));have hsm:=h.pl.small;rw[hae];generalize addrOf c.pw c.rs x=ad at *;have e2:((ad:Int)+1+(i:Int))=(a:Int):=by omega
 have e3:(ref==ref)=true:=by cases ref <;> rfl
 have e4:(ref != ref)=false:=by cases ref <;> rfl
 have QF:Hid (∀W,Below w.heap.size w W→ak 286 #[U ((ad:Int)+1+(i:Int)),af (aj q4),af (aj q8)] W fun e w'=>e=ae (.tuple #[])/\Cx w' c (ws.set (c.bs.getD c.tn 0+a) z)/\cu (· =c.mw) W w'):=bU (fun W hW=>by rw[e2];exact DO.out W hW);clear h o b4 b8 hr hae e2 DO hn n1 n2 iX jm;generalize ws.set (c.bs.getD c.tn 0+a) z=jG at *;go_enter func284,ntmps284;go_wp2_with (first|(go_at_call 97;(with_reducible refine dh.mono ?_);rintro e w2 ⟨rfl,cN⟩;have H2:Hid (Below w.heap.size w (w2.alloc (.cells #[U k,U v,U u] 195))):=bU (bA cN (av _) _))|(go_at_call 242;refine(df _).mono ?_;rintro e w3 ⟨rfl,dJ⟩;have H3:=bU (fj H2.out dJ))|(go_at_call 118;refine(DP.out _ H3.out).mono ?_;rintro e w4 ⟨rfl,ni⟩;have H4:=bU (fj H3.out ni))|(go_at_call 286;refine(QF.out _ H4.out).mono ?_;rintro e w5 ⟨rfl,q5,k5⟩;have Q5:=bU q5;have K5:=bU k5;clear q5 k5))
 go_ret;exact⟨rfl,Q5.out,(cu.cD (S:=(· =c.mw)) H4.out).trans K5.out⟩
theorem vB{w:World}{c:Bc}{ws:List Int}(h:Cx w c ws)(hn:c.Ne){x k v u:Nat}{r:Rec}{X:Nat}(o:Ob c ws x k v u r X){i:Nat}(hi:i<v+u){ref:Bool}(hr:decide (i<v)=ref){z:Int}(iX:0<=z)(jm:z<18446744073709551616):
  ak 245 #[af (aj c.b),.bool ref,U x,U i,aa z] w fun e w'=>e=ae (U 0)/\Cx w' c (ws.set (c.bs.getD c.tn 0+(addrOf c.pw c.rs x+1+i)) z)/\cu (· =c.mw) w w':=by
 have hlt:=h.mm.b1.lt;have dj:Below w.heap.size w ((w.alloc (.cells #[af (aj c.b)] 136)).alloc (.cells #[aa z] 36)):=((bV _ w).alloc (av _) _).alloc (by simp) _;have d:=Fl (h.cA dj) hn o hi hr iX jm (cj.gR w _ _ _ _) (cj.jf w _ _ _ _) (by omega) (by omega);generalize ws.set (c.bs.getD c.tn 0+(addrOf c.pw c.rs x+1+i)) z=jG at *;have HB:=bU dj;clear h o hi hr dj hlt iX jm hn;go_enter func245,ntmps245;go_wp2_with (go_at_call 284;(with_reducible refine d.mono ?_);rintro e w3 ⟨rfl,q3,k3⟩;have Q:=bU q3;have HP:=bU k3;clear q3 k3)
 go_ret;exact⟨rfl,Q.out,(cu.cD (S:=(· =c.mw)) HB.out).trans HP.out⟩
theorem xQ{w:World}{c:Bc}{ws:List Int}(h:Cx w c ws)(hn:c.Ne){x k v u:Nat}{r:Rec}{X:Nat}(o:Ob c ws x k v u r X){i:Nat}(hi:v<=i)(xP:i<v+u){z:Int}(iX:0<=z)(jm:z<18446744073709551616):
  ak 189 #[af (aj c.b),U x,U i,aa z] w fun e w'=>e=ae (U 0)/\Cx w' c (ws.set (c.bs.getD c.tn 0+(addrOf c.pw c.rs x+1+i)) z)/\cu (· =c.mw) w w':=by
 have d:=vB h hn o (i:=i) xP (az (by omega)) iX jm;generalize ws.set (c.bs.getD c.tn 0+(addrOf c.pw c.rs x+1+i)) z=jG at *;clear h o hi xP iX jm hn;go_enter func189,ntmps189;go_wp2_with (go_at_call 245;(with_reducible refine d.mono ?_);rintro e w3 ⟨rfl,q3,k3⟩;have Q:=bU q3;have HP:=bU k3;clear q3 k3)
 go_ret;exact⟨rfl,Q.out,HP.out⟩
theorem sS{w:World}{c:Bc}{ws:List Int}(h:Cx w c ws)(hn:c.Ne){x k v u:Nat}{r:Rec}{X:Nat}(o:Ob c ws x k v u r X){i:Nat}(hi:i<v){z:Int}(iX: -1<=z)(jm:z<c.n):
  ak 190 #[af (aj c.b),U x,U i,U z] w fun e w'=>e=ae (U 0)/\Cx w' c (ws.set (c.bs.getD c.tn 0+(addrOf c.pw c.rs x+1+i)) (z+1))/\cu (· =c.mw) w w':=by
 have hfew:=h.pl.jU;have dp:=jZ h.bd h.pl o.sl o.lt;have DS:Hid (∀W,Below w.heap.size w W→W.cell? (aj c.b 2)=some (af (aj c.p))/\(ak 68 #[af (aj c.p)] W fun e w'=>e=ae (U c.n)/\W=w')/\ak 245 #[af (aj c.b),.bool true,U x,U i,aa (z+1)] W fun e w'=>e=ae (U 0)/\Cx w' c (ws.set (c.bs.getD c.tn 0+(addrOf c.pw c.rs x+1+i)) (z+1))/\cu (· =c.mw) W w'):=bU (fun W hW=>⟨cj.cell (h.cA hW).bd 2,ik (h.cA hW).pl,vB (h.cA hW) hn o (i:=i) (by omega) (aw hi) (by omega) (by omega)⟩);generalize ws.set (c.bs.getD c.tn 0+(addrOf c.pw c.rs x+1+i)) (z+1)=jG at *;generalize addrOf c.pw c.rs x=ad at *;clear h o hi hn;go_enter func190,ntmps190;go_wp2_with (first|(go_at_call 118;(with_reducible refine dp.mono ?_);rintro e w3 ⟨rfl,dJ⟩;obtain⟨y2,ds,dst⟩:=DS.out w3 dJ;have H3:=bU dJ;clear dJ)|(go_at_call 68;(with_reducible refine ds.mono ?_);rintro e w4 ⟨rfl,rfl⟩)|(go_at_call 245;(with_reducible refine dst.mono ?_);rintro e w5 ⟨rfl,q5,k5⟩;have Q:=bU q5;have HP:=bU k5;clear q5 k5))
 go_ret;exact⟨rfl,Q.out,(cu.cD (S:=(· =c.mw)) H3.out).trans HP.out⟩
end Bd
end Go.Proofs.YtgblmelijlgimaaGreatDoor
