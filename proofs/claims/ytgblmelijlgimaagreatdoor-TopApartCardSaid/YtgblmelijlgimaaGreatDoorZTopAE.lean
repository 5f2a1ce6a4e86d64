/- Parts of the proof of TopApart. -/
import Derived.Test.YtgblmelijlgimaaGreatDoorZTopAD
import Derived.Deep.LoopGhost
import Derived.StillTailTactics
set_option maxRecDepth 100000
namespace Go.Gc
def Rec.cells(r:Rec):List Value:=[U r.size,U r.first,U r.many,U r.cB,U r.fk]
def Rec.val(r:Rec):Value:=.agg #[U r.size,U r.first,U r.many,U r.cB,U r.fk]
end Go.Gc
namespace Go.Proofs.YtgblmelijlgimaaGreatDoor
open Go.Proofs.Tryz
namespace Sl
open Go.RowKit Go.bZ Go.Gc
structure ff(w:World)(p g cap:Nat)(rs:List Rec)(n pg pw:Nat):Prop where
 b0:cj w p #[ai (aj g) rs.length cap,U n,U pg,U pw] 172
 b1:∃rest:List Value,∃t,cj w g ((rs.flatMap Rec.cells)++rest).toArray t
 pos:0<pw
 small:pg*pw<=1000000000
 jU:n<=65536
 nk:pg<=1000000000
 Tw:pw<=1000000000
 ne:p≠g
 l8:rs.length<=1000
theorem ff.bY{S:Nat→Prop}{w w':World}{p g cap:Nat}{rs:List Rec}{n pg pw:Nat}(h:ff w p g cap rs n pg pw)(hc:cu S w w')(h1:¬S p)(h2:¬S g):ff w' p g cap rs n pg pw:=by
 obtain⟨rest,t,hb⟩:=h.b1;exact⟨h.b0.bY hc h1,⟨rest,t,hb.bY hc h2⟩,h.pos,h.small,h.jU,h.nk,h.Tw,h.ne,h.l8⟩
theorem ff.cA{w w':World}{p g cap:Nat}{rs:List Rec}{n pg pw:Nat}(h:ff w p g cap rs n pg pw)(hb:Below w.heap.size w w'):ff w' p g cap rs n pg pw:=h.bY (cu.cD hb) (S:=fun _=>False) id id
theorem cC{w:World}{p g cap:Nat}{rs:List Rec}{n pg pw:Nat}(h:ff w p g cap rs n pg pw):ak 96 #[af (aj p)] w fun e w'=>e=ae (.bool false)/\w=w':=by
 have c3:w.cell? (aj p 3)=some (U pw):=h.b0.cell 3;have hp:((pw:Int)==0)=false:=by have:=h.pos;simp;omega
 clear h;go_enter func96,ntmps96;go_wp2_with fail;go_ret;exact⟨rfl,rfl⟩
theorem ik{w:World}{p g cap:Nat}{rs:List Rec}{n pg pw:Nat}(h:ff w p g cap rs n pg pw):ak 68 #[af (aj p)] w fun e w'=>e=ae (U n)/\w=w':=by
 have d:=cC h;have c1:w.cell? (aj p 1)=some (U n):=h.b0.cell 1;clear h;go_enter func68,ntmps68;go_wp2_with (go_at_call 96;refine d.mono ?_;rintro e w' ⟨rfl,rfl⟩)
 go_ret;exact⟨rfl,rfl⟩
theorem AZ{w:World}{p g cap:Nat}{rs:List Rec}{n pg pw:Nat}(h:ff w p g cap rs n pg pw):ak 126 #[af (aj p)] w fun e w'=>e=ae (U pg)/\w=w':=by
 have d:=cC h;have c2:w.cell? (aj p 2)=some (U pg):=h.b0.cell 2;clear h;go_enter func126,ntmps126;go_wp2_with (go_at_call 96;refine d.mono ?_;rintro e w' ⟨rfl,rfl⟩)
 go_ret;exact⟨rfl,rfl⟩
theorem A8{w:World}{p g cap:Nat}{rs:List Rec}{n pg pw:Nat}(h:ff w p g cap rs n pg pw):ak 93 #[af (aj p)] w fun e w'=>e=ae (U ((pg*pw:Nat):Int))/\cu (fun _=>False) w w':=by
 have d:=cC h;have c2:w.cell? (aj p 2)=some (U pg):=h.b0.cell 2;have c3:w.cell? (aj p 3)=some (U pw):=h.b0.cell 3;have hm:((pg:Int)*(pw:Int))=((pg*pw:Nat):Int):=(Int.natCast_mul _ _).symm;have hs:=h.small;clear h;obtain⟨m,hmm⟩:=al (pg*pw);rw[hmm] at hm hs ⊢;clear hmm;go_enter func93,ntmps93;go_wp2_with (go_at_call 96;refine d.mono ?_;rintro e w' ⟨rfl,rfl⟩)
 go_region
 go_wp2_with fail;go_ret;exact⟨rfl,(cu.refl _ w).drew⟩
end Sl
namespace Sl
open Go.RowKit Go.bZ Go.Gc
theorem A9(w:World)(r:Rec)(b:Nat)(x:Int)(hb:w.cell? (aj b)=some (U x)):ak 202 #[r.val,af (aj b)] w fun e w'=>e=ae (.bool (decide ((r.first:Int)<=x)))/\Below w.heap.size w w':=by
 have cN:∀C t,(w.alloc (.cells C t)).cell? (aj b)=some (U x):=fun C t=>(((bV _ w).alloc (av _) (.cells C t)).cell (p:=⟨b,0,none⟩) (World.block_lt_of_cell? w _ hb)).trans hb
 have dJ:=cN #[U r.size,U r.first,U r.many,U r.cB,U r.fk] 174;clear cN;unfold Rec.val;go_enter func202,ntmps202;go_wp2_with fail
 try go_region
 try go_wp2_with fail
 go_ret;exact⟨rfl,by first|exact(bV _ w).alloc (av _) _|exact((bV _ w).alloc (av _) _).drew⟩
theorem Je(w:World)(r:Rec)(b:Nat)(x:Int)(hb:w.cell? (aj b)=some (U x)):ak 309 #[r.val,af (aj b)] w fun e w'=>e=ae (.bool (decide ((r.cB:Int)<=x)))/\Below w.heap.size w w':=by
 have cN:∀C t,(w.alloc (.cells C t)).cell? (aj b)=some (U x):=fun C t=>(((bV _ w).alloc (av _) (.cells C t)).cell (p:=⟨b,0,none⟩) (World.block_lt_of_cell? w _ hb)).trans hb
 have dJ:=cN #[U r.size,U r.first,U r.many,U r.cB,U r.fk] 174;clear cN;unfold Rec.val;go_enter func309,ntmps309;go_wp2_with fail
 try go_region
 try go_wp2_with fail
 go_ret;exact⟨rfl,by first|exact(bV _ w).alloc (av _) _|exact((bV _ w).alloc (av _) _).drew⟩
end Sl
namespace Sl
open Go.RowKit Go.bZ Go.Gc
theorem qH(g:Nat)(cb:Array Value)(n k:Nat)(w:World)(hk:k<=n)(hn:n<4611686018427387904)
 (hf:∀(W:World) (i:Nat),i<n→Below w.heap.size w W→ak g (#[U i]++cb) W fun e W'=>e=ae (.bool (decide (k<=i)))/\Below w.heap.size w W')
 (eg:∀args w,(callFunc g args).run prog w=.ok (.enter g args) w):
  ak 224 #[U n,.func (.func g) #[] cb] w fun e w'=>e=ae (U k)/\Below w.heap.size w w':=by
 have HF:=bU hf;clear hf;go_enter func224,ntmps224
 go_wp2
 go_loopg [5,6] n (fun kx s5 s6 wr=>∃(lo hi:Nat),s5=U lo/\s6=U hi/\lo<=k/\k<=hi/\hi<=n/\hi-lo<=kx/\Below w.heap.size w wr)
 case atStart=>exact⟨0,n,rfl,rfl,aW _,hk,av _,by omega,bV _ _⟩
 case round=>
  obtain⟨lo,hi,rfl,rfl,hlo,hhi,hin,hg,hb⟩:=hrel;by_cases hlt:lo<hi
  .have hc:=HF.out wr ((lo+hi)/2) (by omega) hb
   rw[show(((lo+hi)/2:Nat):Int)=((lo:Int)+(hi:Int))/2 by omega] at hc;by_cases hp:k<=(lo+hi)/2
   .rw[aw hp] at hc
    go_wp2_with (go_at_fn g;refine hc.mono ?_;rintro e w' ⟨rfl,cN⟩)
    go_roundg ((lo+hi)/2-lo)
    case measure=>omega
    case rel=>exact⟨lo,(lo+hi)/2,rfl,by rw[show((lo:Int)+(hi:Int))/2=(((lo+hi)/2:Nat):Int) by omega],hlo,hp,by omega,by omega,cN⟩
   .rw[az hp] at hc
    go_wp2_with (go_at_fn g;refine hc.mono ?_;rintro e w' ⟨rfl,cN⟩)
    go_roundg (hi-((lo+hi)/2+1))
    case measure=>omega
    case rel=>exact⟨(lo+hi)/2+1,hi,by rw[show((lo:Int)+(hi:Int))/2+1=(((lo+hi)/2+1:Nat):Int) by omega],rfl,by omega,hhi,hin,by omega,cN⟩
  .obtain rfl:hi=lo:=by omega
   obtain rfl:hi=k:=by omega
   go_wp2
   go_ret;exact⟨rfl,hb⟩
end Sl
namespace Sl
open Go.RowKit Go.bZ Go.Gc
theorem tO:∀(rs:List Rec) (rest:List Value) (k:Nat) (r:Rec),rs[k]?=some r→((rs.flatMap Rec.cells)++rest)[k*5]?=some (U r.size)/\((rs.flatMap Rec.cells)++rest)[k*5+1]?=some (U r.first)/\((rs.flatMap Rec.cells)++rest)[k*5+2]?=some (U r.many)/\((rs.flatMap Rec.cells)++rest)[k*5+3]?=some (U r.cB)/\((rs.flatMap Rec.cells)++rest)[k*5+4]?=some (U r.fk)
 | [],_,_,_,h=>by simp at h
 | e::rs,rest,0,r,h=>by simp at h;subst h;simp[Rec.cells]
 | e::rs,rest,k+1,r,h=>by
   have hh:=tO rs rest k r (by simpa using h);have h1:∀j,((List.flatMap Rec.cells (e::rs))++rest)[(k+1)*5+j]?=((rs.flatMap Rec.cells)++rest)[k*5+j]?:=fun j=>by
    rw[List.flatMap_cons,List.append_assoc,aS (by simp[Rec.cells];omega)]
    congr 1
    simp[Rec.cells];omega
   have h0:=h1 0;simp only[bN] at h0;rw[h0,h1 1,h1 2,h1 3,h1 4];exact hh
structure Ox(w:World)(g k:Nat)(r:Rec):Prop where
 c0:w.cell? (aj g (k*5))=some (U r.size)
 c1:w.cell? (aj g (k*5+1))=some (U r.first)
 c2:w.cell? (aj g (k*5+2))=some (U r.many)
 c3:w.cell? (aj g (k*5+3))=some (U r.cB)
 c4:w.cell? (aj g (k*5+4))=some (U r.fk)
theorem ff.at{w:World}{p g cap:Nat}{rs:List Rec}{n pg pw:Nat}(h:ff w p g cap rs n pg pw){k:Nat}{r:Rec}(hk:rs[k]?=some r):Ox w g k r:=by
 obtain⟨rest,t,hb⟩:=h.b1;have e:=tO rs rest k r hk;exact⟨(hb.cell _).trans (by rw[aO];exact e.1),(hb.cell _).trans (by rw[aO];exact e.2.1),(hb.cell _).trans (by rw[aO];exact e.2.2.1),(hb.cell _).trans (by rw[aO];exact e.2.2.2.1),(hb.cell _).trans (by rw[aO];exact e.2.2.2.2)⟩
theorem Ba(w:World){p g cap:Nat}{rs:List Rec}{n pg pw:Nat}(h:ff w p g cap rs n pg pw)(gs:Nat)(cb:Array Value)(bs bp i:Nat)(r:Rec)(hr:rs[i]?=some r)(b:Bool)
 (h1:w.cell? (aj bs)=some (.func (.func gs) #[] cb))(h2:w.cell? (aj bp)=some (af (aj p)))
 (hf:∀W,Below w.heap.size w W→ak gs (#[r.val]++cb) W fun e W'=>e=ae (.bool b)/\Below W.heap.size W W')
 (eg:∀args w,(callFunc gs args).run prog w=.ok (.enter gs args) w):
  ak 254 #[U i,af (aj bs),af (aj bp)] w fun e w'=>e=ae (.bool (!b))/\Below w.heap.size w w':=by
 have c0:w.cell? (aj p)=some (ai (aj g) rs.length cap):=h.b0.cell 0;obtain⟨d0,d1,d2,d3,d4⟩:=h.at hr;have hl:=h.l8;have hi:i<rs.length:=(au.1 hr).1;clear h hr;unfold Rec.val at hf;have HF:=bU hf;clear hf;go_enter func254,ntmps254
 go_wp2
 go_region_with (go_at_fn gs;refine(HF.out _ (by first|exact(bV _ _).drew |exact(bV _ _))).mono ?_;rintro e w2 ⟨rfl,hb⟩)
 all_goals
  go_wp2_with fail;go_ret;exact⟨rfl,by first|exact hb|exact hb.drew|exact(bV _ w).drew.trans hb⟩
end Sl
namespace Sl
open Go.RowKit Go.bZ Go.Gc
theorem lS(w:World){p g cap:Nat}{rs:List Rec}{n pg pw:Nat}(h:ff w p g cap rs n pg pw)(gs:Nat)(cb:Array Value)(k:Nat)(hk:k<rs.length)(b:Rec→Bool)(hb:∀(j:Nat) (s:Rec),rs[j]?=some s→(b s=true↔j<=k))
 (hf:∀(W:World) (r:Rec),Below w.heap.size w W→ak gs (#[r.val]++cb) W fun e W'=>e=ae (.bool (b r))/\Below W.heap.size W W')
 (eg:∀args w,(callFunc gs args).run prog w=.ok (.enter gs args) w):
  ak 201 #[af (aj p),.func (.func gs) #[] cb] w fun e w'=>e=ae (U k)/\Below w.heap.size w w':=by
 have c0:w.cell? (aj p)=some (ai (aj g) rs.length cap):=h.b0.cell 0;have hl:=h.l8;have B1:Hid (Below w.heap.size w ((w.alloc (.cells #[af (aj p)] 134)).alloc (.cells #[.func (.func gs) #[] cb] 292))):=bU (((bV _ w).alloc (av _) _).alloc (by simp) _);have S:Hid (ak 224 #[U rs.length,.func (.func 254) #[] #[af (aj (w.heap.size+1)),af (aj w.heap.size)]] ((w.alloc (.cells #[af (aj p)] 134)).alloc (.cells #[.func (.func gs) #[] cb] 292)) fun e w'=>e=ae (U ((k+1:Nat):Int))/\Below w.heap.size w w'):=by
  refine bU ((qH 254 _ rs.length (k+1) _ (by omega) (by omega) (fun W i hi hW=>?_) (fun _ _=>by kernel_rfl)).mono ?_)
  .have sJ:Below w.heap.size w W:=B1.out.trans (hW.mono (by simp;omega))
   have hWs:=hW.size;have hr:rs[i]?=some rs[i]:=aq hi;have e1:W.cell? (aj (w.heap.size+1))=some (.func (.func gs) #[] cb):=(hW.cell (p:=⟨w.heap.size+1,0,none⟩) (by simp)).trans (by have:=(cj.new (w.alloc (.cells #[af (aj p)] 134)) #[.func (.func gs) #[] cb] 292).cell 0;rw[World.size_alloc] at this;exact this);have e2:W.cell? (aj w.heap.size)=some (af (aj p)):=(hW.cell (p:=⟨w.heap.size,0,none⟩) (by simp;omega)).trans (((cj.new w #[af (aj p)] 134).alloc _).cell 0);refine(Ba W (h.cA sJ) gs cb _ _ i rs[i] hr (b rs[i]) e1 e2 (fun W2 iz=>hf W2 rs[i] (sJ.trans (iz.mono sJ.size))) eg).mono ?_;rintro e w2 ⟨rfl,cN⟩;refine⟨?_,hW.trans (cN.mono hWs)⟩;have:=hb i rs[i] hr
   congr 2
   rw[Bool.eq_iff_iff];by_cases e:i<=k
   .rw[this.2 e];simp;omega
   .have hbf:b rs[i]=false:=by
     cases e3:b rs[i]
     .rfl
     .exact absurd (this.1 e3) e
    rw[hbf];simp;omega
  .rintro e w2 ⟨rfl,cN⟩
   exact⟨rfl,B1.out.trans (cN.mono (by simp;omega))⟩
 have c1:=lL c0;clear h hb hf eg;go_enter func201,ntmps201;go_wp2_with (go_at_call 224;refine S.out.mono ?_;rintro e w' ⟨rfl,cN⟩)
 go_ret;exact⟨by first|rfl|(congr 2;omega),cN⟩
theorem nY(w:World){p g cap:Nat}{rs:List Rec}{n pg pw:Nat}(h:ff w p g cap rs n pg pw){P x k:Nat}{r:Rec}(hs:eJ P rs n pg x k r)(hx:x<n):
  ak 147 #[af (aj p),U x] w fun e w'=>e=ae (.tuple #[U k,U ((x-r.first:Nat):Int),U 0])/\Below w.heap.size w w':=by
 have d:=fun w h=>@cC w p g cap rs n pg pw h
 have dj:=(bV _ w).alloc (av _) (.cells #[U x] 3);have h1:=h.cA dj;have c1:(w.alloc (.cells #[U x] 3)).cell? (aj p 1)=some (U n):=h1.b0.cell 1;have hl:=h.l8;have hkl:=hs.kl;have hn:=h.jU;have hlo:=hs.lo;have dn:=d _ h1;have S:=fun W (hW:Below (w.alloc (.cells #[U x] 3)).heap.size (w.alloc (.cells #[U x] 3)) W)=>lS W (h1.cA hW) 202 #[af (aj w.heap.size)] k hs.kl (fun r=>decide ((r.first:Int)<=x)) (fun j s hj=>by have:=hs.mn j s hj;rw[decide_eq_true_iff];omega) (fun W2 r2 iz=>A9 W2 r2 w.heap.size x (by
  have tP:=hW.trans (iz.mono hW.size);exact(tP.cell (p:=⟨w.heap.size,0,none⟩) (by simp)).trans ((cj.new w #[U x] 3).cell 0))) (fun _ _=>by kernel_rfl)
 have HS:=bU S;have H1:=bU h1;have HA:=bU hs.at';clear S h h1 hs d;go_enter func147,ntmps147;go_wp2_with (go_at_call 96;refine dn.mono ?_;rintro e w' ⟨rfl,rfl⟩)
 go_quiet (fail)
 go_wp2_with (go_at_call 201;refine(HS.out _ (by first|exact bV _ _|exact(bV _ _).drew |exact jh (bV _ _) _)).mono ?_;rintro e w2 ⟨rfl,cN⟩)
 have dJ:=bT ((bV _ _).alloc (av _) (.cells #[U x] 3)) (bT (jh (bV _ _) _) cN (av _)) (by simp);have ni:=bT (jh (bV _ _) _) cN (av _);have po:=H1.out.cA ni;have e0:w2.cell? (aj p)=some (ai (aj g) rs.length cap):=po.b0.cell 0;have e1:w2.cell? (aj w.heap.size)=some (U x):=(ni.cell (p:=⟨w.heap.size,0,none⟩) (by simp)).trans (eX w _ _ 0);have e2:=(po.at HA.out).c1;have hr:(x:Int)-(r.first:Int)=((x-r.first:Nat):Int):=by omega
 clear po ni cN c1;have HB:=bU dJ;clear dJ
 go_quiet (fail)
 go_wp2_with fail
 go_ret3
 exact⟨rfl,jh HB.out _⟩
end Sl
namespace Sl
open Go.RowKit Go.bZ Go.Gc
theorem zd(a b c d e:Int):(#[Value.int .i64 a,U b,U c,U d,U e]).all (·.oneCell')=true:=by simp[Value.oneCell']
set_option maxHeartbeats 2000000 in
theorem Mp(w:World){p g cap:Nat}{rs:List Rec}{n pg pw:Nat}(h:ff w p g cap rs n pg pw){q k:Nat}{r:Rec}(hs:xu rs pg q k r)(hmany:r.first+r.many<=n):
  ak 291 #[af (aj p),U q] w fun e w'=>e=ae (.tuple #[r.val,U (((q-r.cB)*r.fk:Nat):Int)])/\Below w.heap.size w w':=by
 have dj:=((bV _ w).alloc (av _) (.cells #[U q] 3)).alloc (by simp) (.cells #[U 0,U 0,U 0,U 0,U 0] 174);have h1:=h.cA dj;have hl:=h.l8;have hkl:=hs.kl;have hn:=h.jU;have hlo:=hs.lo;have hah:=hs.ah;have Qs:=hs.Ml;have hsub:(q:Int)-(r.cB:Int)=((q-r.cB:Nat):Int):=by omega
 have hmul:((q-r.cB:Nat):Int)*(r.fk:Int)=(((q-r.cB)*r.fk:Nat):Int):=(Int.natCast_mul _ _).symm;have Mq:(q-r.cB)*r.fk<=65536:=by omega
 have hy:q-r.cB<=65536:=aE (Nat.le_mul_of_pos_right _ hs.fk) Mq;have S:=fun W (hW:Below (w.heap.size+1+1) ((w.alloc (.cells #[U q] 3)).alloc (.cells #[U 0,U 0,U 0,U 0,U 0] 174)) W)=>lS W (h1.cA (hW.mono (by simp))) 309 #[af (aj w.heap.size)] k hs.kl (fun r=>decide ((r.cB:Int)<=q)) (fun j s hj=>by have:=hs.mn j s hj;rw[decide_eq_true_iff];omega) (fun W2 r2 iz=>Je W2 r2 w.heap.size q (by
  have tP:=hW.trans (iz.mono (aE (by simp) hW.size));exact(tP.cell (p:=⟨w.heap.size,0,none⟩) (by show w.heap.size<w.heap.size+1+1;omega)).trans (fq (eX w _ _ 0) _))) (fun _ _=>by kernel_rfl)
 have HS:=bU S;have H1:=bU h1;have HA:=bU hs.at';have c0:((w.alloc (.cells #[U q] 3)).alloc (.cells #[U 0,U 0,U 0,U 0,U 0] 174)).cell? (aj p)=some (ai (aj g) rs.length cap):=h1.b0.cell 0;have R0:=h1.at hs.at';have r0:=R0.c0;have r1:=R0.c1;have r2:=R0.c2;have r3:=R0.c3;have r4:=R0.c4;have hpl:=h.b0.lt;have hgl:g<w.heap.size:=World.block_lt_of_cell? w _ (h.at hs.at').c0;clear R0;generalize (q-r.cB)*r.fk=m at *;generalize q-r.cB=y at *;clear S h h1 hs;have xv:=bU dj;clear dj;go_enter func291,ntmps291;have BN:Hid (cj ((w.alloc (.cells #[U q] 3)).alloc (.cells #[U 0,U 0,U 0,U 0,U 0] 174)) (w.heap.size+1) #[U 0,U 0,U 0,U 0,U 0] 174):=bU (by have:=cj.new (w.alloc (.cells #[U q] 3)) #[U 0,U 0,U 0,U 0,U 0] 174;rw[World.size_alloc] at this;exact this);go_wp2_with fail
 go_region_with (go_at_call 201;refine(HS.out _ (by first|exact bV _ _|exact(bV _ _).drew |exact jh (bV _ _) _)).mono ?_;rintro e w2 ⟨rfl,cN⟩;have dJ:=bT (bd (bV ((w.alloc (.cells #[U q] 3)).alloc (.cells #[U 0,U 0,U 0,U 0,U 0] 174)).heap.size _)) cN (av _);have R:=(H1.out.cA dJ).at HA.out;have e0:w2.cell? (aj p)=some (ai (aj g) rs.length cap):=(H1.out.cA dJ).b0.cell 0;have r0:=R.c0;have r1:=R.c1;have r2:=R.c2;have r3:=R.c3;have r4:=R.c4;have Eb:=BN.out.cA dJ;have b0:w2.cell? (aj (w.heap.size+1))=some (U 0):=Eb.cell 0;have b1:w2.cell? (aj (w.heap.size+1) 1)=some (U 0):=Eb.cell 1;have b2:w2.cell? (aj (w.heap.size+1) 2)=some (U 0):=Eb.cell 2;have b3:w2.cell? (aj (w.heap.size+1) 3)=some (U 0):=Eb.cell 3;have b4:w2.cell? (aj (w.heap.size+1) 4)=some (U 0):=Eb.cell 4;have f0:=Eb.cE 0;have f1:=Eb.cE 1;have f2:=Eb.cE 2;have f3:=Eb.cE 3;have f4:=Eb.cE 4;have bq:w2.cell? (aj w.heap.size)=some (U q):=(dJ.cell (p:=⟨w.heap.size,0,none⟩) (by simp;omega)).trans (fq (eX w _ _ 0) _);have HBN:=bU Eb;clear R Eb cN)
 all_goals
  have B3:Hid (cj (((((w2.setCell (aj (w.heap.size+1)) (U r.size)).setCell (aj (w.heap.size+1) 1) (U r.first)).setCell (aj (w.heap.size+1) 2) (U r.many)).setCell (aj (w.heap.size+1) 3) (U r.cB)).setCell (aj (w.heap.size+1) 4) (U r.fk)) (w.heap.size+1) #[U r.size,U r.first,U r.many,U r.cB,U r.fk] 174):=bU (((((HBN.out.set 0 (U r.size)).set 1 (U r.first)).set 2 (U r.many)).set 3 (U r.cB)).set 4 (U r.fk));have We:(((((w2.setCell (aj (w.heap.size+1)) (U r.size)).setCell (aj (w.heap.size+1) 1) (U r.first)).setCell (aj (w.heap.size+1) 2) (U r.many)).setCell (aj (w.heap.size+1) 3) (U r.cB)).setCell (aj (w.heap.size+1) 4) (U r.fk)).cell? (aj w.heap.size)=some (U q):=by go_simp
  clear b0 b1 b2 b3 b4 f0 f1 f2 f3 f4 r0 r1 r2 r3 r4 e0 bq;have HW:=bU ((((((bT xv.out dJ (by simp;omega)).setCell (p:=⟨w.heap.size+1,0,none⟩) (by show w.heap.size<=w.heap.size+1;omega) (U r.size)).setCell (p:=⟨w.heap.size+1,1,none⟩) (by show w.heap.size<=w.heap.size+1;omega) (U r.first)).setCell (p:=⟨w.heap.size+1,2,none⟩) (by show w.heap.size<=w.heap.size+1;omega) (U r.many)).setCell (p:=⟨w.heap.size+1,3,none⟩) (by show w.heap.size<=w.heap.size+1;omega) (U r.cB)).setCell (p:=⟨w.heap.size+1,4,none⟩) (by show w.heap.size<=w.heap.size+1;omega) (U r.fk));clear HBN dJ;generalize (((((w2.setCell (aj (w.heap.size+1)) (U r.size)).setCell (aj (w.heap.size+1) 1) (U r.first)).setCell (aj (w.heap.size+1) 2) (U r.many)).setCell (aj (w.heap.size+1) 3) (U r.cB)).setCell (aj (w.heap.size+1) 4) (U r.fk))=W3 at *;have b0:W3.cell? (aj (w.heap.size+1))=some (U r.size):=B3.out.cell 0;have b1:W3.cell? (aj (w.heap.size+1) 1)=some (U r.first):=B3.out.cell 1;have b2:W3.cell? (aj (w.heap.size+1) 2)=some (U r.many):=B3.out.cell 2;have b3:W3.cell? (aj (w.heap.size+1) 3)=some (U r.cB):=B3.out.cell 3;have b4:W3.cell? (aj (w.heap.size+1) 4)=some (U r.fk):=B3.out.cell 4;have f0:=B3.out.cE 0;have f1:=B3.out.cE 1;have f2:=B3.out.cE 2;have f3:=B3.out.cE 3;have f4:=B3.out.cE 4;go_wp2_with fail;have HE:Hid (Below w.heap.size w (((((W3.setCell (aj (w.heap.size+1)) (U r.size)).setCell (aj (w.heap.size+1) 1) (U r.first)).setCell (aj (w.heap.size+1) 2) (U r.many)).setCell (aj (w.heap.size+1) 3) (U r.cB)).setCell (aj (w.heap.size+1) 4) (U r.fk)).drew):=bU (bd (((((HW.out.setCell (by show w.heap.size<=w.heap.size+1;omega) _).setCell (by show w.heap.size<=w.heap.size+1;omega) _).setCell (by show w.heap.size<=w.heap.size+1;omega) _).setCell (by show w.heap.size<=w.heap.size+1;omega) _).setCell (by show w.heap.size<=w.heap.size+1;omega) _))
  go_region
  all_goals
   go_wp2_with fail;refine bodyPost_ret (v:=.tuple #[.agg #[U r.size,U r.first,U r.many,U r.cB,U r.fk],U m]) (by simp[results,Tryz.results291,go_sem,b0,b1,b2,b3,b4]) rfl ?_;exact⟨rfl,HE.out⟩
end Sl
namespace Sl
open Go.RowKit Go.bZ Go.Gc
theorem Qt{x a b:Int}(h:a=b):Ending.returned (.tuple #[U x,U a,U 0])=ae (.tuple #[U x,U b,U 0]):=by rw[h]
theorem Mr(w:World){p g cap:Nat}{rs:List Rec}{n pg pw:Nat}(h:ff w p g cap rs n pg pw){q k:Nat}{r:Rec}(hs:xu rs pg q k r)(hmany:r.first+r.many<=n)(hq:q<pg):
  ak 263 #[af (aj p),U q] w fun e w'=>e=ae (.tuple #[U (iw rs q:Int),U (lC rs q:Int),U 0])/\Below w.heap.size w w':=by
 have d:=cC h;have di:=Mp w h hs hmany;have e0:w.cell? (aj p 2)=some (U pg):=h.b0.cell 2;have hn:=h.jU;have hah:=hs.ah;have Qs:=hs.Ml;have hpg:=h.nk;rw[hs.pf,hs.pm];generalize (q-r.cB)*r.fk=m at *;unfold Rec.val at di;clear h hs;go_enter func263,ntmps263;go_wp2_with (first|(go_at_call 96;refine d.mono ?_;rintro e w' ⟨rfl,rfl⟩)|(go_at_call 291;refine di.mono ?_;rintro e w2 ⟨rfl,hb⟩))
 go_quiet (fail)
 go_wp2_with fail;all_goals
  go_ret3
  exact⟨Qt (by omega),jh (bA hb (av _) _) _⟩
end Sl
namespace Sl
open Go.RowKit Go.bZ Go.Gc
theorem Bb(w:World){p g cap:Nat}{rs:List Rec}{n pg pw:Nat}(h:ff w p g cap rs n pg pw){P x k:Nat}{r:Rec}(hs:eJ P rs n pg x k r)(hx:x<n):
  ak 158 #[af (aj p),U x] w fun e w'=>e=ae (.tuple #[U k,U 0])/\Below w.heap.size w w':=by
 have d:=nY w h hs hx;clear h hs;go_enter func158,ntmps158;go_wp2_with (go_at_call 147;refine d.mono ?_;rintro e w2 ⟨rfl,hb⟩)
 go_ret2
 exact⟨rfl,hb⟩
theorem qI(w:World){p g cap:Nat}{rs:List Rec}{n pg pw:Nat}(h:ff w p g cap rs n pg pw){P x k:Nat}{r:Rec}(hs:eJ P rs n pg x k r)(hx:x<n):
  ak 152 #[af (aj p),U x] w fun e w'=>e=ae (.tuple #[U r.size,U 0])/\Below w.heap.size w w':=by
 have d:=nY w h hs hx;have H:=bU h;have HA:=bU hs.at';have hkl:=hs.kl;have hl:=h.l8;clear h hs;go_enter func152,ntmps152;go_wp2_with (go_at_call 147;refine d.mono ?_;rintro e w2 ⟨rfl,hb⟩;have e0:w2.cell? (aj p)=some (ai (aj g) rs.length cap):=(H.out.cA hb).b0.cell 0;have e2:=((H.out.cA hb).at HA.out).c0)
 go_ret2
 exact⟨rfl,hb⟩
theorem vd(w:World){p g cap:Nat}{rs:List Rec}{n pg pw:Nat}(h:ff w p g cap rs n pg pw){P x k:Nat}{r:Rec}(hs:eJ P rs n pg x k r)(hx:x<n):
  ak 307 #[af (aj p),U x] w fun e w'=>e=ae (.tuple #[U (gp rs x:Int),U 0])/\Below w.heap.size w w':=by
 have d:=nY w h hs hx;have H:=bU h;have HA:=bU hs.at';have hkl:=hs.kl;have hl:=h.l8;have hper:=hs.fk;have qJ:=hs.cB.1;have po:=hs.cB.2;have hpg:=hs.nk;have hpp:=h.nk;have hf:=h.jU;have hat:((x-r.first:Nat):Int)/(r.fk:Int)=(((x-r.first)/r.fk:Nat):Int):=(Int.natCast_ediv _ _).symm;rw[qJ];generalize (x-r.first)/r.fk=z at *;have hle:x-r.first<=65536:=by omega
 generalize x-r.first=y at *
 clear h hs qJ;go_enter func307,ntmps307;go_wp2_with (go_at_call 147;refine d.mono ?_;rintro e w2 ⟨rfl,hb⟩;have e0:w2.cell? (aj p)=some (ai (aj g) rs.length cap):=(H.out.cA hb).b0.cell 0;have e2:=((H.out.cA hb).at HA.out).c3;have e3:=((H.out.cA hb).at HA.out).c4)
 have HB:=bU hb;clear hb
 go_quiet (fail)
 go_wp2_with fail
 go_ret2
 exact⟨by first|rfl|simp,jh HB.out _⟩
theorem tQ(w:World){p g cap:Nat}{rs:List Rec}{n pg pw:Nat}(h:ff w p g cap rs n pg pw){k:Nat}{r:Rec}(hk:rs[k]?=some r):
  ak 229 #[af (aj p),U k] w fun e w'=>e=ae (.tuple #[U r.first,U r.many,U 0])/\Below w.heap.size w w':=by
 have d:=cC h;have e0:w.cell? (aj p)=some (ai (aj g) rs.length cap):=h.b0.cell 0;have e1:=(h.at hk).c1;have e2:=(h.at hk).c2;have hkl:=(au.1 hk).1;have hl:=h.l8;clear h hk;go_enter func229,ntmps229;go_wp2_with (go_at_call 96;refine d.mono ?_;rintro e w' ⟨rfl,rfl⟩)
 go_quiet (fail)
 go_wp2_with fail
 go_ret3
 exact⟨rfl,jh (bV _ _) _⟩
end Sl
end Go.Proofs.YtgblmelijlgimaaGreatDoor
