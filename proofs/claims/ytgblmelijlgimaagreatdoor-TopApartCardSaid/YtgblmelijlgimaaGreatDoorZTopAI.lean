/- Parts of the proof of TopApart. -/
import Derived.Test.YtgblmelijlgimaaGreatDoorZTopAH
set_option maxRecDepth 100000
namespace Go.Proofs.YtgblmelijlgimaaGreatDoor
open Go.Proofs.Tryz
namespace Mm
open Go.RowKit Go.bZ
theorem fI.drewN{w:World}{mp mw mb cap:Nat}{bs:List Nat}{ws:List Int}(h:fI w mp mw mb cap bs ws)(k:Nat):fI (w.drewN k) mp mw mb cap bs ws:=⟨h.b0,h.b1,h.b2,h.wd,h.up,h.le,h.small,h.two,h.jU⟩
theorem fI.put{w:World}{mp mw mb cap:Nat}{bs:List Nat}{ws:List Int}(h:fI w mp mw mb cap bs ws)(i:Nat)(x:Int)(h0:0<=x)(h1:x<18446744073709551616)(uL:mp≠mw)(sh:mb≠mw)(k:Nat):fI ((w.drewN k).setCell (aj mw i) (aa x)) mp mw mb cap bs (ws.set i x):=by
 refine⟨by rw[aI];exact(h.b0.drewN k).other uL i _,?_,fun j hj=>?_,fun y hy=>?_,h.up,by rw[aI];exact h.le,by rw[aI];exact h.small,h.two,h.jU⟩
 .have:=(h.b1.drewN k).set i (aa x)
  rwa [ints_set] at this
 .exact(World.cell?_setCell_other _ _ _ _ (by intro e;injection e with e;exact sh e.symm)).trans (h.b2 j hj)
 .rcases aZ hy with hy|rfl
  .exact h.wd y hy
  .exact⟨h0,h1⟩
theorem xG{w:World}{mp mw mb cap:Nat}{bs:List Nat}{ws:List Int}(h:fI w mp mw mb cap bs ws)(bv bm bt ba t a:Nat)(ht:t+1<bs.length)(ha:bs.getD t 0+a+1<=bs.getD (t+1) 0)(x:Int)(uI:0<=x)(p7:x<18446744073709551616)(uL:mp≠mw)(sh:mb≠mw)(k1:bv≠mw)(k2:bm≠mw)(k3:bt≠mw)(k4:ba≠mw)
 (c3:w.cell? (aj bv)=some (aa x))(c0:w.cell? (aj bm)=some (af (aj mp)))(c1:w.cell? (aj bt)=some (U t))(c2:w.cell? (aj ba)=some (U a)):
  ak 275 #[af (aj bv),af (aj bm),af (aj bt),af (aj ba)] w fun e w'=>e=ae (.tuple #[])/\fI w' mp mw mb cap bs (ws.set (bs.getD t 0+a) x)/\cu (· =mw) w w':=by
 have d:=fun k=>tT (h.drewN k) t a 1 ht (av _) ha
 have hl:=h.le (t+1) ht;have hs:=h.small;have hi:bs.getD t 0+a<ws.length:=by omega
 have cx:w.cell? (aj mw (bs.getD t 0+a))=some (aa ws[bs.getD t 0+a]):=(h.b1.cell _).trans (ints_at _ _ _ hi);have fx:=h.b1.cE (bs.getD t 0+a);have HB:=bU (fun k=>h.put (bs.getD t 0+a) x uI p7 uL sh k);have HC:Hid (∀k,cu (· =mw) w ((w.drewN k).setCell (aj mw (bs.getD t 0+a)) (aa x))):=bU (fun k=>((cu.refl (· =mw) w).drewN k).stored (.inl rfl) _ _);have k5:=Ne.symm k1;have k6:=Ne.symm k2;have k7:=Ne.symm k3;have k8:=Ne.symm k4;generalize ws[bs.getD t 0+a]=y at *;generalize bs.getD t 0=z at *;generalize bs.getD (t+1) 0=z2 at *;obtain⟨cp,hcp⟩:=al (ws.length-z-a);rw[hcp] at d;have h1:1<=cp:=by omega
 clear h hcp;go_enter func275,ntmps275;go_wp2_with fail;go_region_held3 (fun w'=>w'.cell? (aj bm)=some (af (aj mp))/\w'.cell? (aj bt)=some (U t)/\w'.cell? (aj ba)=some (U a)/\w'.cell? (aj bv)=some (aa x)) (go_keep)
  ((go_at_call 154;refine(d 1).mono ?_;rintro e w2 ⟨rfl,k,rfl⟩))
 all_goals
  go_wp2_with fail
  go_end0
  exact⟨rfl,HB.out _,HC.out _⟩
theorem vm{w:World}{mp mw mb cap:Nat}{bs:List Nat}{ws:List Int}(h:fI w mp mw mb cap bs ws)(t a:Nat)(ht:t+1<bs.length)(ha:bs.getD t 0+a+1<=bs.getD (t+1) 0)(x:Int)(uI:0<=x)(p7:x<18446744073709551616)(uL:mp≠mw)(sh:mb≠mw):
  ak 234 #[af (aj mp),U t,U a,aa x] w fun e w'=>e=ae (U 0)/\fI w' mp mw mb cap bs (ws.set (bs.getD t 0+a) x)/\cu (· =mw) w w':=by
 obtain⟨W,hW⟩:=al ((((w.alloc (.cells #[af (aj mp)] 75)).alloc (.cells #[U t] 3)).alloc (.cells #[U a] 3)).alloc (.cells #[aa x] 36));have s:W.heap.size=w.heap.size+1+1+1+1:=by rw[←hW];simp
 have dj:Below w.heap.size w W:=by rw[←hW];exact((((bV _ w).alloc (av _) _).alloc (by simp) _).alloc (by simp;omega) _).alloc (by simp;omega) _
 have B0:cj W w.heap.size #[af (aj mp)] 75:=by rw[←hW];exact(((cj.new w _ _).alloc _).alloc _).alloc _
 have B1:cj W (w.heap.size+1) #[U t] 3:=by rw[←hW];exact(by have:=cj.new (w.alloc (.cells #[af (aj mp)] 75)) #[U t] 3;rw[World.size_alloc] at this;exact(this.alloc _).alloc _)
 have B2:cj W (w.heap.size+1+1) #[U a] 3:=by rw[←hW];exact(by have:=cj.new ((w.alloc (.cells #[af (aj mp)] 75)).alloc (.cells #[U t] 3)) #[U a] 3;rw[World.size_alloc,World.size_alloc] at this;exact this.alloc _)
 have B3:cj W (w.heap.size+1+1+1) #[aa x] 36:=by rw[←hW];exact(by have:=cj.new (((w.alloc (.cells #[af (aj mp)] 75)).alloc (.cells #[U t] 3)).alloc (.cells #[U a] 3)) #[aa x] 36;rw[World.size_alloc,World.size_alloc,World.size_alloc] at this;exact this)
 have hmw:=h.b1.lt;have hmp:=h.b0.lt;have hmb:mb<w.heap.size:=World.block_lt_of_cell? w ⟨mb,0,none⟩ (h.b2 0 (by omega));have hbo:=(bV W.heap.size W).alloc (av _) (.cells #[U 0] 33);have hcw:cu (· =mw) w (W.alloc (.cells #[U 0] 33)):=cu.cD (dj.trans (hbo.mono dj.size));have don:=tU 275 #[af (aj (w.heap.size+1+1+1)),af (aj w.heap.size),af (aj (w.heap.size+1)),af (aj (w.heap.size+1+1))] W (fun w'=>fI w' mp mw mb cap bs (ws.set (bs.getD t 0+a) x)/\cu (· =mw) w w')
  ((xG ((h.cA dj).cA hbo) (w.heap.size+1+1+1) w.heap.size (w.heap.size+1) (w.heap.size+1+1) t a ht ha x uI p7 uL sh (by omega) (by omega) (by omega) (by omega) ((B3.cA hbo).cell 0) ((B0.cA hbo).cell 0) ((B1.cA hbo).cell 0) ((B2.cA hbo).cell 0)).mono (by
   rintro e w' ⟨rfl,hb,hc⟩;exact⟨rfl,⟨hb,hcw.trans hc⟩,hc.mono (fun k _ hk=>by have hk:k=mw:=hk;show k≠W.heap.size;omega)⟩)) (fun _ _=>by kernel_rfl)
 have HD:Hid (∀w2,(fI w2 mp mw mb cap bs (ws.set (bs.getD t 0+a) x)/\cu (· =mw) w w2)→fI (w2.setCell (aj W.heap.size) (U 0)) mp mw mb cap bs (ws.set (bs.getD t 0+a) x)/\cu (· =mw) w (w2.setCell (aj W.heap.size) (U 0))):=bU (fun w2 ⟨p1,p2⟩=>⟨p1.bY ((cu.refl (· =W.heap.size) w2).stored (.inl rfl) 0 _) (by show ¬mp=W.heap.size;omega) (by show ¬mw=W.heap.size;omega) (by show ¬mb=W.heap.size;omega),p2.stored (.inr (by omega)) 0 _⟩);clear h ha dj B0 B1 B2 B3 hbo hcw hmw hmp hmb;rw[s] at don HD;clear s;subst hW;go_enter func234,ntmps234;go_wp2_with (go_at_call 114;refine don.mono ?_;rintro e w3 ⟨rfl,w2,hq,rfl⟩;have HP:=bU (HD.out w2 hq))
 go_ret;exact⟨rfl,HP.out.1,HP.out.2⟩
end Mm
namespace Mm
open Go.RowKit Go.bZ
def eO(ws:List Int)(o n:Nat):List Int:=ws.take o++List.replicate n 0++ws.drop (o+n)
theorem jY(ws:List Int)(o n:Nat)(h:o+n<=ws.length):(eO ws o n).length=ws.length:=by
 unfold eO;simp;omega
theorem qQ(ws:List Int)(o n i:Nat)(h:o+n<=ws.length):(eO ws o n)[i]?=if o<=i/\i<o+n then some 0 else ws[i]?:=by
 unfold eO;by_cases h1:i<o
 .rw[if_neg (by omega),List.append_assoc,bj (by simp;omega),List.getElem?_take_of_lt h1]
 .by_cases h2:i<o+n
  .rw[if_pos ⟨by omega,h2⟩,bj (by simp;omega),aS (by simp;omega),List.getElem?_replicate,if_pos (by simp;omega)]
  .rw[if_neg (by omega),aS (by simp;omega),List.getElem?_drop]
   congr 1
   simp;omega
theorem vp(ws:List Int)(o n:Nat):((ints .u64 ws).toList.take o++(Builtin.zeroCells (Value.int .u64 0).cells n).toList++(ints .u64 ws).toList.drop (o+n*(Value.int .u64 0).cells.size)).toArray=ints .u64 (eO ws o n):=by
 rw[Bt.uQ];unfold ints eO;apply Array.ext';simp[Value.cells,List.map_take,List.map_drop]
theorem fI.clear{w:World}{mp mw mb cap:Nat}{bs:List Nat}{ws:List Int}(h:fI w mp mw mb cap bs ws)(o n:Nat)(ho:o+n<=ws.length)(uL:mp≠mw)(sh:mb≠mw)(k:Nat):fI ((w.drewN k).setRow mw (ints .u64 (eO ws o n))) mp mw mb cap bs (eO ws o n):=by
 refine⟨by rw[jY _ _ _ ho];exact(h.b0.drewN k).qy uL _,(h.b1.drewN k).setRow _,fun j hj=>?_,fun y hy=>?_,h.up,by rw[jY _ _ _ ho];exact h.le,by rw[jY _ _ _ ho];exact h.small,h.two,h.jU⟩
 .exact(cell_setRow_other _ _ _ _ sh).trans (h.b2 j hj)
 .unfold eO at hy
  rcases bu.1 hy with hy|hy
  .rcases bu.1 hy with hy|hy
   .exact h.wd y (List.mem_of_mem_take hy)
   .rw[aQ hy];omega
  .exact h.wd y (List.mem_of_mem_drop hy)
theorem Bx{w:World}{mp mw mb cap:Nat}{bs:List Nat}{ws:List Int}(h:fI w mp mw mb cap bs ws)(bm bt ba bn t a m:Nat)(hm:1<=m)(ht:t+1<bs.length)(ha:bs.getD t 0+a+m<=bs.getD (t+1) 0)(uL:mp≠mw)(sh:mb≠mw)
 (c0:w.cell? (aj bm)=some (af (aj mp)))(c1:w.cell? (aj bt)=some (U t))(c2:w.cell? (aj ba)=some (U a))(c3:w.cell? (aj bn)=some (U m)):
  ak 265 #[af (aj bm),af (aj bt),af (aj ba),af (aj bn)] w fun e w'=>e=ae (.tuple #[])/\fI w' mp mw mb cap bs (eO ws (bs.getD t 0+a) m)/\cu (· =mw) w w':=by
 have d:=tT h t a m ht hm ha;have hl:=h.le (t+1) ht;have hs:=h.small;have hfit:bs.getD t 0+a+m<=ws.length:=by omega
 have hsz:(ints .u64 ws).size=ws.length:=by unfold ints;simp
 have HCL:Hid (∀k ty cp,(Builtin.clear_ #[108] ty #[ai (aj mw (bs.getD t 0+a)) m cp]).run prog (w.drewN k)=.ok (.tuple #[]) ((w.drewN k).setRow mw (ints .u64 (eO ws (bs.getD t 0+a) m)))):=bU (fun k ty cp=>by
  have:=kt (P:=prog) (w.drewN k) 108 36 ty (aa 0) underlying108 Bt.Es mw (bs.getD t 0+a) m cp (ints .u64 ws) 36 (h.b1.drewN k) hm (by rw[hsz];show bs.getD t 0+a+m*1<=ws.length;omega) (by intro u hu;simp[Value.cells] at hu;subst hu;rfl)
  rwa [vp] at this)
 have HB:=bU (fun k=>h.clear (bs.getD t 0+a) m hfit uL sh k);have HC:Hid (∀k,cu (· =mw) w ((w.drewN k).setRow mw (ints .u64 (eO ws (bs.getD t 0+a) m)))):=bU (fun k=>((cu.refl (· =mw) w).drewN k).row (.inl rfl) _);generalize eO ws (bs.getD t 0+a) m=zs at *;generalize bs.getD t 0=z at *;clear h hsz;go_enter func265,ntmps265;go_wp2_with (go_at_call 154;refine d.mono ?_;rintro e w2 ⟨rfl,k,rfl⟩;have hcl:=fun ty cp=>HCL.out k ty cp)
 go_end0
 exact⟨rfl,HB.out _,HC.out _⟩
theorem zl{w:World}{mp mw mb cap:Nat}{bs:List Nat}{ws:List Int}(h:fI w mp mw mb cap bs ws)(t a m:Nat)(hm:1<=m)(ht:t+1<bs.length)(ha:bs.getD t 0+a+m<=bs.getD (t+1) 0)(uL:mp≠mw)(sh:mb≠mw):
  ak 222 #[af (aj mp),U t,U a,U m] w fun e w'=>e=ae (U 0)/\fI w' mp mw mb cap bs (eO ws (bs.getD t 0+a) m)/\cu (· =mw) w w':=by
 obtain⟨W,hW⟩:=al ((((w.alloc (.cells #[af (aj mp)] 75)).alloc (.cells #[U t] 3)).alloc (.cells #[U a] 3)).alloc (.cells #[U m] 3));have s:W.heap.size=w.heap.size+1+1+1+1:=by rw[←hW];simp
 have dj:Below w.heap.size w W:=by rw[←hW];exact((((bV _ w).alloc (av _) _).alloc (by simp) _).alloc (by simp;omega) _).alloc (by simp;omega) _
 have B0:cj W w.heap.size #[af (aj mp)] 75:=by rw[←hW];exact(((cj.new w _ _).alloc _).alloc _).alloc _
 have B1:cj W (w.heap.size+1) #[U t] 3:=by rw[←hW];exact(by have:=cj.new (w.alloc (.cells #[af (aj mp)] 75)) #[U t] 3;rw[World.size_alloc] at this;exact(this.alloc _).alloc _)
 have B2:cj W (w.heap.size+1+1) #[U a] 3:=by rw[←hW];exact(by have:=cj.new ((w.alloc (.cells #[af (aj mp)] 75)).alloc (.cells #[U t] 3)) #[U a] 3;rw[World.size_alloc,World.size_alloc] at this;exact this.alloc _)
 have B3:cj W (w.heap.size+1+1+1) #[U m] 3:=by rw[←hW];exact(by have:=cj.new (((w.alloc (.cells #[af (aj mp)] 75)).alloc (.cells #[U t] 3)).alloc (.cells #[U a] 3)) #[U m] 3;rw[World.size_alloc,World.size_alloc,World.size_alloc] at this;exact this)
 have hmw:=h.b1.lt;have hmp:=h.b0.lt;have hmb:mb<w.heap.size:=World.block_lt_of_cell? w ⟨mb,0,none⟩ (h.b2 0 (by omega));have hbo:=(bV W.heap.size W).alloc (av _) (.cells #[U 0] 33);have hcw:cu (· =mw) w (W.alloc (.cells #[U 0] 33)):=cu.cD (dj.trans (hbo.mono dj.size));have don:=tU 265 #[af (aj w.heap.size),af (aj (w.heap.size+1)),af (aj (w.heap.size+1+1)),af (aj (w.heap.size+1+1+1))] W (fun w'=>fI w' mp mw mb cap bs (eO ws (bs.getD t 0+a) m)/\cu (· =mw) w w')
  ((Bx ((h.cA dj).cA hbo) w.heap.size (w.heap.size+1) (w.heap.size+1+1) (w.heap.size+1+1+1) t a m hm ht ha uL sh ((B0.cA hbo).cell 0) ((B1.cA hbo).cell 0) ((B2.cA hbo).cell 0) ((B3.cA hbo).cell 0)).mono (by
   rintro e w' ⟨rfl,hb,hc⟩;exact⟨rfl,⟨hb,hcw.trans hc⟩,hc.mono (fun k _ hk=>by have hk:k=mw:=hk;show k≠W.heap.size;omega)⟩)) (fun _ _=>by kernel_rfl)
 have HD:Hid (∀w2,(fI w2 mp mw mb cap bs (eO ws (bs.getD t 0+a) m)/\cu (· =mw) w w2)→fI (w2.setCell (aj W.heap.size) (U 0)) mp mw mb cap bs (eO ws (bs.getD t 0+a) m)/\cu (· =mw) w (w2.setCell (aj W.heap.size) (U 0))):=bU (fun w2 ⟨p1,p2⟩=>⟨p1.bY ((cu.refl (· =W.heap.size) w2).stored (.inl rfl) 0 _) (by show ¬mp=W.heap.size;omega) (by show ¬mw=W.heap.size;omega) (by show ¬mb=W.heap.size;omega),p2.stored (.inr (by omega)) 0 _⟩);clear h ha dj B0 B1 B2 B3 hbo hcw hmw hmp hmb;rw[s] at don HD;clear s;subst hW;go_enter func222,ntmps222;go_wp2_with (go_at_call 114;refine don.mono ?_;rintro e w3 ⟨rfl,w2,hq,rfl⟩;have HP:=bU (HD.out w2 hq))
 go_ret;exact⟨rfl,HP.out.1,HP.out.2⟩
end Mm
end Go.Proofs.YtgblmelijlgimaaGreatDoor
namespace Go.Cf
open Go.RowKit Go.bZ
structure zm where
 q:Nat
 tr:Nat
 ca:Nat
 zas:Nat
structure cF where
 gc:Nat
 oc:Nat
 cc:Nat
 gt:Nat
 ot:Nat
 ct:Nat
 cl:List Nat
 cB:Nat
 ts:List zm
 wk:Nat
 gy:Nat
 gn:Nat
def cF.mY(c:cF):Nat:=c.cl.getD (c.cl.length-1) 0
structure Ok(c:cF):Prop where
 c1:1<=c.cl.length
 c8:c.cl.length<=8
 lo:∀x∈c.cl,2<=x
 hi:∀x∈c.cl,x<=64
 inc:∀i,i+1<c.cl.length→c.cl.getD i 0<c.cl.getD (i+1) 0
 p1:c.mY<=c.cB
 p2:c.cB<=64
 t1:1<=c.ts.length
 t8:c.ts.length<=8
 wk:c.wk<=8
 g1:1<=c.gy
 g2:c.gy<=64
 n1:1<=c.gn
 n2:c.gn<=2147483648
 q1:∀t∈c.ts,c.mY<=t.q
 q2:∀t∈c.ts,t.q<=4096
 r1:∀t∈c.ts,1<=t.tr
 r2:∀t∈c.ts,t.tr<=1048576
 a1:∀t∈c.ts,1<=t.ca
 a2:∀t∈c.ts,t.ca<=1024
 s2:∀t∈c.ts,t.zas<=1024
theorem Ok.up{c:cF}(h:Ok c):∀i j,i<=j→j<c.cl.length→c.cl.getD i 0<=c.cl.getD j 0:=by
 intro i j hij hj
 induction j with
 | zero=>
      obtain rfl:i=0:=by omega
      exact av _
 | succ j ih=>
  by_cases e:i=j+1
  .subst e;exact av _
  .have:=ih (by omega) (by omega)
   have:=h.inc j hj;omega
theorem Ok.le{c:cF}(h:Ok c)(i:Nat)(hi:i<c.cl.length):2<=c.cl.getD i 0/\c.cl.getD i 0<=c.mY/\c.mY<=64/\2<=c.mY:=by
 have h1:c.cl.getD i 0∈c.cl:=by rw[ao,aq hi];exact aF _
 have hl:c.cl.length-1<c.cl.length:=by omega
 have h2:c.mY∈c.cl:=by unfold cF.mY;rw[ao,aq hl];exact aF _
 exact⟨h.lo _ h1,h.up i _ (by omega) hl,h.hi _ h2,h.lo _ h2⟩
def cF.cells(c:cF):Array Value:=#[ai (aj c.gc c.oc) c.cl.length c.cc,U c.cB,ai (aj c.gt c.ot) c.ts.length c.ct,U c.wk,U c.gy,U c.gn]
structure gN(w:World)(c:cF):Prop where
 cls:∀i,i<c.cl.length→w.cell? (aj c.gc (c.oc+i))=some (U (c.cl.getD i 0:Nat))
 LD:∀t,(h:t<c.ts.length)→w.cell? (aj c.gt (c.ot+t*4))=some (U c.ts[t].q)/\w.cell? (aj c.gt (c.ot+t*4+1))=some (U c.ts[t].tr)/\w.cell? (aj c.gt (c.ot+t*4+2))=some (U c.ts[t].ca)/\w.cell? (aj c.gt (c.ot+t*4+3))=some (U c.ts[t].zas)
theorem gN.lt{w:World}{c:cF}(h:gN w c)(k:Ok c):c.gc<w.heap.size/\c.gt<w.heap.size:=by
 have h1:=h.cls 0 (by have:=k.c1;omega);have h2:=(h.LD 0 (by have:=k.t1;omega)).1;exact⟨World.block_lt_of_cell? w _ h1,World.block_lt_of_cell? w _ h2⟩
theorem gN.bY{S:Nat→Prop}{w w':World}{c:cF}(h:gN w c)(k:Ok c)(hc:cu S w w')(h1:¬S c.gc)(h2:¬S c.gt):gN w' c:=by
 obtain⟨l1,l2⟩:=h.lt k;have e1:∀i,w'.cell? (aj c.gc i)=w.cell? (aj c.gc i):=fun i=>World.cell?_of_block (w:=w) (hc.block _ l1 h1)
 have e2:∀i,w'.cell? (aj c.gt i)=w.cell? (aj c.gt i):=fun i=>World.cell?_of_block (w:=w) (hc.block _ l2 h2)
 refine⟨fun i hi=>(e1 _).trans (h.cls i hi),fun t ht=>?_⟩;rw[e2,e2,e2,e2];exact h.LD t ht
theorem gN.cA{w w':World}{c:cF}(h:gN w c)(k:Ok c)(hb:Below w.heap.size w w'):gN w' c:=h.bY k (cu.cD hb) (S:=fun _=>False) id id
def gC(c:cF)(t k:Nat):Nat:=(c.ts.getD t ⟨0,0,0,0⟩).q/c.cl.getD k 0
def iZ(c:cF)(k:Nat):Nat:=c.cB/c.cl.getD k 0
def jg(c:cF)(t k:Nat):Nat:=(gC c t k+iZ c k-1)/iZ c k
def cI(f:Nat→Nat):Nat→Nat
 | 0=>0
 | n+1=>cI f n+f n
theorem jB{f:Nat→Nat}{b:Nat}:∀n,(∀i,i<n→f i<=b)→cI f n<=n*b
 | 0,_=>by simp[cI]
 | n+1,h=>by
   have h1:=jB n (fun i hi=>h i (by omega));have h2:=h n (by omega);unfold cI;rw[Nat.succ_mul];omega
def ke(c:cF)(t:Nat):Nat:=cI (fun k=>jg c t k*c.cB) c.cl.length
def fG(c:cF)(t:Nat):Nat:=cI (ke c) t
theorem mI{c:cF}{t:Nat}(h:t<c.ts.length):c.ts.getD t ⟨0,0,0,0⟩∈c.ts:=by
 rw[ao,aq h];exact aF _
structure Qw(c:cF)(t k:Nat):Prop where
 s1:1<=gC c t k
 s2:gC c t k<=2048
 e1:1<=iZ c k
 e2:iZ c k<=32
 e3:iZ c k*c.cl.getD k 0<=c.cB
 g1:1<=jg c t k
 g2:jg c t k<=2048
 w2:jg c t k*c.cB<=131072
theorem oQ{c:cF}(h:Ok c){t k:Nat}(ht:t<c.ts.length)(hk:k<c.cl.length):Qw c t k:=by
 obtain⟨l1,l2,l3,l4⟩:=h.le k hk;have hm:=mI ht;have q1:=h.q1 _ hm;have q2:=h.q2 _ hm;have p1:=h.p1;have p2:=h.p2;have s1:1<=gC c t k:=Nat.div_pos (by omega) (by omega);have s2:gC c t k<=2048:=by
  unfold gC;have:(c.ts.getD t ⟨0,0,0,0⟩).q/c.cl.getD k 0<=4096/2:=aE (Nat.div_le_div_right q2) (Nat.div_le_div_left l1 (by omega));omega
 have e1:1<=iZ c k:=Nat.div_pos (by omega) (by omega);have e2:iZ c k<=32:=by
  unfold iZ;have:c.cB/c.cl.getD k 0<=64/2:=aE (Nat.div_le_div_right p2) (Nat.div_le_div_left l1 (by omega));omega
 have g1:1<=jg c t k:=Nat.div_pos (by omega) (by omega);have g2:jg c t k<=2048:=by
  unfold jg;have h1:(gC c t k+iZ c k-1)/iZ c k<gC c t k+1:=by
   rw[Nat.div_lt_iff_lt_mul (by omega),Nat.succ_mul];have:gC c t k<=gC c t k*iZ c k:=Nat.le_mul_of_pos_right _ (by omega);omega
  omega
 refine⟨s1,s2,e1,e2,Nat.div_mul_le_self _ _,g1,g2,?_⟩;have:jg c t k*c.cB<=2048*64:=Nat.mul_le_mul g2 p2;omega
theorem p9{c:cF}(h:Ok c){t:Nat}(ht:t<c.ts.length):ke c t<=1048576:=by
 have:=jB (f:=fun k=>jg c t k*c.cB) (b:=131072) c.cl.length (fun i hi=>(oQ h ht hi).w2);have h8:=h.c8;unfold ke;omega
theorem vq{c:cF}(h:Ok c){t:Nat}(ht:t<=c.ts.length):fG c t<=8388608:=by
 have:=jB (f:=ke c) (b:=1048576) t (fun i hi=>p9 h (by omega));have h8:=h.t8;unfold fG;omega
end Go.Cf
namespace Go.Proofs.YtgblmelijlgimaaGreatDoor
open Go.Proofs.Tryz
namespace Cn
open Go.RowKit Go.bZ Go.Cf
def sQ(c:cF)(k:Nat):Nat:=if k=0 then 1 else c.cl.getD (k-1) 0
theorem vr{w:World}{c:cF}(h:gN w c)(k:Ok c):ak 83 #[ai (aj c.gc c.oc) c.cl.length c.cc] w fun e w'=>e=ae (U 0)/\w=w':=by
 have Qx:=k.c1;have PO:=k.c8;have HC:=bU h.cls;have HP:Hid (∀i,i<c.cl.length→sQ c i<c.cl.getD i 0/\c.cl.getD i 0<=64/\sQ c (i+1)=c.cl.getD i 0):=bU (fun i hi=>by
  obtain⟨a1,a2,a3,a4⟩:=k.le i hi;refine⟨?_,by omega,by unfold sQ;rw[if_neg (by omega)];rfl⟩;unfold sQ;by_cases e:i=0
  .subst e;rw[if_pos rfl];omega
  .rw[if_neg e]
   have:=k.inc (i-1) (by omega)
   rwa [show i-1+1=i by omega] at this)
 have cl:=h.cls (c.cl.length-1) (by omega);have hlast:=(HP.out (c.cl.length-1) (by omega)).2.1;have e1:((c.cl.length:Int)-1).toNat=c.cl.length-1:=by omega
 generalize c.cl.getD (c.cl.length-1) 0=y at *;clear h k;go_enter func83,ntmps83;go_wp2_with fail;clear cl hlast e1
 go_loop [3,25] (fun s i=>∃(k:Nat),k<=c.cl.length/\i=U k/\s=U (sQ c k:Nat)) (fun _ i=>c.cl.length-(intOf i).toNat)
 case atStart=>exact⟨0,by omega,rfl,rfl⟩
 case round=>
  obtain⟨k,hk,rfl,rfl⟩:=hrel;by_cases hlt:k<c.cl.length
  .obtain⟨h1,h2,h3⟩:=HP.out k hlt
   have ck:=HC.out k hlt;have H3:=bU h3;clear h3;generalize c.cl.getD k 0=x at *;generalize sQ c k=z at *;go_wp2_with fail
   go_round
   case rel=>exact⟨k+1,by omega,by go_num,by rw[H3.out]⟩
   case measure=>simp[intOf];omega
  .obtain rfl:k=c.cl.length:=by omega
   go_wp2_with fail;go_ret;exact⟨rfl,rfl⟩
end Cn
namespace Cn
open Go.RowKit Go.bZ Go.Cf
theorem oR{w:World}(g cap n:Nat)(x:Nat→Int)(hn:n<=1000)(hc:∀i,i<3*n→w.cell? (aj g i)=some (U (x i)))(hx:∀i,i<n→x (3*i)<=x (3*i+1)/\x (3*i+1)<=x (3*i+2)):
  ak 85 #[ai (aj g) (3*n) cap] w fun e w'=>e=ae (.bool true)/\Below w.heap.size w w':=by
 have HC:=bU hc;have HX:=bU hx;obtain⟨L,hL⟩:=al (3*n);rw[hL];have Wi:L<=3000:=by omega
 have H:=bU hL;clear hc hx hL;go_enter func85,ntmps85;go_wp2_with fail
 go_loopw [3] (fun i wr=>∃(k:Nat),k<=n/\i=U (3*k:Nat)/\Below w.heap.size w wr/\∀i,i<L→wr.cell? (aj g i)=some (U (x i))) (fun i _=>L-(intOf i).toNat)
 case atStart=>exact⟨0,by omega,rfl,bV _ _,fun i hi=>HC.out i (by have:=H.out;omega)⟩
 case round=>
  obtain⟨k,hk,rfl,hb,hcr⟩:=hrel;have HCR:=bU hcr;clear hcr;obtain⟨j,hj⟩:=al (3*k);have hh:=H.out;by_cases hlt:k<n
  .obtain⟨h1,h2⟩:=HX.out k hlt
   have k0:=HCR.out (3*k) (by omega);have k1:=HCR.out (3*k+1) (by omega);have k2:=HCR.out (3*k+2) (by omega);rw[hj] at h1 h2 k0 k1 k2 ⊢;have hjl:j+3<=L:=by omega
   have HJ:=bU hj;have HK:=bU hlt;generalize x j=a at *;generalize x (j+1)=b at *;generalize x (j+2)=d at *;have g1:decide (b<a)=false:=az (by omega);have g2:decide (d<b)=false:=az (by omega);have i0:(0:Int)<=(j:Int):=by omega
   have i1:(j:Int)+2<(L:Int):=by omega
   clear hj hlt hk hh;go_wp2_with fail
   go_quiet (fail)
   go_wp2_with fail
   go_roundw
   case rel=>exact⟨k+1,HK.out,by have:=HJ.out;go_num,jh hb _,fun i hi=>HCR.out i hi⟩
   case measure=>simp[intOf];omega
  .obtain rfl:k=n:=by omega
   rw[hj];have hjl:L<=j:=by omega
   have hjm:j<=3000:=by omega
   clear hj;go_wp2_with fail;go_ret;exact⟨rfl,hb⟩
end Cn
namespace Cn
open Go.RowKit Go.bZ Go.Cf
theorem Ms{w:World}{c:cF}(h:gN w c)(k:Ok c):ak 84 #[ai (aj c.gc c.oc) c.cl.length c.cc] w fun e w'=>e=ae (U c.mY)/\w=w':=by
 have Qx:=k.c1;have PO:=k.c8;have HC:=bU h.cls;have c0:=h.cls 0 (by omega);have HP:Hid (∀i,i+1<c.cl.length→c.cl.getD i 0<=c.cl.getD (i+1) 0):=bU (fun i hi=>k.up i (i+1) (by omega) hi);simp only[bN] at c0;clear h k;go_enter func84,ntmps84;go_wp2_with fail
 go_loop [3,4] (fun s i=>∃(k:Nat),1<=k/\k<=c.cl.length/\i=U k/\s=U (c.cl.getD (k-1) 0:Nat)) (fun _ i=>c.cl.length-(intOf i).toNat)
 case atStart=>exact⟨1,by omega,by omega,rfl,rfl⟩
 case round=>
  obtain⟨k,uM,hk,rfl,rfl⟩:=hrel;by_cases hlt:k<c.cl.length
  .have h1:=HP.out (k-1) (by omega)
   rw[show k-1+1=k by omega] at h1;have ck:=HC.out k hlt;have H3:Hid (c.cl.getD (k+1-1) 0=c.cl.getD k 0):=bU rfl;generalize c.cl.getD k 0=x at *;generalize c.cl.getD (k-1) 0=z at *;clear c0;go_wp2_with fail;all_goals
    go_round
    case rel=>exact⟨k+1,by omega,by omega,by go_num,by rw[H3.out];first|rfl|(congr 2;omega)⟩
    case measure=>simp[intOf];omega
  .obtain rfl:k=c.cl.length:=by omega
   clear c0;go_wp2_with fail;go_ret;exact⟨rfl,rfl⟩
end Cn
namespace Cn
open Go.RowKit Go.bZ Go.Cf
def cF.val(c:cF):Value:=.agg #[ai (aj c.gc c.oc) c.cl.length c.cc,U c.cB,ai (aj c.gt c.ot) c.ts.length c.ct,U c.wk,U c.gy,U c.gn]
theorem E5{w:World}(g:Nat)(x0 x1 x2 x3 x4 x5 x6 x7 x8 x9 Jm Mt Qy PQ Qz:Int)(t:TypeId)(hb:cj w g #[U x0,U x1,U x2,U x3,U x4,U x5,U x6,U x7,U x8,U x9,U Jm,U Mt,U Qy,U PQ,U Qz] t)
 (h0:x0<=x1/\x1<=x2)(h1:x3<=x4/\x4<=x5)(h2:x6<=x7/\x7<=x8)(h3:x9<=Jm/\Jm<=Mt)(h4:Qy<=PQ/\PQ<=Qz):
  ak 85 #[ai (aj g) 15 15] w fun e w'=>e=ae (.bool true)/\Below w.heap.size w w':=by
 refine oR g 15 5 (fun i=>[x0,x1,x2,x3,x4,x5,x6,x7,x8,x9,Jm,Mt,Qy,PQ,Qz].getD i 0) (by omega) (fun i hi=>?_) (fun i hi=>?_)
 .rw[hb.cell]
  match i,hi with
  | 0,_|1,_|2,_|3,_|4,_|5,_|6,_|7,_|8,_|9,_|10,_|11,_|12,_|13,_|14,_=>rfl
 .match i,hi with
  | 0,_=>exact h0
  | 1,_=>exact h1
  | 2,_=>exact h2
  | 3,_=>exact h3
  | 4,_=>exact h4
theorem E6{w:World}(g:Nat)(x0 x1 x2 x3 x4 x5 x6 x7 x8 x9 Jm Mt:Int)(t:TypeId)(hb:cj w g #[U x0,U x1,U x2,U x3,U x4,U x5,U x6,U x7,U x8,U x9,U Jm,U Mt] t)
 (h0:x0<=x1/\x1<=x2)(h1:x3<=x4/\x4<=x5)(h2:x6<=x7/\x7<=x8)(h3:x9<=Jm/\Jm<=Mt):
  ak 85 #[ai (aj g) 12 12] w fun e w'=>e=ae (.bool true)/\Below w.heap.size w w':=by
 refine oR g 12 4 (fun i=>[x0,x1,x2,x3,x4,x5,x6,x7,x8,x9,Jm,Mt].getD i 0) (by omega) (fun i hi=>?_) (fun i hi=>?_)
 .rw[hb.cell]
  match i,hi with
  | 0,_|1,_|2,_|3,_|4,_|5,_|6,_|7,_|8,_|9,_|10,_|11,_=>rfl
 .match i,hi with
  | 0,_=>exact h0
  | 1,_=>exact h1
  | 2,_=>exact h2
  | 3,_=>exact h3
theorem Jn{w:World}(g:Nat)(x0 x1 x2 x3 x4 x5:Int)(t:TypeId)(hb:cj w g #[U x0,U x1,U x2,U x3,U x4,U x5] t)
 (h0:x0<=x1/\x1<=x2)(h1:x3<=x4/\x4<=x5):
  ak 85 #[ai (aj g) 6 6] w fun e w'=>e=ae (.bool true)/\Below w.heap.size w w':=by
 refine oR g 6 2 (fun i=>[x0,x1,x2,x3,x4,x5].getD i 0) (by omega) (fun i hi=>?_) (fun i hi=>?_)
 .rw[hb.cell]
  match i,hi with
  | 0,_|1,_|2,_|3,_|4,_|5,_=>rfl
 .match i,hi with
  | 0,_=>exact h0
  | 1,_=>exact h1
theorem iI(w:World)(o:Obj)(C:Array Value)(t:TypeId):cj ((w.alloc o).alloc (.cells C t)) (w.heap.size+1) C t:=by
 have:=cj.new (w.alloc o) C t;rw[World.size_alloc] at this;exact this
theorem vt{w:World}{c:cF}(h:gN w c)(k:Ok c):ak 55 #[cF.val c] w fun e w'=>e=ae (U 0)/\Below w.heap.size w w':=by
 have dj:=(bV _ w).alloc (av _) (.cells c.cells 25);have h1:=h.cA k dj;have dc:=vr h1 k;have dm:=Ms h1 k;have g0:=(k.le 0 (by have:=k.c1;omega));have p1:=k.p1;have p2:=k.p2;have t1:=k.t1;have t8:=k.t8;have wk:=k.wk;have g1:=k.g1;have g2:=k.g2;have n1:=k.n1;have n2:=k.n2;have c8:=k.c8;have HK:=bU k;have Ty:=bU h;have H1:=bU h1;have HT:Hid (∀i,(hi:i<c.ts.length)→c.mY<=c.ts[i].q/\c.ts[i].q<=4096/\1<=c.ts[i].tr/\c.ts[i].tr<=1048576/\1<=c.ts[i].ca/\c.ts[i].ca<=1024/\c.ts[i].zas<=1024):=bU (fun i hi=>⟨k.q1 _ (aF _),k.q2 _ (aF _),k.r1 _ (aF _),k.r2 _ (aF _),k.a1 _ (aF _),k.a2 _ (aF _),k.s2 _ (aF _)⟩);obtain⟨gr,hgr⟩:=al (c.mY);rw[hgr] at dm g0 p1 HT;have HG:=bU hgr;clear hgr h h1;have HB:=bU dj;clear dj;have dw:=E5 (w.heap.size+1) (gr:Int) (c.cB:Int) 64 1 (c.ts.length:Int) 8 0 (c.wk:Int) 8 1 (c.gy:Int) 64 1 (c.gn:Int) 2147483648 _ (iI w (.cells #[ai (aj c.gc c.oc) c.cl.length c.cc,U c.cB,ai (aj c.gt c.ot) c.ts.length c.ct,U c.wk,U c.gy,U c.gn] 25) _ 3) (by omega) (by omega) (by omega) (by omega) (by omega);clear k;unfold cF.cells at *;unfold cF.val;go_enter func55,ntmps55;go_wp2_with (first|(go_at_call 83;with_reducible refine dc.mono ?_;rintro e w' ⟨rfl,rfl⟩)|(go_at_call 84;with_reducible refine dm.mono ?_;rintro e w' ⟨rfl,rfl⟩)|(go_at_call 85;with_reducible refine dw.mono ?_;rintro e w2 ⟨rfl,cN⟩;have e2:w2.cell? (aj w.heap.size 2)=some (ai (aj c.gt c.ot) c.ts.length c.ct):=(cN.cell (p:=⟨w.heap.size,2,none⟩) (by simp;omega)).trans (fq (eX w #[ai (aj c.gc c.oc) c.cl.length c.cc,U c.cB,ai (aj c.gt c.ot) c.ts.length c.ct,U c.wk,U c.gy,U c.gn] 25 2) _)))
 have kM:=bU (bT HB.out ((bA (bV _ _) (av _) _).trans (cN.mono (by simp))) (by simp));clear cN e2 dw dc dm
 go_loopw [34] (fun i wr=>∃(t:Nat),t<=c.ts.length/\i=U t/\Below w.heap.size w wr) (fun i _=>c.ts.length-(intOf i).toNat)
 case atStart=>exact⟨0,by omega,rfl,kM.out⟩
 case round=>
  obtain⟨t,ht,rfl,hbr⟩:=hrel;have HBR:=bU hbr;clear hbr;by_cases hlt:t<c.ts.length
  .obtain⟨a1,a2,a3,a4,a5,a6,a7⟩:=HT.out t hlt
   obtain⟨d1,d2,d3,d4⟩:=(Ty.out.cA HK.out HBR.out).LD t hlt;generalize c.ts[t].q=q at *;generalize c.ts[t].tr=tr at *;generalize c.ts[t].ca=ca at *;generalize c.ts[t].zas=ass at *;have dw:=E6 (wr.heap.size+1) (gr:Int) (q:Int) 4096 1 (tr:Int) 1048576 1 (ca:Int) 1024 0 (ass:Int) 1024 _ (iI wr (.cells #[U q,U tr,U ca,U ass] 50) _ 3) (by omega) (by omega) (by omega) (by omega);go_wp2_with (go_at_call 85;with_reducible refine dw.mono ?_;rintro e w2 ⟨rfl,cN⟩)
   go_roundw
   case rel=>exact⟨t+1,by omega,by go_num,fj HBR.out ((((bV _ wr).alloc (av _) _).alloc (by simp) _).trans (cN.mono (by simp;omega)))⟩
   case measure=>simp[intOf];omega
  .obtain rfl:t=c.ts.length:=by omega
   go_wp2_with fail;go_ret;exact⟨rfl,HBR.out⟩
end Cn
namespace Cn
open Go.RowKit Go.bZ Go.Cf
theorem lX(w:World)(c:cF){w2:World}(hb:Below (w.heap.size+1) (w.alloc (.cells #[ai (aj c.gc c.oc) c.cl.length c.cc,U c.cB,ai (aj c.gt c.ot) c.ts.length c.ct,U c.wk,U c.gy,U c.gn] 25)) w2):
  w2.cell? (aj w.heap.size)=some (ai (aj c.gc c.oc) c.cl.length c.cc)/\w2.cell? (aj w.heap.size 1)=some (U c.cB)/\w2.cell? (aj w.heap.size 2)=some (ai (aj c.gt c.ot) c.ts.length c.ct)/\
  w2.cell? (aj w.heap.size 3)=some (U c.wk)/\w2.cell? (aj w.heap.size 4)=some (U c.gy)/\w2.cell? (aj w.heap.size 5)=some (U c.gn):=by
 have h:=fun i=>(hb.cell (p:=⟨w.heap.size,i,none⟩) (by show w.heap.size<w.heap.size+1;omega)).trans (eX w #[ai (aj c.gc c.oc) c.cl.length c.cc,U c.cB,ai (aj c.gt c.ot) c.ts.length c.ct,U c.wk,U c.gy,U c.gn] 25 i)
 exact⟨h 0,h 1,h 2,h 3,h 4,h 5⟩
theorem qR{w:World}{c:cF}(h:gN w c)(k:Ok c)(t j:Nat)(ht:t<c.ts.length)(hj:j<c.cl.length):
  ak 59 #[cF.val c,U t,U j] w fun e w'=>e=ae (.bool true)/\Below w.heap.size w w':=by
 have dj:=(bV _ w).alloc (av _) (.cells #[ai (aj c.gc c.oc) c.cl.length c.cc,U c.cB,ai (aj c.gt c.ot) c.ts.length c.ct,U c.wk,U c.gy,U c.gn] 25);have dc:=vt (h.cA k dj) k;have c8:=k.c8;have t8:=k.t8;have HB:=bU dj;unfold cF.val at *;have dw:=fun(W:World)=>Jn W.heap.size 0 (t:Int) ((c.ts.length:Int)-1) 0 (j:Int) ((c.cl.length:Int)-1) _ (cj.new W _ 3) (by omega) (by omega)
 clear h k dj;go_enter func59,ntmps59;go_wp2_with (first|(go_at_call 55;with_reducible refine dc.mono ?_;rintro e w2 ⟨rfl,cN⟩;obtain⟨x0,x1,x2,x3,x4,x5⟩:=lX w c (cN.mono (by simp)))|(go_at_call 85;with_reducible refine(dw _).mono ?_;rintro e w3 ⟨rfl,dJ⟩))
 go_ret;exact⟨rfl,bT HB.out (fj cN ((bA (bV _ w2) (av _) _).trans (dJ.mono (by simp)))) (by simp)⟩
theorem vu{w:World}{c:cF}(h:gN w c)(k:Ok c)(t j:Nat)(ht:t<c.ts.length)(hj:j<c.cl.length):
  ak 91 #[cF.val c,U t,U j] w fun e w'=>e=ae (.tuple #[U (gC c t j:Nat),U 0])/\Below w.heap.size w w':=by
 have dj:=(bV _ w).alloc (av _) (.cells #[ai (aj c.gc c.oc) c.cl.length c.cc,U c.cB,ai (aj c.gt c.ot) c.ts.length c.ct,U c.wk,U c.gy,U c.gn] 25);have h1:=h.cA k dj;have dc:=qR h1 k t j ht hj;have c8:=k.c8;have t8:=k.t8;have hle:=(k.le j hj).1;have q2:=k.q2 _ (mI ht);have s2:=(oQ k ht hj).s2;have hd:((c.ts.getD t ⟨0,0,0,0⟩).q:Int)/((c.cl.getD j 0:Nat):Int)=((gC c t j:Nat):Int):=by unfold gC;exact(Int.natCast_ediv _ _).symm
 have hgd:c.ts[t]=c.ts.getD t ⟨0,0,0,0⟩:=by rw[ao,aq ht];rfl
 have HB:=bU dj;have HX:Hid (∀w2,Below (w.alloc (.cells #[ai (aj c.gc c.oc) c.cl.length c.cc,U c.cB,ai (aj c.gt c.ot) c.ts.length c.ct,U c.wk,U c.gy,U c.gn] 25)).heap.size (w.alloc (.cells #[ai (aj c.gc c.oc) c.cl.length c.cc,U c.cB,ai (aj c.gt c.ot) c.ts.length c.ct,U c.wk,U c.gy,U c.gn] 25)) w2→w2.cell? (aj c.gt (c.ot+t*4))=some (U ((c.ts.getD t ⟨0,0,0,0⟩).q:Int))/\w2.cell? (aj c.gc (c.oc+j))=some (U ((c.cl.getD j 0:Nat):Int))):=bU (fun w2 cN=>by
  have h2:=h1.cA k cN;exact⟨hgd▸(h2.LD t ht).1,h2.cls j hj⟩)
 unfold cF.val at *;generalize gC c t j=ns at *;generalize (c.ts.getD t ⟨0,0,0,0⟩).q=q at *;generalize c.cl.getD j 0=x at *;clear h k dj h1 hgd;go_enter func91,ntmps91;go_wp2_with (go_at_call 59;with_reducible refine dc.mono ?_;rintro e w2 ⟨rfl,cN⟩;obtain⟨x0,x1,x2,x3,x4,x5⟩:=lX w c (cN.mono (by simp));obtain⟨y0,y1⟩:=HX.out w2 cN)
 have kM:=bU (bT HB.out cN (by simp));clear cN
 go_quiet (fail)
 go_wp2_with fail
 go_ret2
 exact⟨by first|rfl|simp,jh kM.out _⟩
end Cn
namespace Cn
open Go.RowKit Go.bZ Go.Cf
theorem vv{w:World}{c:cF}(h:gN w c)(k:Ok c)(t j:Nat)(ht:t<c.ts.length)(hj:j<c.cl.length):
  ak 88 #[cF.val c,U t,U j] w fun e w'=>e=ae (.tuple #[U (jg c t j:Nat),U 0])/\Below w.heap.size w w':=by
 have dj:=(bV _ w).alloc (av _) (.cells #[ai (aj c.gc c.oc) c.cl.length c.cc,U c.cB,ai (aj c.gt c.ot) c.ts.length c.ct,U c.wk,U c.gy,U c.gn] 25);have h1:=h.cA k dj;have dc:=vu h1 k t j ht hj;have c8:=k.c8;have t8:=k.t8;have hle:=(k.le j hj).1;have po:=k.p2;obtain⟨s1,s2,e1,e2,-,-,g2,-⟩:=oQ k ht hj;have hd:(c.cB:Int)/((c.cl.getD j 0:Nat):Int)=((iZ c j:Nat):Int):=by unfold iZ;exact(Int.natCast_ediv _ _).symm
 have Wj:((gC c t j:Nat):Int)+((iZ c j:Nat):Int)-1=((gC c t j+iZ c j-1:Nat):Int):=by omega
 have Wk:((gC c t j+iZ c j-1:Nat):Int)/((iZ c j:Nat):Int)=((jg c t j:Nat):Int):=by unfold jg;exact(Int.natCast_ediv _ _).symm
 have hbd:gC c t j+iZ c j-1<=10000:=by omega
 have HB:=bU dj;have HX:Hid (∀w2,Below (w.alloc (.cells #[ai (aj c.gc c.oc) c.cl.length c.cc,U c.cB,ai (aj c.gt c.ot) c.ts.length c.ct,U c.wk,U c.gy,U c.gn] 25)).heap.size (w.alloc (.cells #[ai (aj c.gc c.oc) c.cl.length c.cc,U c.cB,ai (aj c.gt c.ot) c.ts.length c.ct,U c.wk,U c.gy,U c.gn] 25)) w2→w2.cell? (aj c.gc (c.oc+j))=some (U ((c.cl.getD j 0:Nat):Int))):=bU (fun w2 cN=>(h1.cA k cN).cls j hj);unfold cF.val at *;generalize jg c t j=np at *;generalize gC c t j+iZ c j-1=m at *;generalize gC c t j=ns at *;generalize iZ c j=fk at *;generalize c.cl.getD j 0=x at *;clear h k dj h1;go_enter func88,ntmps88;go_wp2_with (go_at_call 91;with_reducible refine dc.mono ?_;rintro e w2 ⟨rfl,cN⟩;obtain⟨x0,x1,x2,x3,x4,x5⟩:=lX w c (cN.mono (by simp));have y1:=HX.out w2 cN)
 have kM:=bU (bT HB.out cN (by simp));clear cN
 go_quiet (fail)
 go_wp2_with fail
 go_ret2
 exact⟨by first|rfl|simp,jh kM.out _⟩
end Cn
end Go.Proofs.YtgblmelijlgimaaGreatDoor
