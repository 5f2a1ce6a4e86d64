/- Parts of the proof of TopApart. -/
import Derived.Test.YtgblmelijlgimaaGreatDoorZTopSat
import Derived.Laws.CopyOwn
import Derived.Test.YtgblmelijlgimaaGreatDoorZTopAQ
set_option maxRecDepth 100000
namespace Go.Proofs.YtgblmelijlgimaaGreatDoor
open Go.Proofs.Tryz
namespace Tb
open Go.RowKit Go.bZ Go.Gc
theorem na(P:Program)(w:World)(dT sT ty elem:TypeId)(g o dLen dCap:Nat)(a:Addr)(sLen sCap:Nat)(cur:Array Value)(t:TypeId)(cs:List Value)(sz n:Nat)
 (hu:P.underlying dT=some (.slice elem))(hs:(P.info? elem).map (·.size)=some sz)(hg:w.heap[g]?=some (.cells cur t (0,0)))(hn:Nat.min sLen dLen=n)(hc:cs.length=n*sz)
 (hsrc:∀j v,cs[j]?=some v→w.cell? (a.add j)=some v)(hfit:o+cs.length<=cur.size)(h1:∀v∈cs,v.oneCell'=true):
  (Builtin.copy_ #[dT,sT] ty #[ai (aj g o) dLen dCap,ai (some a) sLen sCap]).run P w=.ok (goInt n) (w.setRow g (cur.toList.take o++cs++cur.toList.drop (o+cs.length)).toArray):=by
 have hl:=run_loadCells_list (P:=P) w a cs hsrc;have hst:=run_storeCells_at P g o t cs 0 cur w hg (by simpa using hfit) h1
 cases hq:P.info? elem with
 | none=>simp[hq] at hs
 | some i=>
  have hi:i.size=sz:=by simpa[hq] using hs
  simp[Builtin.copy_,run_underlying hu,Builtin.lenOf,Builtin.firstCells,sizeOf,typeInfo,hq,hi,hn,←hc,hl,hst]
theorem J0(y:Nat)(hy:y<4294967296)(w:World):ak 117 #[aa 1,aa y] w fun e w'=>e=ae (.tuple #[aa 0,aa y])/\w=w':=by
 have h:=tf 1 y (by omega) (by omega) w;rw[Nat.one_mul,Nat.div_eq_of_lt (by omega),bf (by omega)] at h;go_enter func117,ntmps117;go_wp2_with (go_at_call 150;refine h.mono ?_;rintro e w' ⟨rfl,hw⟩;obtain rfl:=hw)
 go_ret2
 exact⟨rfl,rfl⟩
def J1:List Value:=[U 0,U 0,.int .u32 0]
def mg:List Value:=[U 0,U 0,.int .u32 1]
def rows(k m:Nat):List Value:=(List.replicate k mg).flatten++(List.replicate m J1).flatten
theorem OI:(prog.info? 188).map (fun i=>(i.zero,i.size,i.bytes))=some (some (.agg #[U 0,U 0,.int .u32 0]),3,24):=by kernel_rfl
theorem xX(a b c:Value):∀m,(List.range (m*3)).map (fun j=>(#[a,b,c]:Array Value)[j%3]!)=(List.replicate m [a,b,c]).flatten
 | 0=>rfl
 | m+1=>by
   have ih:=xX a b c m;have e:(m+1)*3=m*3+1+1+1:=by omega
   have e0:(m*3)%3=0:=by omega
   have e1:(m*3+1)%3=1:=by omega
   have e2:(m*3+1+1)%3=2:=by omega
   rw[e,List.range_succ,List.range_succ,List.range_succ,List.replicate_succ',List.flatten_append];simp only[List.map_append,List.map_cons,List.map_nil,ih,e0,e1,e2];simp
theorem LJ(a b c:Value)(m:Nat):madeCells #[a,b,c] (m*3)=((List.replicate m [a,b,c]).flatten).toArray:=by
 rw[←xX];apply Array.ext';simp[madeCells]
theorem vP(k m:Nat):(rows k m).length=(k+m)*3:=by simp[rows,mg,J1];omega
theorem j5(k:Nat)(l:List Value)(h:l.length=3):(List.replicate k l).flatten.length=k*3:=by simp[h]
theorem pF(k n m:Nat)(h:n<=m):(rows k m).take (k*3)++(List.replicate n mg).flatten++(rows k m).drop (k*3+n*3)=rows (k+n) (m-n):=by
 unfold rows;have l1:=j5 k mg rfl;rw[List.take_append_of_le_length (by omega),List.take_of_length_le (by omega),List.drop_append,l1];rw[List.drop_eq_nil_of_le (by omega),aU,show k*3+n*3-k*3=n*3 by omega];obtain⟨d,rfl⟩:∃d,m=n+d:=⟨m-n,by omega⟩;rw[show n+d-n=d by omega,←List.replicate_append_replicate (n:=k) (m:=n),List.flatten_append]
 congr 1
 rw[←List.replicate_append_replicate (n:=n) (m:=d),List.flatten_append,List.drop_append_of_le_length (by rw[j5 n J1 rfl];omega),List.drop_eq_nil_of_le (by rw[j5 n J1 rfl];omega),aU]
theorem J2(k n j:Nat)(m:Nat)(u:Value)(h:n<=k)(hj:((List.replicate n mg).flatten)[j]?=some u):(rows k m)[j]?=some u:=by
 unfold rows;have hl:=(au.1 hj).1;rw[j5 n mg rfl] at hl;obtain⟨d,rfl⟩:∃d,k=n+d:=⟨k-n,by omega⟩;rw[bj (by rw[j5 _ mg rfl];omega),←List.replicate_append_replicate,List.flatten_append,bj (by rw[j5 n mg rfl];omega)];exact hj
theorem vQ(n:Nat):∀v∈(List.replicate n mg).flatten,v.oneCell'=true:=by
 intro v hv;obtain⟨l,hl,hv⟩:=List.mem_flatten.1 hv;rw[aQ hl] at hv;simp[mg] at hv;rcases hv with rfl|rfl <;> rfl
theorem F0:(prog.info? 188).map (·.size)=some 3:=by kernel_rfl
theorem Cp(w:World)(g many:Nat)(h1:1<=many)(h2:many<=1024)(hb:cj w g #[U 0,U 0,.int .u32 1] 188):
  ak 95 #[ai (aj g) 1 1,U many] w fun e w'=>∃g',e=ae (ai (aj g') many many)/\cj w' g' (rows many 0).toArray 188/\Below w.heap.size w w'/\w.heap.size<=g':=by
 obtain⟨i0,uN,iX,jm,nQ⟩:=info_parts OI;have hmk:∀W:World,(Instr.makeSlice 184 (U many) (U many)).run prog W=.ok (ai (aj W.heap.size) many many) (W.alloc (.cells (rows 0 many).toArray 188)):=fun W=>by
  have:=run_make (P:=prog) W 184 188 i0 (.agg #[U 0,U 0,.int .u32 0]) underlying184 uN iX .i64 .i64 many many (by omega) (Int.le_refl _) (by rw[nQ];omega) (by omega);rw[aG,jm] at this;rw[this]
  congr 3
  exact LJ _ _ _ many
 have hgl:=hb.lt;have hcp:∀(W:World) (ty:TypeId),cj W w.heap.size (rows 0 many).toArray 188→cj W g #[U 0,U 0,.int .u32 1] 188→(Builtin.copy_ #[184,184] ty #[ai (aj w.heap.size) many many,ai (aj g) 1 1]).run prog W=.ok (goInt 1) (W.setRow w.heap.size (rows 1 (many-1)).toArray):=fun W ty hB hG=>by
  have:=na prog W 184 184 ty 188 w.heap.size 0 many many ⟨g,0,none⟩ 1 1 (rows 0 many).toArray 188 mg 3 1 underlying184 F0 hB (by show min 1 many=1;omega) rfl (fun j v hj=>by
   have hadd:(⟨g,0,none⟩:Addr).add j=⟨g,0+j,none⟩:=by unfold Addr.add;split <;> simp_all
   rw[hadd,hG.cell,bM];rw[←hj];exact aO) (by simp[vP,mg];omega) (by intro v hv;exact vQ 1 v (by simpa using hv))
  rw[this]
  congr 2
  have h3:=pF 0 1 many h1;simpa[mg] using h3
 have jT:Hid (∀(W:World) (ty:TypeId) (k:Nat),1<=k→k<many→cj W w.heap.size (rows k (many-k)).toArray 188→(Builtin.copy_ #[184,184] ty #[ai (aj w.heap.size (k*3)) (many-k) (many-k),ai (aj w.heap.size) k many]).run prog W=.ok (goInt ((min k (many-k):Nat):Int)) (W.setRow w.heap.size (rows (k+min k (many-k)) (many-k-min k (many-k))).toArray)):=bU (fun W ty k hk hlt hB=>by
  have hl:((List.replicate (min k (many-k)) mg).flatten).length=min k (many-k)*3:=j5 _ _ rfl;have:=na prog W 184 184 ty 188 w.heap.size (k*3) (many-k) (many-k) ⟨w.heap.size,0,none⟩ k many (rows k (many-k)).toArray 188 ((List.replicate (min k (many-k)) mg).flatten) 3 (min k (many-k)) underlying184 F0 hB rfl hl (fun j v hj=>by
   have hadd:(⟨w.heap.size,0,none⟩:Addr).add j=⟨w.heap.size,0+j,none⟩:=by unfold Addr.add;split <;> simp_all
   rw[hadd,hB.cell,bM,aO];exact J2 k _ j _ v (Nat.min_le_left _ _) hj) (by rw[hl];simp[vP];omega) (vQ _)
  have h3:(rows k (many-k)).toArray.toList.take (k*3)++(List.replicate (min k (many-k)) mg).flatten++(rows k (many-k)).toArray.toList.drop (k*3+min k (many-k)*3)=_:=pF k (min k (many-k)) (many-k) (Nat.min_le_right _ _);rw[this,hl,h3])
 have dm:=J0 many (by omega) w;have e1:decide ((many:Int)<0)=false:=az (by omega);have e2:decide ((9223372036854775807:Int)<(many:Int))=false:=az (by omega);have mX:=fun ty=>hcp (w.alloc (.cells (rows 0 many).toArray 188)) ty (cj.new w _ _) (hb.alloc _)
 have xv:Hid (cj ((w.alloc (.cells (rows 0 many).toArray 188)).setRow w.heap.size (rows 1 (many-1)).toArray) w.heap.size (rows 1 (many-1)).toArray 188):=bU ((cj.new w _ _).setRow _);have TO:Hid (Below w.heap.size w ((w.alloc (.cells (rows 0 many).toArray 188)).setRow w.heap.size (rows 1 (many-1)).toArray)):=bU (below_setRow (bA (bV _ _) (av _) _) (av _) _);clear hcp hb;go_enter func95,ntmps95;go_wp2_with (go_at_call 117;(with_reducible refine dm.mono ?_);rintro e w' ⟨rfl,rfl⟩)
 clear mX hmk
 go_loopw [8] (fun n wr=>∃k:Nat,1<=k/\k<=many/\n=U k/\Hid (cj wr w.heap.size (rows k (many-k)).toArray 188)/\Hid (Below w.heap.size w wr)) (fun n _=>many-(intOf n).toNat)
 case atStart=>exact⟨1,by omega,by omega,rfl,xv,TO⟩
 case round=>
  obtain⟨k,uM,Ec,rfl,hB,hL⟩:=hrel;by_cases hlt:k<many
  .have hcc:=fun ty=>jT.out wr.drew ty k uM hlt hB.out.drew
   have kM:Hid (cj (wr.drew.setRow w.heap.size (rows (k+min k (many-k)) (many-k-min k (many-k))).toArray) w.heap.size (rows (k+min k (many-k)) (many-k-min k (many-k))).toArray 188):=bU (hB.out.drew.setRow _);have F3:Hid (Below w.heap.size w (wr.drew.setRow w.heap.size (rows (k+min k (many-k)) (many-k-min k (many-k))).toArray)):=bU (below_setRow hL.out.drew (av _) _);clear jT;go_wp2_with fail
   go_region
   all_goals go_wp2_with fail
   all_goals go_roundw
   case rel=>exact⟨k+min k (many-k),by omega,by omega,by push_cast;rfl,by rw[show many-(k+min k (many-k))=many-k-min k (many-k) by omega];exact kM,F3⟩
   case measure=>simp only[intOf];omega
  .obtain rfl:k=many:=by omega
   go_wp2_with fail;go_ret;exact⟨_,rfl,by have:=hB.out;rwa [Nat.sub_self] at this,hL.out,av _⟩
theorem F4:∀n:Nat,rows n 0=(List.replicate n (⟨0,0,1⟩:eG)).flatMap eG.cells:=fun n=>by
 rw[rows,List.flatMap_def,List.map_replicate];simp[mg,eG.cells]
theorem F5(n k:Nat):eR (List.replicate n (⟨0,0,1⟩:eG)) k=if k=0 then n else 0:=by
 unfold eR;by_cases hk:k=0
 .subst hk;simp
 .rw[if_neg hk,List.filter_eq_nil_iff.2];rfl
  intro a ha hh;rw[aQ ha] at hh;simp at hh;exact hk hh.symm
theorem fQ(w:World)(many gens:Nat)(h1:1<=many)(h2:many<=1024)(h3:1<=gens)(h4:gens<=2147483648):
  ak 66 #[U many,U gens] w fun e w'=>∃p g,e=ae (.tuple #[af (aj p),U 0])/\eP w' p g (List.replicate many ⟨0,0,1⟩) gens/\Below w.heap.size w w'/\w.heap.size<=p/\w.heap.size<=g:=by
 have dr:=Cp (w.alloc (.cells #[U 0,U 0,.int .u32 1] 188)) w.heap.size many h1 h2 (cj.new w _ _);go_enter func66,ntmps66;go_wp2_with (go_at_call 95;(with_reducible refine dr.mono ?_);rintro e w' ⟨g',rfl,HB,HL,hg⟩;have hx:=bU (And.intro HB (And.intro HL hg));clear HB HL hg)
 obtain⟨HB,HL,hg⟩:=hx.out;have hs:(w.alloc (.cells #[U 0,U 0,.int .u32 1] 188)).heap.size=w.heap.size+1:=Array.size_push _;have hz:=HL.size;have hgl:=HB.lt;rw[hs] at HL hz hg;rw[F4] at HB
 go_ret2
 refine⟨_,_,rfl,⟨?_,?_,?_,?_,?_,h4,?_⟩,bA ((bA (bV _ _) (av _) _).trans (HL.mono (Nat.le_succ _))) (av _) _,by omega,Nat.le_of_succ_le hg⟩
 .simp only[F5,aN]
  exact cj.new w' _ _
 .exact HB.alloc _
 .rw[aN];exact h1
 .simp;omega
 .intro e he
  rw[aQ he];exact⟨by decide,by decide⟩
 .omega
end Tb
namespace Mk
open Go.RowKit Go.bZ Go.Gc Sl Mm Hd Bd Gy Bt Tb Pn
open Ti (Tn)
theorem cY.QL{w w':World}{E:Env}(hE:E.Ok){ws:List Int}{s:St}{N N':Int}(h:cY w E ws s N)(hc:cu (Of E.A [12,13,14,15,16,17,18,19]) w w'){col:Nat→Nat}{q:List Nat}{eI dq:Nat→Bool}{wa we:Nat}
 (ht:Tn w' (E.A 12) (E.A 13) (iu E.n col) N')(hg:dV w' E.i q eI dq wa we):cY w' E ws {s with col:=col,q:=q,eI:=eI,dq:=dq,wa:=wa,we:=we} N':=by
 obtain⟨z,b0⟩:=h.b0;obtain⟨-,-,-,-,f5⟩:=hE.uc (l:=[12,13,14,15,16,17,18,19]) (by decide);exact⟨rj hE h.cx hc (by decide),h.mem,h.tb.bY hc (hE.no (by decide)) (hE.no (by decide)),h.el,h.pn.bY hc (hE.no (by decide)) (hE.no (by decide)) (hE.no (by decide)) (hE.no (by decide)),h.cl,ht,hg,⟨z,b0.bY hc (hE.no (by decide))⟩,h.b1.bY hc (hE.no (by decide)),h.hl,iQ h.de h.d2 hc f5,aB h.d2 hc.size⟩
theorem Cq(n:Nat):iu n (fun _=>0)=List.replicate n 0:=by
 unfold iu;rw[List.map_const'];simp
theorem xY(n:Nat):(Builtin.zeroCells (Value.agg #[U 0,U 0,.bool false]).cells n).toList=dQ (List.replicate n ⟨0,0,false⟩):=by
 unfold Builtin.zeroCells dQ;rw[List.flatMap_def,List.map_replicate,Array.toList_map,Array.toList_range];exact xX (U 0) (U 0) (.bool false) n
theorem Cr{w w1 w2 w3:World}{E:Env}(hE:E.Ok){ws:List Int}{s:St}{N:Int}(h:cY w1 E ws {s with act:=true} N)(hk:cu (Of E.A [20]) w w1)
 (ht:Tn w2 (E.A 12) (E.A 13) (List.replicate (iu E.n s.col).length 0) (N+1))(ho:Ti.eQ w1 w2 (E.A 12) (E.A 13))(hg:dV w3 E.i [] (fun _=>false) (fun _=>false) 0 0)(hc:cu E.i.own w2 w3):
  cY w3 E ws {s with col:=fun _=>0,q:=[],eI:=fun _=>false,dq:=fun _=>false,wa:=0,we:=0,act:=true} (N+1)/\cu (Of E.A [12,13,14,15,16,17,18,19,20]) w w3:=by
 have c1:cu (Of E.A [12,13]) w1 w2:=mM ho (by simp) (by simp);have c2:=hc.up (fun k hk=>ou hk);have c3:cu (Of E.A [12,13,14,15,16,17,18,19]) w1 w3:=(c1.up (Of.up (by decide))).trans (c2.up (Of.up (by decide)));rw[l9,←Cq] at ht;exact⟨h.QL hE c3 (ib ht c2 (hE.no (by decide)) (hE.no (by decide))) hg,(hk.up (Of.up (by decide))).trans (c3.up (Of.up (by decide)))⟩
theorem OJ:(prog.info? 264).bind (·.zero)=some (.agg #[U 0,U 0,.bool false]):=by kernel_rfl
theorem QM:∀u∈(Value.agg #[U 0,U 0,.bool false]).cells.toList,u.oneCell'=true:=by
 intro u hu;simp[Value.cells] at hu;rcases hu with rfl|rfl <;> rfl
set_option maxHeartbeats 1000000 in
theorem rq{w:World}{E:Env}(hE:E.Ok){ws:List Int}{s:St}{N:Int}(h:cY w E ws s N)(ha:s.act=false)(hN:N<1000000)(hpg:0<E.pg):ak 297 #[af (aj (E.A 20))] w fun e w'=>e=ae (U 0)/\cY w' E ws (Go.Gc.begun s) (N+1)/\cu (Of E.A [12,13,14,15,16,17,18,19,20,21]) w w':=by
 have dT:=zK hE h true (by rw[ha];rfl);have D1:Hid (∀w1,cY w1 E ws {s with act:=true} N→w1.cell? (aj (E.A 20) 4)=some (af (aj (E.A 12)))/\ak 313 #[af (aj (E.A 12))] w1 fun e w2=>e=ae (.tuple #[])/\w2.cell? (aj (E.A 20) 5)=some (af (aj (E.A 14)))/\ak 314 #[af (aj (E.A 14))] w2 fun e w3=>e=ae (.tuple #[])/\cY w3 E ws {s with col:=fun _=>0,q:=[],eI:=fun _=>false,dq:=fun _=>false,wa:=0,we:=0,act:=true} (N+1)/\cu (Of E.A [12,13,14,15,16,17,18,19,20]) w1 w3):=bU (fun w1 h1=>by
  refine⟨h1.ptr.2.2.2.2.1,(Ti.Ch w1 (E.A 12) (E.A 13) _ N h1.tn hN).mono ?_⟩;rintro e w2 ⟨rfl,ht,ho⟩;have c1:cu (Of E.A [12,13]) w1 w2:=mM ho (by simp) (by simp);obtain⟨z,b0⟩:=h1.b0;refine⟨rfl,(b0.bY c1 (hE.no (by decide))).cell 5,(Fa (i:=E.i) (j4 hE h1.gy c1 (by decide)) hE.n1 hpg).mono ?_⟩;rintro e w3 ⟨rfl,hg,hc⟩;exact⟨rfl,Cr hE h1 (cu.refl _ _) ht ho hg hc⟩)
 have D3:Hid (∀w3 t,cY w3 E ws t (N+1)→w3.cell? (aj (E.A 20) 6)=some (ai (aj (E.A 21)) E.hn E.hn)/\(∀ty,(Builtin.clear_ #[205] ty #[ai (aj (E.A 21)) E.hn E.hn]).run prog w3=.ok (.tuple #[]) (w3.setRow (E.A 21) (dQ (List.replicate E.hn ⟨0,0,false⟩)).toArray))/\∃z,cj (w3.setRow (E.A 21) (dQ (List.replicate E.hn ⟨0,0,false⟩)).toArray) (E.A 20) #[af (aj (E.A 0)),af (aj (E.A 1)),af (aj (E.A 6)),af (aj (E.A 8)),af (aj (E.A 12)),af (aj (E.A 14)),ai (aj (E.A 21)) E.hn E.hn,U t.root,.bool t.act,U z] 207/\Hid (cY (((w3.setRow (E.A 21) (dQ (List.replicate E.hn ⟨0,0,false⟩)).toArray).setCell (aj (E.A 20) 7) (U 0)).setCell (aj (E.A 20) 9) (U 0)) E ws {t with root:=0,hs:=List.replicate E.hn ⟨0,0,false⟩} (N+1)/\cu (Of E.A [20,21]) w3 (((w3.setRow (E.A 21) (dQ (List.replicate E.hn ⟨0,0,false⟩)).toArray).setCell (aj (E.A 20) 7) (U 0)).setCell (aj (E.A 20) 9) (U 0)))):=bU (fun w3 t h3=>by
  obtain⟨z,b0⟩:=h3.b0;have hl:(dQ t.hs).length=E.hn*3:=by rw[Ci,h3.hl]
  have B1:=b0.qy (hE.ne (i:=20) (j:=21) (by decide)) (dQ (List.replicate E.hn ⟨0,0,false⟩)).toArray;have mX:cu (Of E.A [20,21]) w3 (((w3.setRow (E.A 21) (dQ (List.replicate E.hn ⟨0,0,false⟩)).toArray).setCell (aj (E.A 20) 7) (U 0)).setCell (aj (E.A 20) 9) (U 0)):=cu.stored (S:=Of E.A [20,21]) (cu.stored (S:=Of E.A [20,21]) ((cu.refl (Of E.A [20,21]) w3).row (.inl ⟨21,by simp,rfl⟩) _) (.inl ⟨20,by simp,rfl⟩) _ _) (.inl ⟨20,by simp,rfl⟩) _ _;refine⟨b0.cell 6,fun ty=>?_,z,B1,bU ⟨h3.own hE mX (root:=0) (act:=t.act) ⟨0,(B1.set 7 _).set 9 _⟩ (((h3.b1.setRow _).other (hE.ne (by decide)) 7 _).other (hE.ne (by decide)) 9 _) (by simp),mX⟩⟩;have:=kt (P:=prog) w3 205 264 ty (.agg #[U 0,U 0,.bool false]) underlying205 OJ (E.A 21) 0 E.hn E.hn (dQ t.hs).toArray 264 h3.b1 hE.h1 (by simp[Value.cells,hl]) QM;rw[xY] at this;rw[this]
  congr 2
  simp[Value.cells,hl])
 have hbe:({({s with col:=fun _=>0,q:=[],eI:=fun _=>false,dq:=fun _=>false,wa:=0,we:=0,act:=true}:St) with root:=0,hs:=List.replicate E.hn ⟨0,0,false⟩}:St)={Go.Gc.begun s with phase:=s.phase}:=by unfold Go.Gc.begun;rw[h.hl]
 have hM:∀W,cY W E ws {Go.Gc.begun s with phase:=s.phase} (N+1)→cY W E ws (Go.Gc.begun s) (N+1):=fun W h=>⟨h.cx,h.mem,h.tb,h.el,h.pn,h.cl,h.tn,h.gy,h.b0,h.b1,h.hl,h.de,h.d2⟩
 rw[hbe.symm] at hM;have HM:=bU hM;clear h hM hbe;go_enter func297,ntmps297;go_wp2_with (first
  | (go_at_call 312;(with_reducible refine dT.mono ?_);rintro e w1 ⟨rfl,h1,k1⟩;have K1:=bU k1;obtain⟨y4,dF⟩:=D1.out w1 h1;clear h1 k1)
  | (go_at_call 313;(with_reducible refine dF.mono ?_);rintro e w2 ⟨rfl,y5,dG⟩;clear dF)
  | (go_at_call 314;(with_reducible refine dG.mono ?_);rintro e w3 ⟨rfl,h3,k3⟩;have K3:=bU k3;obtain⟨y6,hcl,z,B,hZ⟩:=D3.out w3 _ h3;have f7:=B.cE 7;have f9:=B.cE 9;have z7:=B.cell 7;have z9:=B.cell 9;clear h3 k3 B dG))
 go_ret;exact⟨rfl,HM.out _ hZ.out.1,((K1.out.up (Of.up (by decide))).trans (K3.out.up (Of.up (by decide)))).trans (hZ.out.2.up (Of.up (by decide)))⟩
end Mk
namespace Sw
open Go.RowKit Go.bZ Go.Gc Sl Mm Hd Bd Gy Bt Tb Pn Mk Ar
open Ti (Tn)
def QN(E:Env)(s:St):Array Value:=#[af (aj (E.A 3)),af (aj (E.A 0)),af (aj (E.A 20)),af (aj (E.A 23)),U s.sa,.bool s.sact]
structure Co(w:World)(E:Env)(ws:List Int)(s:St)(N:Int):Prop where
 mp:cY w E ws s N
 ar:lE w (E.A 3) (E.A 4) (E.A 5) (E.A 1) E.n s.T s.used
 sb:cj w (E.A 22) (QN E s) 211
 rw:ee w (E.A 23) (E.A 24) E.n s.cZ
theorem Co.cA{w w':World}{E:Env}{ws:List Int}{s:St}{N:Int}(h:Co w E ws s N)(hb:Below w.heap.size w w'):Co w' E ws s N:=⟨h.mp.cA hb,h.ar.cA hb,h.sb.cA hb,h.rw.cA hb⟩
theorem Cs{E:Env}(hE:E.Ok){l:List Nat}(hl:l.all (fun i=>decide (i<64))=true){j:Nat}(hj:j<64)(h:j∉l):¬Of E.A l (E.A j):=fun⟨i,hi,e⟩=>by
 rw[bg] at hl;exact h (by rw[hE.inj j i hj (of_decide_eq_true (hl i hi)) e];exact hi)
theorem cY.uc{w w':World}{E:Env}(hE:E.Ok){ws:List Int}{s:St}{N:Int}(h:cY w E ws s N){l:List Nat}(hc:cu (Of E.A l) w w')(hl:l.all (fun i=>decide (i<64/\(22<=i\/(3<=i/\i<=5))))=true):cY w' E ws s N:=by
 rw[bg] at hl;have hl:∀i∈l,i<64/\(22<=i\/(3<=i/\i<=5)):=fun i hi=>of_decide_eq_true (hl i hi)
 have zJ:l.all (fun i=>decide (i<64))=true:=by rw[bg];exact fun i hi=>aw (hl i hi).1
 have no:∀j,j<22→(j<3\/5<j)→¬Of E.A l (E.A j):=fun j h1 h2=>Cs hE zJ (by omega) (fun hj=>by have:=hl j hj;omega)
 obtain⟨f1,f2,f3,f4,f5⟩:=hE.uc zJ;obtain⟨z,b0⟩:=h.b0;exact⟨h.cx.bY hc f4 (no 0 (by omega) (by omega)) (no 1 (by omega) (by omega)) (no 2 (by omega) (by omega)) f1 f2 f3,h.mem,h.tb.bY hc (no 6 (by omega) (by omega)) (no 7 (by omega) (by omega)),h.el,h.pn.bY hc (no 8 (by omega) (by omega)) (no 9 (by omega) (by omega)) (no 10 (by omega) (by omega)) (no 11 (by omega) (by omega)),h.cl,
  ib h.tn hc (no 12 (by omega) (by omega)) (no 13 (by omega) (by omega)),h.gy.bY hc (fun k hk=>by rcases hk with rfl|rfl|rfl|rfl|rfl|rfl <;> exact no _ (by omega) (by omega)),⟨z,b0.bY hc (no 20 (by omega) (by omega))⟩,h.b1.bY hc (no 21 (by omega) (by omega)),h.hl,iQ h.de h.d2 hc f5,aB h.d2 hc.size⟩
theorem Co.vR{w w':World}{E:Env}(hE:E.Ok){ws:List Int}{s t:St}{N N':Int}(h:Co w E ws s N){l:List Nat}(hc:cu (Of E.A l) w w')(hm:cY w' E ws t N')(hl:l.all (fun i=>decide (i<22/\¬(3<=i/\i<=5)))=true)(e1:t.T=s.T)(e2:t.used=s.used)(e3:t.cZ=s.cZ)(e4:t.sa=s.sa)(e5:t.sact=s.sact):Co w' E ws t N':=by
 rw[bg] at hl;have hl:∀i∈l,i<22/\¬(3<=i/\i<=5):=fun i hi=>of_decide_eq_true (hl i hi)
 have zJ:l.all (fun i=>decide (i<64))=true:=by rw[bg];exact fun i hi=>aw (by have:=hl i hi;omega)
 have no:∀j,j<64→(22<=j\/(3<=j/\j<=5))→¬Of E.A l (E.A j):=fun j h1 h2=>Cs hE zJ h1 (fun hj=>by have:=hl j hj;omega)
 refine⟨hm,?_,?_,?_⟩
 .rw[e1,e2];exact h.ar.bY hc (no 3 (by omega) (by omega)) (no 4 (by omega) (by omega)) (no 5 (by omega) (by omega))
 .unfold QN;rw[e4,e5];exact h.sb.bY hc (no 22 (by omega) (by omega))
 .rw[e3];exact h.rw.bY hc (no 23 (by omega) (by omega)) (no 24 (by omega) (by omega))
theorem cY.sw{w:World}{E:Env}{ws:List Int}{s:St}{N:Int}(h:cY w E ws s N)(T:Nat→Bool)(used:Int)(cZ:Nat→Bool)(sa:Nat)(sact:Bool)(ph:Nat):cY w E ws {s with T:=T,used:=used,cZ:=cZ,sa:=sa,sact:=sact,phase:=ph} N:=⟨h.cx,h.mem,h.tb,h.el,h.pn,h.cl,h.tn,h.gy,h.b0,h.b1,h.hl,h.de,h.d2⟩
theorem Co.ph{w:World}{E:Env}{ws:List Int}{s:St}{N:Int}(h:Co w E ws s N)(ph:Nat):Co w E ws {s with phase:=ph} N:=⟨cY.sw h.mp s.T s.used s.cZ s.sa s.sact ph,h.ar,h.sb,h.rw⟩
theorem Co.own{w w':World}{E:Env}(hE:E.Ok){ws:List Int}{s:St}{N:Int}(h:Co w E ws s N)(hc:cu (Of E.A [22]) w w'){sa:Nat}{sact:Bool}(hb:cj w' (E.A 22) (QN E {s with sa:=sa,sact:=sact}) 211):Co w' E ws {s with sa:=sa,sact:=sact} N:=
 ⟨cY.sw (cY.uc hE h.mp hc (by decide)) s.T s.used s.cZ sa sact s.phase,h.ar.bY hc (hE.no (by decide)) (hE.no (by decide)) (hE.no (by decide)),hb,h.rw.bY hc (hE.no (by decide)) (hE.no (by decide))⟩
theorem OK{E:Env}{w:World}(i:Nat)(v:Value):cu (Of E.A [22]) w (w.setCell (aj (E.A 22) i) v):=(cu.refl _ w).stored (.inl ⟨22,by simp,rfl⟩) i v
theorem cC{w:World}{E:Env}{ws:List Int}{s:St}{N:Int}(h:Co w E ws s N):ak 211 #[af (aj (E.A 22))] w fun e w'=>e=ae (.bool false)/\w=w':=by
 have c3:w.cell? (aj (E.A 22) 3)=some (af (aj (E.A 23))):=h.sb.cell 3;clear h;generalize E.A 22=q at *;go_enter func211,ntmps211;go_wp2_with fail;go_ret;exact⟨rfl,rfl⟩
theorem gJ{w:World}{E:Env}{ws:List Int}{s:St}{N:Int}(h:Co w E ws s N):ak 168 #[af (aj (E.A 22))] w fun e w'=>e=ae (.bool s.sact)/\w=w':=by
 have d:=cC h;have c5:w.cell? (aj (E.A 22) 5)=some (.bool s.sact):=h.sb.cell 5;clear h;generalize E.A 22=q at *;generalize s.sact=a at *;go_enter func168,ntmps168;go_wp2_with (go_at_call 211;refine d.mono ?_;rintro e w' ⟨rfl,rfl⟩)
 go_ret;exact⟨rfl,rfl⟩
theorem rq{w:World}{E:Env}(hE:E.Ok){ws:List Int}{s:St}{N:Int}(h:Co w E ws s N)(ha:s.sact=false):ak 163 #[af (aj (E.A 22))] w fun e w'=>e=ae (U 0)/\Co w' E ws {s with sact:=true} N/\cu (Of E.A [22]) w w':=by
 have d:=cC h;have c5:w.cell? (aj (E.A 22) 5)=some (.bool s.sact):=h.sb.cell 5;rw[ha] at c5;have f5:=h.sb.cE 5;have HP:Hid (Co (w.setCell (aj (E.A 22) 5) (.bool true)) E ws {s with sact:=true} N):=bU (h.own hE (OK 5 _) (sa:=s.sa) (sact:=true) (h.sb.set 5 _));have HC:=bU (OK (E:=E) (w:=w) 5 (.bool true));clear h;obtain⟨q,hq⟩:=al (E.A 22);rw[hq] at c5 f5 d HP HC ⊢;clear hq;go_enter func163,ntmps163;go_wp2_with (go_at_call 211;refine d.mono ?_;rintro e w' ⟨rfl,rfl⟩)
 go_ret;exact⟨rfl,HP.out,HC.out⟩
theorem qk{w:World}{E:Env}{ws:List Int}{s:St}{N:Int}(h:Co w E ws s N)(ha:s.sact=true):ak 164 #[af (aj (E.A 22))] w fun e w'=>e=ae (.bool ((s.sa:Int)==(E.n:Int)))/\∃m,w'=w.drewN m:=by
 have D:=bU (fun n=>gJ (h.cA (jh (bV _ _) n)));rw[ha] at D;have DL:=bU (fun n=>gX (h.cA (jh (bV _ _) n)).rw);have c3:w.cell? (aj (E.A 22) 3)=some (af (aj (E.A 23))):=h.sb.cell 3;have c4:w.cell? (aj (E.A 22) 4)=some (U s.sa):=h.sb.cell 4;clear h;generalize E.A 22=q at *;generalize E.A 23=Wp at *;generalize s.sa=a at *;go_enter func164,ntmps164;go_wp2_with fail
 go_quiet ((first|(go_at_call 168;exact Calls.quiet_of_same ((D.out _).mono (fun e w' h=>⟨h.1,h.2.symm⟩)))|(go_at_call 212;exact Calls.quiet_of_same ((DL.out _).mono (fun e w' h=>⟨h.1,h.2.symm⟩)))))
 go_wp2_with fail;go_ret;exact⟨rfl,_,rfl⟩
end Sw
namespace Sw
open Go.RowKit Go.bZ Go.Gc Sl Mm Hd Bd Gy Bt Tb Pn Mk Ar
open Ti (Tn)
def nc(bs:List Nat)(tn:Nat)(ws cR:List Int):Prop:=cR.length=ws.length/\∀j,(j<bs.getD tn 0\/bs.getD (tn+1) 0<=j)→cR[j]?=ws[j]?
theorem nc.refl(bs:List Nat)(tn:Nat)(ws:List Int):nc bs tn ws ws:=⟨rfl,fun _ _=>rfl⟩
theorem nc.trans{bs:List Nat}{tn:Nat}{a b c:List Int}(h:nc bs tn a b)(k:nc bs tn b c):nc bs tn a c:=⟨k.1.trans h.1,fun j hj=>(k.2 j hj).trans (h.2 j hj)⟩
theorem rv{bs:List Nat}{tn:Nat}{ws:List Int}{o n:Nat}(h1:bs.getD tn 0+o+n<=bs.getD (tn+1) 0)(h2:bs.getD (tn+1) 0<=ws.length):nc bs tn ws (eO ws (bs.getD tn 0+o) n):=
 ⟨jY _ _ _ (by omega),fun j hj=>by rw[qQ _ _ _ _ (by omega),if_neg (by omega)]⟩
theorem zN{bs:List Nat}{tn:Nat}{ws:List Int}{o:Nat}(h1:bs.getD tn 0+o+1<=bs.getD (tn+1) 0)(z:Int):nc bs tn ws (ws.set (bs.getD tn 0+o) z):=
 ⟨by simp,fun j hj=>by rw[bG,if_neg (by omega)]⟩
theorem th{bs:List Nat}{tn:Nat}{ws:List Int}{o n:Nat}(h:bs.getD tn 0+o+n<=ws.length)(a:Nat):at' bs tn (eO ws (bs.getD tn 0+o) n) a=if o<=a/\a<o+n then 0 else at' bs tn ws a:=by
 unfold at';generalize bs.getD tn 0=B at *;rw[ao,qQ _ _ _ _ h];by_cases c:o<=a/\a<o+n
 .rw[if_pos c,if_pos (by omega)];rfl
 .rw[if_neg c,if_neg (by omega),ao]
theorem F6{bs:List Nat}{tn:Nat}{ws:List Int}{o:Nat}(h:bs.getD tn 0+o<ws.length)(z:Int)(a:Nat):at' bs tn (ws.set (bs.getD tn 0+o) z) a=if a=o then z else at' bs tn ws a:=by
 unfold at';generalize bs.getD tn 0=B at *;rw[ao,bG];by_cases c:a=o
 .subst c;rw[if_pos rfl,if_pos rfl,if_pos h];rfl
 .rw[if_neg (by omega),if_neg c,ao]
theorem F7{E:Env}(hE:E.Ok):E.c.Ne:=⟨(hE.mw 0 (by omega)),(hE.mw 1 (by omega)),(hE.mw 2 (by omega)),Ne.symm hE.w3⟩
theorem MK{w:World}{E:Env}{ws:List Int}(h:Cx w E.c ws):E.bs.getD (E.tn+1) 0<=ws.length/\E.bs.getD (E.tn+1) 0=E.bs.getD E.tn 0+E.pg*E.pw:=⟨h.mm.le _ h.ht,h.hr⟩
theorem cY.J3{w w':World}{E:Env}(hE:E.Ok){ws cR:List Int}{s:St}{N:Int}(h:cY w E ws s N)(hx:Cx w' E.c cR)(hc:cu (· =E.mw) w w'){M:Nat→Int}(hM:∀a,a<E.pg*E.pw→M a=at' E.bs E.tn cR a):cY w' E cR {s with M:=M} N:=by
 obtain⟨z,b0⟩:=h.b0;have no:∀j,j<64→¬(E.A j=E.mw):=fun j hj=>hE.mw j hj
 exact⟨hx,hM,h.tb.bY hc (no 6 (by omega)) (no 7 (by omega)),h.el,h.pn.bY hc (no 8 (by omega)) (no 9 (by omega)) (no 10 (by omega)) (no 11 (by omega)),h.cl,ib h.tn hc (no 12 (by omega)) (no 13 (by omega)),
  h.gy.bY hc (fun k hk=>by rcases hk with rfl|rfl|rfl|rfl|rfl|rfl <;> exact no _ (by omega)),⟨z,b0.bY hc (no 20 (by omega))⟩,h.b1.bY hc (no 21 (by omega)),h.hl,iQ h.de h.d2 hc (Ne.symm hE.w4),aB h.d2 hc.size⟩
theorem Co.J3{w w':World}{E:Env}(hE:E.Ok){ws cR:List Int}{s:St}{N:Int}(h:Co w E ws s N)(hx:Cx w' E.c cR)(hc:cu (· =E.mw) w w'){M:Nat→Int}(hM:∀a,a<E.pg*E.pw→M a=at' E.bs E.tn cR a):Co w' E cR {s with M:=M} N:=by
 have no:∀j,j<64→¬(E.A j=E.mw):=fun j hj=>hE.mw j hj
 exact⟨cY.J3 hE h.mp hx hc hM,h.ar.bY hc (no 3 (by omega)) (no 4 (by omega)) (no 5 (by omega)),h.sb.bY hc (no 22 (by omega)),h.rw.bY hc (no 23 (by omega)) (no 24 (by omega))⟩
def Om(E:Env)(l:List Nat)(k:Nat):Prop:=k=E.mw\/Of E.A l k
theorem Om.of{E:Env}{l l':List Nat}(hl:l.all (fun i=>l'.contains i)=true)(k:Nat)(h:Of E.A l k):Om E l' k:=.inr (Of.up hl k h)
theorem Om.up{E:Env}{l l':List Nat}(hl:l.all (fun i=>l'.contains i)=true)(k:Nat)(h:Om E l k):Om E l' k:=h.elim .inl (fun h=>.inr (Of.up hl k h))
theorem Co.OL{w w':World}{E:Env}(hE:E.Ok){ws:List Int}{s:St}{N:Int}(h:Co w E ws s N){x k:Nat}{r:Rec}(sl:eJ E.pw E.rs E.n E.pg x k r)(lt:x<E.n)(hx:Cx w' E.c (eO ws (E.bs.getD E.tn 0+addrOf E.pw E.rs x) r.size))(hc:cu (· =E.mw) w w'):
  Co w' E (eO ws (E.bs.getD E.tn 0+addrOf E.pw E.rs x) r.size) {s with M:=oa E.K s.M x} N/\nc E.bs E.tn ws (eO ws (E.bs.getD E.tn 0+addrOf E.pw E.rs x) r.size):=by
 have ha:=jM hE.gd lt;have hz:cJ E.rs x=r.size:=by unfold cJ;rw[sl.gL]
 obtain⟨l1,l2⟩:=MK h.mp.cx;refine⟨h.J3 hE hx hc (fun a N4=>?_),rv (by omega) l1⟩;rw[th (by omega),←h.mp.mem a N4,←hz]
 rfl
end Sw
namespace Mk
open Go.RowKit Go.bZ Go.Gc Sl Mm Hd Bd Gy Bt Tb Pn
open Ti (Tn)
theorem oA{w:World}{E:Env}{ws:List Int}{s:St}{N:Int}(h:cY w E ws s N){x:Nat}(hx:x<E.n):ak 103 #[af (aj (E.A 20)),U x] w fun e w'=>e=ae (.tuple #[ab (s.col x:Nat),U 0])/\w=w':=by
 have d:=cC h;have hin:0<=(x:Int)/\(x:Int)<(iu E.n s.col).length:=by rw[l9];omega
 have e1:Ti.ME (iu E.n s.col) x=(s.col x:Nat):=by unfold Ti.ME;rw[if_pos hin,aG,vK _ _ _ hx]
 have e2:Ti.s9 (iu E.n s.col).length x=0:=by unfold Ti.s9;rw[if_pos hin]
 have dT:=Ti.JR w (E.A 12) (E.A 13) (iu E.n s.col) N x h.tn;rw[e1,e2] at dT;have c4:=h.ptr.2.2.2.2.1;clear h e1 e2 hin;generalize E.A 20=q at *;generalize E.A 12=R7 at *;generalize s.col x=c at *;go_enter func103,ntmps103;go_wp2_with (first|(go_at_call 127;(with_reducible refine d.mono ?_);rintro e w' ⟨rfl,rfl⟩)|(go_at_call 128;(with_reducible refine dT.mono ?_);rintro e w' ⟨rfl,rfl⟩))
 go_ret2
 exact⟨rfl,rfl⟩
theorem Ct{w:World}{E:Env}{ws:List Int}{s:St}{N:Int}(h:cY w E ws s N){x:Nat}(hx:x<E.n)(ha:s.act=false)(f:Value):ak 276 #[af (aj (E.A 20)),U x,f] w fun e w'=>e=ae (U 0)/\w=w':=by
 have d:=oA h hx;obtain⟨z,b0⟩:=h.b0;have c8:w.cell? (aj (E.A 20) 8)=some (.bool s.act):=b0.cell 8;rw[ha] at c8;clear h b0;generalize E.A 20=q at *;go_enter func276,ntmps276;go_wp2_with (go_at_call 103;(with_reducible refine d.mono ?_);rintro e w' ⟨rfl,rfl⟩)
 go_ret;exact⟨rfl,rfl⟩
theorem vS{w:World}{E:Env}(hE:E.Ok){ws:List Int}{s:St}{N:Int}(h:cY w E ws s N){x:Nat}(hx:x<E.n)(ha:s.act=true)(hq:s.q.length<=E.dv):ak 276 #[af (aj (E.A 20)),U x,.func (.func 261) #[af (aj (E.A 20))] #[]] w fun e w'=>e=ae (U 0)/\cY w' E ws (fO E.K s x) N/\cu (Of E.A [12,13,14,15,16,17,18,19]) w w':=by
 have d:=oA h hx;have dS:=ox hE h hx hq;obtain⟨z,b0⟩:=h.b0;have c8:w.cell? (aj (E.A 20) 8)=some (.bool s.act):=b0.cell 8;rw[ha] at c8;clear h b0;obtain⟨q,td⟩:=al (E.A 20);rw[td] at c8 d dS ⊢;clear td;go_enter func276,ntmps276;go_wp2_with (first|(go_at_call 103;(with_reducible refine d.mono ?_);rintro e w' ⟨rfl,rfl⟩)|(go_at_call 261;(with_reducible refine dS.mono ?_);rintro e w' ⟨rfl,hp,hc⟩))
 go_ret;exact⟨rfl,hp,hc⟩
theorem F8{w:World}{E:Env}(hE:E.Ok){ws:List Int}{s:St}{N:Int}(h:cY w E ws s N){x:Nat}(hx:x<E.n)(ha:s.act=true)(hq:s.q.length<=E.dv):ak 244 #[af (aj (E.A 20)),U x] w fun e w'=>e=ae (U 0)/\cY w' E ws (fO E.K s x) N/\cu (Of E.A [12,13,14,15,16,17,18,19]) w w':=by
 have d:=vS hE h hx ha hq;clear h;obtain⟨q,td⟩:=al (E.A 20);rw[td] at d ⊢;clear td;go_enter func244,ntmps244;go_wp2_with (go_at_call 276;(with_reducible refine d.mono ?_);rintro e w' ⟨rfl,hp,hc⟩)
 go_ret;exact⟨rfl,hp,hc⟩
theorem Cu{w:World}{E:Env}(hE:E.Ok){ws:List Int}{s:St}{N:Int}(h:cY w E ws s N){x:Nat}(hx:x<E.n){bx:Nat}(c0:w.cell? (aj bx)=some (af (aj (E.A 20)))):ak 277 #[U x,af (aj bx)] w fun e w'=>e=ae (.tuple #[])/\cY w' E ws {s with col:=cP s.col x 2} N/\cu (Of E.A [12,13]) w w':=by
 have d:=vM hE h hx;have c4:=h.ptr.2.2.2.2.1;clear h;obtain⟨q,td⟩:=al (E.A 20);rw[td] at c0 c4;clear td;obtain⟨R7,FM⟩:=al (E.A 12);rw[FM] at c4 d;clear FM;go_enter func277,ntmps277;go_wp2_with (go_at_call 262;(with_reducible refine d.mono ?_);rintro e w' ⟨rfl,hp,hc⟩)
 go_end0
 exact⟨rfl,hp,hc⟩
theorem vT{w:World}{E:Env}(hE:E.Ok){ws:List Int}{s:St}{N:Int}(h:cY w E ws s N){x:Nat}(hx:x<E.n)(ha:s.act=true){bx:Nat}(c0:w.cell? (aj bx)=some (af (aj (E.A 20)))):ak 276 #[af (aj (E.A 20)),U x,.func (.func 277) #[] #[af (aj bx)]] w fun e w'=>e=ae (U 0)/\cY w' E ws {s with col:=cP s.col x 2} N/\cu (Of E.A [12,13]) w w':=by
 have d:=oA h hx;have dS:=Cu hE h hx c0;obtain⟨z,b0⟩:=h.b0;have c8:w.cell? (aj (E.A 20) 8)=some (.bool s.act):=b0.cell 8;rw[ha] at c8;clear h b0 c0;obtain⟨q,td⟩:=al (E.A 20);rw[td] at c8 d ⊢;clear td;go_enter func276,ntmps276;go_wp2_with (first|(go_at_call 103;(with_reducible refine d.mono ?_);rintro e w' ⟨rfl,rfl⟩)|(go_at_call 277;(with_reducible refine dS.mono ?_);rintro e w' ⟨rfl,hp,hc⟩))
 go_ret;exact⟨rfl,hp,hc⟩
theorem F9{w:World}{E:Env}(hE:E.Ok){ws:List Int}{s:St}{N:Int}(h:cY w E ws s N){x:Nat}(hx:x<E.n)(ha:s.act=true):ak 235 #[af (aj (E.A 20)),U x] w fun e w'=>e=ae (U 0)/\cY w' E ws {s with col:=cP s.col x 2} N/\cu (Of E.A [12,13]) w w':=by
 have hb:Below w.heap.size w (w.alloc (.cells #[af (aj (E.A 20))] 139)):=bA (bV _ _) (av _) _;have d:=vT hE (h.cA hb) hx ha (bx:=w.heap.size) (eX w _ _ 0);have HB:=bU hb;clear h hb;obtain⟨q,td⟩:=al (E.A 20);rw[td] at d HB ⊢;clear td;go_enter func235,ntmps235;go_wp2_with (go_at_call 276;(with_reducible refine d.mono ?_);rintro e w' ⟨rfl,hp,hc⟩)
 go_ret;exact⟨rfl,hp,(cu.cD HB.out).trans hc⟩
theorem Cv{w:World}{E:Env}{ws:List Int}{s:St}{N:Int}(h:cY w E ws s N){x:Nat}(hx:x<E.n)(ha:s.act=false):ak 235 #[af (aj (E.A 20)),U x] w fun e w'=>e=ae (U 0)/\Below w.heap.size w w':=by
 have hb:Below w.heap.size w (w.alloc (.cells #[af (aj (E.A 20))] 139)):=bA (bV _ _) (av _) _;have d:=Ct (h.cA hb) hx ha (.func (.func 277) #[] #[af (aj w.heap.size)]);have HB:=bU hb;clear h hb;obtain⟨q,td⟩:=al (E.A 20);rw[td] at d HB ⊢;clear td;go_enter func235,ntmps235;go_wp2_with (go_at_call 276;(with_reducible refine d.mono ?_);rintro e w' ⟨rfl,rfl⟩)
 go_ret;exact⟨rfl,HB.out⟩
end Mk
end Go.Proofs.YtgblmelijlgimaaGreatDoor
