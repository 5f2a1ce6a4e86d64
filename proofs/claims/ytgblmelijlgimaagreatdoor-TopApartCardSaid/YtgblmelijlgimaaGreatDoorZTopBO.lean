/- Parts of the proof of TopApart. -/
import Derived.Test.YtgblmelijlgimaaGreatDoorZTopBN
set_option maxRecDepth 100000
namespace Go.Proofs.YtgblmelijlgimaaGreatDoor
open Go.Proofs.Tryz
open Go.RowKit eK
def ev(x:E):List Value:=[ab x.kind,U x.cQ,ab x.code,aa x.h,U x.a,U x.b,aa x.v,U x.worker,ab x.gV]
theorem Ao{w:World}{g:Nat}{o:Obj}(h:w.heap[g]?=some o):g<w.heap.size:=by
 rcases Nat.lt_or_ge g w.heap.size with k|k
 .exact k
 .rw[Array.getElem?_eq_none k] at h;cases h
theorem heap_alloc_old{w:World}{g:Nat}{o:Obj}(h:w.heap[g]?=some o)(x:Obj):(w.alloc x).heap[g]?=some o:=(Below.heap_alloc w x g (Ao h)).trans h
theorem rS{w:World}{g p:Nat}{o:Obj}(h:w.heap[g]?=some o)(hne:g≠p)(C:Array Value):(w.setRow p C).heap[g]?=some o:=(setRow_other w p g C hne).trans h
theorem fZ{w:World}{g p i:Nat}{o:Obj}(h:w.heap[g]?=some o)(hne:g≠p)(v:Value):(w.setCell (aj p i) v).heap[g]?=some o:=(Below.heap_setCell w _ v g hne).trans h
theorem jc{w:World}{p i:Nat}{C:Array Value}{t:TypeId}{fr:Nat×Nat}(h:w.heap[p]?=some (.cells C t fr))(v:Value):(w.setCell (aj p i) v).heap[p]?=some (.cells (C.setIfInBounds i v) t fr):=by
 rw[setCell_eq_setRow w p i C t fr v h];exact setRow_heap w p C _ t fr h
theorem ka{w:World}{g:Nat}{C:Array Value}{t:TypeId}(h:w.heap[g]?=some (.cells C t (0,0)))(i:Nat):w.frozen? (aj g i)=false:=by simp[World.frozen?,h]
theorem Dm{B:Nat}{a w:World}(h:Below B a w){g:Nat}(hg:B<=g)(C:Array Value):Below B a (w.setRow g C):=
 ⟨h.os,h.tape,h.output,by rw[setRow_size];exact h.size,fun k hk=>(setRow_other w g k C (by omega)).trans (h.block k hk)⟩
def kn:Array Value:=#[ab 0,U 0,ab 0,aa 0,U 0,U 0,aa 0,U 0,ab 0]
theorem Dn:kn.all (·.oneCell')=true:=by kernel_rfl
theorem NA:(prog.info? 56).map (·.size)=some kn.size:=by kernel_rfl
theorem pU(p q:Nat)(w:World)(C:Array Value)(ce:Value)(hp:w.heap[p]?=some (.cells C 56 (0,0)))(hC:C.size=9)(hq:w.heap[q]?=some (.cells #[ce] 33 (0,0)))(hpq:p≠q):
  CallsD prog 28 #[af (aj p),af (aj q)] (.panicking chain) w fun e u' w'=>
   e=ae (.tuple #[])/\u'=.panicking [{v:=.iface 86 (.agg #[]),recovered:=true}]/\w'.heap[p]?=some (.cells kn 56 (0,0))/\w'.heap[q]?=some (.cells #[U 250] 33 (0,0))/\w.heap.size<w'.heap.size/\∀B,B<=p→B<=q→Below B w w':=by
 have hta:∀w,(Instr.typeAssert (.iface 86 (.agg #[])) 20 86 true).run prog w=.ok (.tuple #[.agg #[],.bool true]) w:=fun w=>by kernel_rfl
 have qJ:(w.alloc (.cells #[] 86)).heap[p]?=some (.cells C 56 (0,0)):=heap_alloc_old hp _;have Jb:((w.alloc (.cells #[] 86)).setRow p kn).heap[q]?=some (.cells #[ce] 33 (0,0)):=rS (heap_alloc_old hq _) (Ne.symm hpq) _;have hqc:=cell_of_row _ _ 0 _ _ _ Jb;have hqf:=ka Jb 0;have po:=bU (fZ (i:=0) (setRow_heap _ p _ kn _ _ qJ) hpq (Value.int .i64 250));have Ow:=bU (jc (i:=0) Jb (Value.int .i64 250));have HB:Hid (∀B,B<=p→B<=q→Below B w (((w.alloc (.cells #[] 86)).setRow p kn).setCell (aj q) (U 250))):=bU (fun B h1 h2=>(Dm ((bV B w).alloc (aE h1 (bL (Ao hp))) _) h1 _).setCell h2 _);clear hq Jb hp;refine callsD_of_wpS func28 rfl fun c₀ cs hu=>?_
 simp only[ntmps28,aP,aC,aV,Nat.reduceAdd,Nat.reduceSub,aL,
   aK,aT,aM,aU,aX]
 apply wpS_seq;apply wpS_region;simp[wpOpsS,go_sem,recoverD,hu,Exit.thenS,chain];refine wpS_of_wp ?_;go_wp2_with (refine wpList_store_row rfl _ _ _ rfl p kn rfl rfl 56 C qJ NA hC Dn ?_)
 simp[bodyPostS,results,Tryz.results28];exact⟨po.out,Ow.out,HB.out⟩
theorem yL(p q:Nat)(w:World):
  CallsD prog 28 #[af (aj p),af (aj q)] .returning w fun e u' w'=>e=ae (.tuple #[])/\u'=.returning/\w=w':=by
 refine callsD_of_wpS func28 rfl fun c₀ cs hu=>?_
 simp only[ntmps28,aP,aC,aV,Nat.reduceAdd,Nat.reduceSub,aL,
   aK,aT,aM,aU,aX]
 apply wpS_seq;apply wpS_region;simp[wpOpsS,go_sem,recoverD,hu,Exit.thenS];refine wpS_of_wp ?_;go_wp2_with fail
 cases c₀
 simp_all [bodyPostS,results,Tryz.results28]
structure GS(w0 w:World)(x:E)(p:Nat)(l:List UInt8):Prop where
 hx:w.heap[w0.heap.size]?=some (.cells (ev x).toArray 56 (0,0))
 he:w.heap[w0.heap.size+1]?=some (.cells #[U 0] 33 (0,0))
 rd:Rd w (w0.heap.size+2) p l
 bl:Below w0.heap.size w0 w
theorem GS.call{w0 w w':World}{x:E}{p:Nat}{l l':List UInt8}{s:Value}(g:GS w0 w x p l)(hr:Rd w' (w0.heap.size+2) p l')(hw:w'=w.setCell (aj p) s):GS w0 w' x p l':=by
 have:=g.rd.pB;subst hw;exact⟨fZ g.hx (by omega) _,fZ g.he (by omega) _,hr,g.bl.setCell (by show w0.heap.size<=p;omega) _⟩
theorem GS.store{w0 w:World}{x y:E}{p:Nat}{l:List UInt8}{i:Nat}{v:Value}(g:GS w0 w x p l)(h:(ev x).set i v=ev y):GS w0 (w.setCell (aj w0.heap.size i) v) y p l:=by
 have h1:=g.rd.pB;obtain⟨r1,r2,r3,r4,gg,off,cap,r5,r6,r7,r8,r9,UN,UO⟩:=g.rd;refine⟨?_,fZ g.he (by omega) _,⟨r1,r2,by simpa using r3,by rw[World.frozen?_setCell];exact r4,gg,off,cap,r5,by simpa using r6,r7,r8,r9,?_,fun j hj=>?_⟩,g.bl.setCell (av _) _⟩
 .rw[jc g.hx]
  simp[h]
 .rw[World.cell?_setCell_other _ _ _ _ (qu (by omega))];exact UN
 .rw[World.cell?_setCell_other _ _ _ _ (qu (by omega))];exact UO j hj
theorem GS.cell{w0 w:World}{x:E}{p:Nat}{l:List UInt8}(g:GS w0 w x p l)(i:Nat):w.cell? (aj w0.heap.size i)=(ev x)[i]?:=by
 rw[cell_of_row _ _ _ _ _ _ g.hx];simp
theorem GS.cE{w0 w:World}{x:E}{p:Nat}{l:List UInt8}(g:GS w0 w x p l)(i:Nat):w.frozen? (aj w0.heap.size i)=false:=ka g.hx i
open Go.RowKit eK
def cH(l:List UInt8):E:=(iL l).getD E.zero
def mA(l:List UInt8):Int:=if(iL l).isSome then 0 else 250
def uC(l:List UInt8)(w:World)(e:Ending)(w':World):Prop:=e=ae (.tuple #[.agg (ev (cH l)).toArray,U (mA l)])/\Below w.heap.size w w'
theorem Ig(w:World)(l:List UInt8)(hl:l.length<=100000)(n c:Nat)(hn:(bs l).size=n)(hc:c=grownCap ((w.alloc (.cells kn 56)).alloc (.cells #[U 0] 33)) (bs l).size 0 5):
  GS w (((((w.alloc (.cells kn 56)).alloc (.cells #[U 0] 33)).alloc (.cells (bytesRow (bs l) c) 5 ((bytesRow (bs l) c).size,(bytesRow (bs l) c).size+1))).alloc (.cells #[ai (aj (w.heap.size+1+1)) n c] 90)).drew) E.zero (w.heap.size+1+1+1) l:=by
 have hnl:n=l.length:=by rw[←hn];rfl
 have c1:l.length<=c:=by rw[hc];exact grownCap_ge _ _ _ _
 have c2:c<=maxLen:=by rw[hc];exact grownCap_le_maxLen _ _ _ _ (by show l.length<=maxLen;unfold maxLen;omega)
 obtain⟨W2,iz⟩:=al ((w.alloc (.cells kn 56)).alloc (.cells #[U 0] 33));have s2:W2.heap.size=w.heap.size+2:=by rw[←iz];simp
 have x2:W2.heap[w.heap.size]?=some (.cells kn 56 (0,0)):=by rw[←iz];exact heap_alloc_old (heap_alloc_new w _) _
 have e2:W2.heap[w.heap.size+1]?=some (.cells #[U 0] 33 (0,0)):=by rw[←iz,show w.heap.size+1=(w.alloc (.cells kn 56)).heap.size from by simp];exact heap_alloc_new _ _
 have b2:Below w.heap.size w W2:=by rw[←iz];exact((bV _ _).alloc (av _) _).alloc (by simp) _
 rw[iz];clear iz hc;obtain⟨W3,tP⟩:=al (W2.alloc (.cells (bytesRow (bs l) c) 5 ((bytesRow (bs l) c).size,(bytesRow (bs l) c).size+1)));have s3:W3.heap.size=w.heap.size+3:=by rw[←tP];simp[s2]
 have g3:∀j,(h:j<l.length)→W3.cell? (aj (w.heap.size+2) j)=some (BV l[j]):=by
  intro j hj;rw[←tP,←s2,World.cell?_alloc_mark];exact bytesRow_at (bs l) c j hj
 have x3:=heap_alloc_old x2 (.cells (bytesRow (bs l) c) 5 ((bytesRow (bs l) c).size,(bytesRow (bs l) c).size+1));have e3:=heap_alloc_old e2 (.cells (bytesRow (bs l) c) 5 ((bytesRow (bs l) c).size,(bytesRow (bs l) c).size+1));have b3:=b2.alloc (by omega) (.cells (bytesRow (bs l) c) 5 ((bytesRow (bs l) c).size,(bytesRow (bs l) c).size+1));rw[tP] at x3 e3 b3 ⊢;have p4:=heap_alloc_new W3 (.cells #[ai (aj (w.heap.size+1+1)) n c] 90);rw[s3] at p4;refine⟨heap_alloc_old x3 _,heap_alloc_old e3 _,⟨hl,by omega,?_,ka p4 0,w.heap.size+2,0,c,by omega,?_,by omega,c1,c2,?_,fun j hj=>?_⟩,(b3.alloc (by omega) _).drew⟩
 .show _<(W3.alloc _).heap.size;simp;omega
 .show _<(W3.alloc _).heap.size;simp;omega
 .exact(cell_of_row _ _ 0 _ _ _ p4).trans (by rw[hnl];rfl)
 .show(W3.alloc _).cell? _=_
  rw[bM,World.cell?_alloc_past _ _ _ (by omega)];exact g3 j hj
theorem ko:(prog.info? 56).map (·.size)=some 9:=by kernel_rfl
theorem pJ(tmps:Array Value)(w:World)(H:Nat)(C:Array Value)(v:Int)(h2:tmps.getD 2 undef=af (aj H))(h3:tmps.getD 3 undef=af (aj (H+1)))(hC:C.size=9)
 (hx:w.heap[H]?=some (.cells C 56 (0,0)))(he:w.heap[H+1]?=some (.cells #[U v] 33 (0,0))):
  (results Tryz.f16 tmps).run prog w=.ok (.tuple #[.agg C,U v]) w:=by
 have N3:tmps[2]?.getD undef=af (aj H):=by simpa using h2
 have UP:tmps[3]?.getD undef=af (aj (H+1)):=by simpa using h3
 have l1:=run_loadVar_row (P:=prog) w H 56 56 C (0,0) _ hx underlying56 rfl (by rw[hC];exact ko);have c2:w.cell? (aj (H+1))=some (U v):=cell_of_row _ _ 0 _ _ _ he;have l2:(loadVar 33 ⟨H+1,0,none⟩).run prog w=.ok (U v) w:=by simp[go_sem,c2]
 simp[results,Tryz.results16,N3,UP,asAddr,l1,l2]
theorem kb{l:List UInt8}(h:iL l=none):cH l=E.zero/\mA l=250:=by unfold cH mA;rw[h];exact⟨rfl,rfl⟩
theorem la{l:List UInt8}{x:E}(h:iL l=some x):cH l=x/\mA l=0:=by unfold cH mA;rw[h];exact⟨rfl,rfl⟩
theorem fK{w0 w:World}{x:E}{p:Nat}{r l:List UInt8}(g:GS w0 w x p r)(h:iL l=none)(tmps:Array Value)(h2:tmps.getD 2 undef=af (aj w0.heap.size))(h3:tmps.getD 3 undef=af (aj (w0.heap.size+1))):
  Leaves prog Tryz.f16 tmps (uC l w0) [{target:=.fn (.func 28) #[af (aj w0.heap.size),af (aj (w0.heap.size+1))],args:=#[]}] (.panicking chain) w:=by
 refine leaves_cons (f:=28) (args:=#[af (aj w0.heap.size),af (aj (w0.heap.size+1))]) (by simp) (by simp[go_sem]) ?_;refine(pU w0.heap.size (w0.heap.size+1) w _ _ g.hx rfl g.he (by omega)).mono ?_;rintro e u' OB ⟨rfl,rfl,hx,he,_,hb⟩;refine⟨_,pJ tmps OB _ _ _ h2 h3 rfl hx he,?_,g.bl.trans (hb _ (av _) (by omega))⟩;rw[(kb h).1,(kb h).2];rfl
theorem wO{w0 w:World}{l:List UInt8}(hx:w.heap[w0.heap.size]?=some (.cells (ev (cH l)).toArray 56 (0,0)))(he:w.heap[w0.heap.size+1]?=some (.cells #[U (mA l)] 33 (0,0)))(hb:Below w0.heap.size w0 w)(tmps:Array Value)(h2:tmps.getD 2 undef=af (aj w0.heap.size))(h3:tmps.getD 3 undef=af (aj (w0.heap.size+1))):
  Leaves prog Tryz.f16 tmps (uC l w0) [{target:=.fn (.func 28) #[af (aj w0.heap.size),af (aj (w0.heap.size+1))],args:=#[]}] .returning w:=by
 refine leaves_cons (f:=28) (args:=#[af (aj w0.heap.size),af (aj (w0.heap.size+1))]) (by simp) (by simp[go_sem]) ?_;refine(yL w0.heap.size (w0.heap.size+1) w).mono ?_;rintro e u' OB ⟨rfl,rfl,rfl⟩;exact⟨_,pJ tmps w _ _ _ h2 h3 rfl hx he,rfl,hb⟩
theorem jv{k:UInt8}{r:List UInt8}(hk:k.toNat=1)(h:(k::r).length≠27):iL (k::r)=none:=by
 unfold iL;rw[if_neg,if_neg (fun x=>h x.1)];rintro ⟨_,x⟩;have:k=2:=x;subst this;exact absurd hk (by decide)
theorem kC{k:UInt8}{r:List UInt8}(hk:k.toNat=2)(h:(k::r).length≠3):iL (k::r)=none:=by
 unfold iL;rw[if_neg (fun x=>h x.1),if_neg];rintro ⟨_,x⟩;have:k=1:=x;subst this;exact absurd hk (by decide)
theorem Dp{k:UInt8}{r:List UInt8}(h1:k.toNat≠1)(h2:k.toNat≠2):iL (k::r)=none:=by
 unfold iL;rw[if_neg,if_neg]
 .rintro ⟨_,x⟩
  have:k=1:=x;subst this;exact h1 rfl
 .rintro ⟨_,x⟩
  have:k=2:=x;subst this;exact h2 rfl
theorem Ap{k a b:UInt8}(hk:k.toNat=2):iL [k,a,b]=some ⟨2,0,0,0,0,0,0,a.toNat,b.toNat⟩:=by
 have:k=2:=by apply UInt8.toNat.inj;rw[hk];rfl
 subst this;unfold iL;rw[if_pos ⟨rfl,rfl⟩];rfl
theorem Aq{k t c:UInt8}{r:List UInt8}(hk:k.toNat=1)(hr:r.length=24):iL (k::t::c::r)=some ⟨1,t.toNat,c.toNat,num (r.take 8),sg (num ((r.drop 8).take 4)),sg (num (((r.drop 8).drop 4).take 4)),num ((((r.drop 8).drop 4).drop 4).take 8),0,0⟩:=by
 have:k=1:=by apply UInt8.toNat.inj;rw[hk];rfl
 subst this;unfold iL;rw[if_neg (fun x=>by have h1:=x.1;rw[aC,aC,aC,hr] at h1;omega),if_pos ⟨by rw[aC,aC,aC,hr],rfl⟩];have e1:(r.drop 8).drop 4=r.drop 12:=by rw[List.drop_drop]
 have e2:(r.drop 12).drop 4=r.drop 16:=by rw[List.drop_drop]
 rw[e1,e2,List.take_of_length_le (i:=8) (l:=r.drop 16) (by rw[List.length_drop];omega)]
 rfl
theorem uD(x:E):(ev x).toArray.all (·.oneCell')=true:=by
 rw[Array.all_eq_true_iff_forall_mem];intro v hv;simp[ev] at hv;rcases hv with rfl|rfl|rfl|rfl|rfl|rfl|rfl|rfl|rfl <;> rfl
set_option maxHeartbeats 1000000 in
theorem At(l:List UInt8)(hl:l.length<=100000)(w:World):
  ak 16 #[.string (bs l)] w (uC l w):=by
 have hmf:∀(fn:Fn) (first cap:Array Value) (w:World),(Instr.makeFunc fn first cap).run prog w=.ok (.func fn first cap) w:=fun _ _ _ _=>rfl
 have hcv:∀w,∃c,c=grownCap w (bs l).size 0 5/\(convert 9 27 (.string (bs l))).run prog w=.ok (ai (aj w.heap.size) (bs l).size c)
   (w.drew.alloc (.cells (bytesRow (bs l) c) 5 ((bytesRow (bs l) c).size,(bytesRow (bs l) c).size+1))):=fun w=>⟨_,rfl,run_bytes_of_string w 9 27 5 (bs l) underlying9 underlying27 underlying5⟩
 obtain⟨c,hc,hcv⟩:=hcv ((w.alloc (.cells kn 56)).alloc (.cells #[U 0] 33));have HC:=bU hc;obtain⟨n,hn⟩:=al ((bs l).size);rw[hn] at hcv;have HN:=bU hn;unfold kn at hcv;clear hc hn;have HL:=bU hl;clear hl
 go_enter_defers func16,ntmps16
 go_wp2_with fail;clear hcv hmf;have G:=bU (Ig w l HL.out n c HN.out HC.out);clear HN HC HL;rcases l with _|⟨k,r⟩
 .refine(oE _ _ _ _ G.out.rd (by simp)).mono ?_
  rintro e w' ⟨rfl,rfl⟩;go_wp2_with fail;exact fK G.out (by unfold iL;rfl) _ rfl rfl
 obtain⟨K,hK⟩:∃K:Nat,k.toNat=K:=⟨_,rfl⟩;have HK:=bU hK;have c1:=oF _ _ _ k r G.out.rd;rw[hK] at c1;clear hK;have Wy:K<256:=by rw[←HK.out];exact k.toNat_lt
 refine(c1).mono ?_;rintro e w1 ⟨rfl,hr,s,hw⟩;have G':=bU (G.out.call hr hw);clear hr hw s G;clear c1;have PW:(w1).cell? (aj w.heap.size)=some (ab 0):=G'.out.cell 0;have SO:=G'.out.cE 0;have G2:Hid (GS w ((w1).setCell (aj w.heap.size) (ab K)) ⟨K,0,0,0,0,0,0,0,0⟩ (w.heap.size+1+1+1) _):=bU (G'.out.store rfl);clear G';by_cases h1:K=1
 .subst h1
  go_wp2_with fail;clear PW SO;rcases r with _|⟨t,r⟩
  .refine(oE _ _ _ _ G2.out.rd (by simp)).mono ?_
   rintro e w' ⟨rfl,rfl⟩;go_wp2_with fail;exact fK G2.out (jv HK.out (by simp)) _ rfl rfl
  have ht:=t.toNat_lt;refine(oF _ _ _ t r G2.out.rd).mono ?_;rintro e w2 ⟨rfl,hr,s,hw⟩;have IX:=bU (G2.out.call hr hw);clear hr hw s G2;have UQ:(w2).cell? (aj w.heap.size 1)=some (U 0):=IX.out.cell 1;have UR:=IX.out.cE 1;have G3:Hid (GS w ((w2).setCell (aj w.heap.size 1) (U t.toNat)) ⟨(1:Nat),t.toNat,0,0,0,0,0,0,0⟩ (w.heap.size+1+1+1) _):=bU (IX.out.store rfl);clear IX;go_wp2_with fail;clear UQ UR;rcases r with _|⟨cc,r⟩
  .refine(oE _ _ _ _ G3.out.rd (by simp)).mono ?_
   rintro e w' ⟨rfl,rfl⟩;go_wp2_with fail;exact fK G3.out (jv HK.out (by simp)) _ rfl rfl
  have hcc:=cc.toNat_lt;refine(oF _ _ _ cc r G3.out.rd).mono ?_;rintro e w3 ⟨rfl,hr,s,hw⟩;have Pd:=bU (G3.out.call hr hw);clear hr hw s G3;go_wp2_with fail;by_cases hAr:r.length<8
  .refine(tH _ _ _ _ Pd.out.rd hAr).mono ?_
   rintro e w' ⟨rfl,rfl⟩;go_wp2_with fail;exact fK Pd.out (jv HK.out (by simp;omega)) _ rfl rfl
  obtain⟨r8,Qf⟩:=al (r.drop 8);obtain⟨H,hH⟩:=al ((num (r.take 8):Int));have Wz:r8.length=r.length-8:=by rw[←Qf];exact List.length_drop
  have Rs:=tI _ _ _ r Pd.out.rd (by omega);rw[Qf,hH] at Rs;have US:=bU Qf;have HH:=bU hH;clear Qf hH;refine(Rs).mono ?_;rintro e w4 ⟨rfl,hr,s,hw⟩;have KR:=bU (Pd.out.call hr hw);clear hr hw s Pd;clear Rs;have UT:(w4).cell? (aj w.heap.size 2)=some (ab 0):=KR.out.cell 2;have UU:=KR.out.cE 2;have G4:Hid (GS w ((w4).setCell (aj w.heap.size 2) (ab cc.toNat)) ⟨(1:Nat),t.toNat,cc.toNat,0,0,0,0,0,0⟩ (w.heap.size+1+1+1) _):=bU (KR.out.store rfl);have UW:(w4.setCell (aj w.heap.size 2) (ab cc.toNat)).cell? (aj w.heap.size 3)=some (aa 0):=G4.out.cell 3;have UX:=G4.out.cE 3;have G5:Hid (GS w ((w4.setCell (aj w.heap.size 2) (ab cc.toNat)).setCell (aj w.heap.size 3) (aa H)) ⟨(1:Nat),t.toNat,cc.toNat,H,0,0,0,0,0⟩ (w.heap.size+1+1+1) _):=bU (G4.out.store rfl);clear KR G4;go_wp2_with fail;clear UT UU UW UX;by_cases Rt:r8.length<4
  .refine(wM _ _ _ _ G5.out.rd Rt).mono ?_
   rintro e w' ⟨rfl,rfl⟩;go_wp2_with fail;exact fK G5.out (jv HK.out (by simp;omega)) _ rfl rfl
  obtain⟨Ol,KS⟩:=al (r8.drop 4);obtain⟨A,hA⟩:=al (sg (num (r8.take 4)));have UY:Ol.length=r8.length-4:=by rw[←KS];exact List.length_drop
  have NB:=wN _ _ _ r8 G5.out.rd (by omega);rw[KS,hA] at NB;have Ru:=bU KS;have HA:=bU hA;clear KS hA;refine(NB).mono ?_;rintro e w5 ⟨rfl,hr,s,hw⟩;have Pe:=bU (G5.out.call hr hw);clear hr hw s G5;clear NB;go_wp2_with fail;by_cases Pf:Ol.length<4
  .refine(wM _ _ _ _ Pe.out.rd Pf).mono ?_
   rintro e w' ⟨rfl,rfl⟩;go_wp2_with fail;exact fK Pe.out (jv HK.out (by simp;omega)) _ rfl rfl
  obtain⟨On,KT⟩:=al (Ol.drop 4);obtain⟨B,hB⟩:=al (sg (num (Ol.take 4)));have UZ:On.length=Ol.length-4:=by rw[←KT];exact List.length_drop
  have NC:=wN _ _ _ Ol Pe.out.rd (by omega);rw[KT,hB] at NC;have Rv:=bU KT;have HB:=bU hB;clear KT hB;refine(NC).mono ?_;rintro e w6 ⟨rfl,hr,s,hw⟩;have KU:=bU (Pe.out.call hr hw);clear hr hw s Pe;clear NC;have U0:(w6).cell? (aj w.heap.size 4)=some (U 0):=KU.out.cell 4;have U1:=KU.out.cE 4;have G6:Hid (GS w ((w6).setCell (aj w.heap.size 4) (U A)) ⟨(1:Nat),t.toNat,cc.toNat,H,A,0,0,0,0⟩ (w.heap.size+1+1+1) _):=bU (KU.out.store rfl);have U2:(w6.setCell (aj w.heap.size 4) (U A)).cell? (aj w.heap.size 5)=some (U 0):=G6.out.cell 5;have U4:=G6.out.cE 5;have G7:Hid (GS w ((w6.setCell (aj w.heap.size 4) (U A)).setCell (aj w.heap.size 5) (U B)) ⟨(1:Nat),t.toNat,cc.toNat,H,A,B,0,0,0⟩ (w.heap.size+1+1+1) _):=bU (G6.out.store rfl);clear KU G6;go_wp2_with fail;clear U0 U1 U2 U4;by_cases Pg:On.length<8
  .refine(tH _ _ _ _ G7.out.rd Pg).mono ?_
   rintro e w' ⟨rfl,rfl⟩;go_wp2_with fail;exact fK G7.out (jv HK.out (by simp;omega)) _ rfl rfl
  obtain⟨z,hz⟩:=al (On.drop 8);obtain⟨V,hV⟩:=al ((num (On.take 8):Int));have dz:z.length=On.length-8:=by rw[←hz];exact List.length_drop
  have cz:=tI _ _ _ On G7.out.rd (by omega);rw[hz,hV] at cz;have Hz:=bU hz;have HV:=bU hV;clear hz hV;refine(cz).mono ?_;rintro e w7 ⟨rfl,hr,s,hw⟩;have Qg:=bU (G7.out.call hr hw);clear hr hw s G7;clear cz;have WA:(w7).cell? (aj w.heap.size 6)=some (aa 0):=Qg.out.cell 6;have WB:=Qg.out.cE 6;have G8:Hid (GS w ((w7).setCell (aj w.heap.size 6) (aa V)) ⟨(1:Nat),t.toNat,cc.toNat,H,A,B,V,0,0⟩ (w.heap.size+1+1+1) _):=bU (Qg.out.store rfl);clear Qg;obtain⟨ra,rc,hrc⟩:=H7 G8.out.rd;by_cases hE:0<z.length
  .go_wp2_with fail
   exact fK G8.out (jv HK.out (by simp;omega)) _ rfl rfl
  have hz:z.length=0:=by omega
  rw[hz] at hrc;have hx:(w7.setCell (aj w.heap.size 6) (aa V)).heap[w.heap.size]?=some (.cells (ev ⟨1,t.toNat,cc.toNat,H,A,B,V,0,0⟩).toArray 56 (0,0)):=G8.out.hx;have he:=G8.out.he;have hb:=G8.out.bl.setCell (p:=⟨w.heap.size+1,0,none⟩) (Nat.le_succ _) (U 0);have ce:=cell_of_row _ _ 0 _ _ _ he;have fe:=ka he 0;have hse:=setRow_self _ _ _ _ _ hx;have HX:=bU hx;have Ea:=fZ (p:=w.heap.size+1) (i:=0) hx (by omega) (U 0);have Ph:=jc (i:=0) he (U 0);have hg:=la (show iL (k::t::cc::r)=some ⟨1,t.toNat,cc.toNat,H,A,B,V,0,0⟩ from by rw[Aq HK.out (by omega)];rw[US.out,Ru.out,Rv.out,HH.out,HA.out,HB.out,HV.out]);have HD:=bU (fun tmps=>wO (l:=_) (w0:=w) (by rw[hg.1];exact Ea) (by rw[hg.2];exact Ph) hb tmps);clear hx he hb Ea Ph hg hz hE;go_wp2_with (first|(refine wpList_load_row rfl _ _ rfl w.heap.size rfl 56 (ev ⟨1,t.toNat,cc.toNat,H,A,B,V,0,0⟩).toArray (0,0) _ HX.out underlying56 rfl ko ?_)|(refine wpList_store_row rfl _ _ _ rfl w.heap.size (ev ⟨1,t.toNat,cc.toNat,H,A,B,V,0,0⟩).toArray rfl rfl 56 _ HX.out ko rfl (uD _) ?_))
  refine HD.out _ ?_ ?_ <;> rfl
 .by_cases h2:K=2
  .subst h2
   go_wp2_with fail;clear PW SO;rcases r with _|⟨t,r⟩
   .refine(oE _ _ _ _ G2.out.rd (by simp)).mono ?_
    rintro e w' ⟨rfl,rfl⟩;go_wp2_with fail;exact fK G2.out (kC HK.out (by simp)) _ rfl rfl
   have ht:=t.toNat_lt;refine(oF _ _ _ t r G2.out.rd).mono ?_;rintro e w2 ⟨rfl,hr,s,hw⟩;have IX:=bU (G2.out.call hr hw);clear hr hw s G2;go_wp2_with fail;rcases r with _|⟨cc,z⟩
   .refine(oE _ _ _ _ IX.out.rd (by simp)).mono ?_
    rintro e w' ⟨rfl,rfl⟩;go_wp2_with fail;exact fK IX.out (kC HK.out (by simp)) _ rfl rfl
   have hcc:=cc.toNat_lt;refine(oF _ _ _ cc z IX.out.rd).mono ?_;rintro e w3 ⟨rfl,hr,s,hw⟩;have KV:=bU (IX.out.call hr hw);clear hr hw s IX;have WC:(w3).cell? (aj w.heap.size 7)=some (U 0):=KV.out.cell 7;have WD:=KV.out.cE 7;have G3:Hid (GS w ((w3).setCell (aj w.heap.size 7) (U t.toNat)) ⟨(2:Nat),0,0,0,0,0,0,t.toNat,0⟩ (w.heap.size+1+1+1) _):=bU (KV.out.store rfl);have WE:(w3.setCell (aj w.heap.size 7) (U t.toNat)).cell? (aj w.heap.size 8)=some (ab 0):=G3.out.cell 8;have WG:=G3.out.cE 8;have G4:Hid (GS w ((w3.setCell (aj w.heap.size 7) (U t.toNat)).setCell (aj w.heap.size 8) (ab cc.toNat)) ⟨(2:Nat),0,0,0,0,0,0,t.toNat,cc.toNat⟩ (w.heap.size+1+1+1) _):=bU (G3.out.store rfl);clear KV G3;obtain⟨ra,rc,hrc⟩:=H7 G4.out.rd;by_cases hE:0<z.length
   .go_wp2_with fail
    exact fK G4.out (kC HK.out (by rw[aC,aC,aC];omega)) _ rfl rfl
   have hz:z.length=0:=by omega
   rw[hz] at hrc;have hx:((w3.setCell (aj w.heap.size 7) (U t.toNat)).setCell (aj w.heap.size 8) (ab cc.toNat)).heap[w.heap.size]?=some (.cells (ev ⟨2,0,0,0,0,0,0,t.toNat,cc.toNat⟩).toArray 56 (0,0)):=G4.out.hx;have he:=G4.out.he;have hb:=G4.out.bl.setCell (p:=⟨w.heap.size+1,0,none⟩) (Nat.le_succ _) (U 0);have ce:=cell_of_row _ _ 0 _ _ _ he;have fe:=ka he 0;have hse:=setRow_self _ _ _ _ _ hx;have HX:=bU hx;have Ea:=fZ (p:=w.heap.size+1) (i:=0) hx (by omega) (U 0);have Ph:=jc (i:=0) he (U 0);have hg:=la (show iL (k::t::cc::z)=some ⟨2,0,0,0,0,0,0,t.toNat,cc.toNat⟩ from by obtain rfl:z=[]:=List.eq_nil_of_length_eq_zero hz;exact Ap HK.out);have HD:=bU (fun tmps=>wO (l:=_) (w0:=w) (by rw[hg.1];exact Ea) (by rw[hg.2];exact Ph) hb tmps);clear hx he hb Ea Ph hg hz hE;go_wp2_with (first|(refine wpList_load_row rfl _ _ rfl w.heap.size rfl 56 (ev ⟨2,0,0,0,0,0,0,t.toNat,cc.toNat⟩).toArray (0,0) _ HX.out underlying56 rfl ko ?_)|(refine wpList_store_row rfl _ _ _ rfl w.heap.size (ev ⟨2,0,0,0,0,0,0,t.toNat,cc.toNat⟩).toArray rfl rfl 56 _ HX.out ko rfl (uD _) ?_))
   refine HD.out _ ?_ ?_ <;> rfl
  .have KA:(K:Int)≠1:=by omega
   have N3:(K:Int)≠2:=by omega
   have e1:((K:Int)==1)=false:=by rw[aA];exact KA
   have e2:((K:Int)==2)=false:=by rw[aA];exact N3
   clear KA N3;go_wp2_with fail;exact fK G2.out (Dp (by rw[HK.out];exact h1) (by rw[HK.out];exact h2)) _ rfl rfl
open Go.RowKit eK
theorem rT(l:List UInt8)(hl:l.length=4)(w:World):
  ak 35 #[.string (bs l)] w fun e w'=>e=ae (U (sg (num l)))/\w=w':=by
 have c:=nF l (by omega);have hb:=lK l;rw[hl] at hb;obtain⟨Z,hZ⟩:∃Z:Int,(num l:Int)=Z:=⟨_,rfl⟩;have z0:0<=Z:=by omega
 have z1:Z<4294967296:=by omega
 have hs:sg (num l)=if 2147483648<=Z then Z-4294967296 else Z:=by unfold sg;rw[←hZ];split <;> split <;> omega
 rw[hs];rw[hZ] at c;clear hZ hb hs;by_cases h:2147483648<=Z
 .rw[if_pos h]
  go_enter func35,ntmps35;go_wp2_with (go_at_call 34;refine(c _).mono ?_;rintro e w' ⟨rfl,rfl⟩)
  go_ret;exact⟨rfl,rfl⟩
 .rw[if_neg h]
  go_enter func35,ntmps35;go_wp2_with (go_at_call 34;refine(c _).mono ?_;rintro e w' ⟨rfl,rfl⟩)
  go_ret;exact⟨rfl,rfl⟩
def oG(l:List UInt8)(w:World)(e:Ending)(w':World):Prop:=e=ae (.tuple #[.agg (ev (cH l)).toArray,U (mA l)])/\Below w.heap.size w w'
theorem oS{a:UInt8}{r:List UInt8}(ha:a.toNat≠2)(h:(a::r).length≠27):iL (a::r)=none:=by
 unfold iL;rw[if_neg,if_neg (fun x=>h x.1)];rintro ⟨_,x⟩;have:a=2:=x;subst this;exact ha rfl
theorem Dt{a:UInt8}{r:List UInt8}(ha:a.toNat≠1)(h:(a::r).length≠3):iL (a::r)=none:=by
 unfold iL;rw[if_neg (fun x=>h x.1),if_neg];rintro ⟨_,x⟩;have:a=1:=x;subst this;exact ha rfl
theorem Ih(l:List UInt8)(h3:l.length≠3)(NY:l.length≠27)(w:World):
  ak 18 #[.string (bs l)] w (oG l w):=by
 have hE:=kb (get_none h3 NY);have hsz:(bs l).size=l.length:=rfl;have e3:((l.length:Int)==3)=false:=by rw[aA];omega
 have WH:((l.length:Int)==27)=false:=by rw[aA];omega
 go_enter func18,ntmps18;go_wp2_with fail;refine bodyPost_ret (v:=.tuple #[.agg (ev (cH l)).toArray,U (mA l)]) (by rw[hE.1,hE.2];simp[results,Tryz.results18,go_sem];rfl) rfl ⟨rfl,(bV _ _).alloc (av _) _⟩
theorem yM(a b c:UInt8)(w:World):
  ak 18 #[.string (bs [a,b,c])] w (oG [a,b,c] w):=by
 have hsz:(bs [a,b,c]).size=3:=rfl;have i0:0<(bs [a,b,c]).size:=by rw[hsz];omega
 have i1:1<(bs [a,b,c]).size:=by rw[hsz];omega
 have i2:2<(bs [a,b,c]).size:=by rw[hsz];omega
 have g0:(bs [a,b,c])[0]'i0=a:=rfl;have g1:(bs [a,b,c])[1]'i1=b:=rfl;have g2:(bs [a,b,c])[2]'i2=c:=rfl;obtain⟨A,hA⟩:=al (a.toNat);have ND:A<256:=by rw[←hA];exact a.toNat_lt
 by_cases h:A=2
 .subst h
  have hE:=la (Ap hA (a:=b) (b:=c));go_enter func18,ntmps18;go_wp2_with fail
  go_region
  go_wp2_with fail;have hwb:wrap64 (b.toNat:Int)=b.toNat:=sF (by have:=b.toNat_lt;omega) (by have:=b.toNat_lt;omega);refine bodyPost_ret (v:=.tuple #[.agg (ev (cH [a,b,c])).toArray,U (mA [a,b,c])]) (by rw[hE.1,hE.2];simp[results,Tryz.results18,go_sem,hwb];rfl) rfl ⟨rfl,((bV w.heap.size w).alloc (av _) _).drew⟩
 .have hE:=kb (oS (a:=a) (r:=[b,c]) (by rw[hA];exact h) (by rw[aC,aC,aC];decide))
  have e2:((A:Int)==2)=false:=by rw[aA];omega
  go_enter func18,ntmps18;go_wp2_with fail;refine bodyPost_ret (v:=.tuple #[.agg (ev (cH [a,b,c])).toArray,U (mA [a,b,c])]) (by rw[hE.1,hE.2];simp[results,Tryz.results18,go_sem];rfl) rfl ⟨rfl,(bV _ _).alloc (av _) _⟩
set_option maxHeartbeats 1000000 in
theorem Du(a b c:UInt8)(r:List UInt8)(hr:r.length=24)(w:World):
  ak 18 #[.string (bs (a::b::c::r))] w (oG (a::b::c::r) w):=by
 have hsz:(bs (a::b::c::r)).size=27:=by rw[jy,aC,aC,aC,hr]
 have x1:(bs (a::b::c::r)).extract 3 11=bs (r.take 8):=by rw[kN];rfl
 have x2:(bs (a::b::c::r)).extract 11 15=bs ((r.drop 8).take 4):=by rw[kN,List.drop_take];rfl
 have x3:(bs (a::b::c::r)).extract 15 19=bs (((r.drop 8).drop 4).take 4):=by rw[kN,List.drop_take,List.drop_drop];rfl
 have x4:(bs (a::b::c::r)).extract 19 27=bs ((((r.drop 8).drop 4).drop 4).take 8):=by rw[kN,List.drop_take,List.drop_drop,List.drop_drop];rfl
 have c1:=fun w=>(nF (r.take 8) (by simp;omega) w).mono (fun e w' h=>(⟨h.1,h.2.symm⟩:_/\w'=w))
 have c2:=fun w=>(rT ((r.drop 8).take 4) (by simp;omega) w).mono (fun e w' h=>(⟨h.1,h.2.symm⟩:_/\w'=w))
 have c3:=fun w=>(rT (((r.drop 8).drop 4).take 4) (by simp;omega) w).mono (fun e w' h=>(⟨h.1,h.2.symm⟩:_/\w'=w))
 have c4:=fun w=>(nF ((((r.drop 8).drop 4).drop 4).take 8) (by simp;omega) w).mono (fun e w' h=>(⟨h.1,h.2.symm⟩:_/\w'=w))
 obtain⟨A,hA⟩:=al (a.toNat);have ND:A<256:=by rw[←hA];exact a.toNat_lt
 have P8:=fun(h:A=1)=>la (Aq (k:=a) (t:=b) (c:=c) (r:=r) (by rw[hA];exact h) hr)
 have QA:=fun(h:A≠1)=>kb (Dt (a:=a) (r:=b::c::r) (by rw[hA];exact h) (by rw[aC,aC,aC,hr];decide))
 generalize bs (r.take 8)=s1 at *;generalize bs ((r.drop 8).take 4)=s2 at *;generalize bs (((r.drop 8).drop 4).take 4)=s3 at *;generalize bs ((((r.drop 8).drop 4).drop 4).take 8)=s4 at *;generalize (num (r.take 8):Int)=n1 at *;generalize sg (num ((r.drop 8).take 4))=n2 at *;generalize sg (num (((r.drop 8).drop 4).take 4))=n3 at *;generalize (num ((((r.drop 8).drop 4).drop 4).take 8):Int)=n4 at *;generalize hs:bs (a::b::c::r)=s at *;have i0:0<s.size:=by rw[hsz];omega
 have i1:1<s.size:=by rw[hsz];omega
 have i2:2<s.size:=by rw[hsz];omega
 have g0:((s[0]'i0).toNat:Int)=(A:Int):=by subst hs;rw[←hA];rfl
 have g1:s[1]'i1=b:=by subst hs;rfl
 have g2:s[2]'i2=c:=by subst hs;rfl
 have U5:=bU P8;have Kq:=bU QA;clear hs hA P8 QA;generalize a::b::c::r=l at *;by_cases h:A=1
 .subst h
  have hE:=U5.out rfl;go_enter func18,ntmps18;go_wp2_with fail
  go_still_tail 19,(by kernel_rfl)
  still_call (c1 _)
  repeat still_step
  still_call (c2 _)
  repeat still_step
  still_call (c3 _)
  repeat still_step
  still_call (c4 _)
  repeat still_step
  refine wpStill_nil ?_
  change wpList _ _ _ _ _ (World.drew _)
  go_wp2_with fail;have hwb:wrap64 (b.toNat:Int)=b.toNat:=sF (by have:=b.toNat_lt;omega) (by have:=b.toNat_lt;omega);refine bodyPost_ret (v:=.tuple #[.agg (ev (cH l)).toArray,U (mA l)]) (by rw[hE.1,hE.2];simp[results,Tryz.results18,go_sem,hwb];rfl) rfl ⟨rfl,((bV w.heap.size w).alloc (av _) _).drew⟩
 .have hE:=Kq.out h
  have e2:((A:Int)==1)=false:=by rw[aA];omega
  go_enter func18,ntmps18;go_wp2_with fail;refine bodyPost_ret (v:=.tuple #[.agg (ev (cH l)).toArray,U (mA l)]) (by rw[hE.1,hE.2];simp[results,Tryz.results18,go_sem];rfl) rfl ⟨rfl,(bV _ _).alloc (av _) _⟩
theorem Ii(l:List UInt8)(w:World):ak 18 #[.string (bs l)] w (oG l w):=by
 by_cases h3:l.length=3
 .match l,h3 with
  | [a,b,c],_=>exact yM a b c w
 .by_cases NY:l.length=27
  .match l,NY with
   | a::b::c::r,h=>exact Du a b c r (by simpa using h) w
  .exact Ih l h3 NY w
end Go.Proofs.YtgblmelijlgimaaGreatDoor
