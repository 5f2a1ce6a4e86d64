/- Parts of the proof of TopApart. -/
import Derived.Test.YtgblmelijlgimaaGreatDoorZTopSat
import Derived.Deep.RegionWith
import Derived.BigQuiet
set_option maxRecDepth 100000
namespace Go.Proofs.YtgblmelijlgimaaGreatDoor
open Go.Proofs.Tryz
open Go.RowKit fB
structure eQ(w w':World)(p:Nat):Prop where
 os:w'.os=w.os
 tape:w'.tape=w.tape
 output:w'.output=w.output
 size:w.heap.size<=w'.heap.size
 block:∀k,k<w.heap.size→k≠p→w'.heap[k]?=w.heap[k]?
theorem eQ.refl(w:World)(p:Nat):eQ w w p:=⟨rfl,rfl,rfl,av _,fun _ _ _=>rfl⟩
theorem eQ.trans{w w1 w2:World}{p:Nat}(h:eQ w w1 p)(h2:eQ w1 w2 p):eQ w w2 p:=
 ⟨h2.os.trans h.os,h2.tape.trans h.tape,h2.output.trans h.output,aE h.size h2.size,fun k hk h1=>(h2.block k (aB hk h.size) h1).trans (h.block k hk h1)⟩
theorem eQ.stored{w w':World}{p:Nat}(h:eQ w w' p)(i:Nat)(u:Value):eQ w (w'.setCell (aj p i) u) p:=
 h.trans ⟨rfl,rfl,rfl,by simp[World.setCell],fun k _ h1=>Below.heap_setCell _ _ _ _ (by intro e;exact h1 (e.symm▸rfl))⟩
theorem eQ.drew{w w':World}{p:Nat}(h:eQ w w' p):eQ w w'.drew p:=⟨h.os,h.tape,h.output,h.size,h.block⟩
theorem eQ.cD{w w':World}{p:Nat}(h:Below w.heap.size w w'):eQ w w' p:=⟨h.os,h.tape,h.output,h.size,fun k hk _=>h.block k hk⟩
theorem eQ.alloc{w w':World}{p:Nat}(h:eQ w w' p)(o:Obj):eQ w (w'.alloc o) p:=h.trans (eQ.cD ((bV _ _).alloc (av _) _))
theorem cellOf{w:World}{b:Nat}{cs:Array Value}{t:TypeId}(h:w.heap[b]?=some (.cells cs t (0,0)))(i:Nat):w.cell? (aj b i)=cs[i]?:=cell_of_row w b i cs t (0,0) h
theorem l7{w:World}{b:Nat}{cs:Array Value}{t:TypeId}(h:w.heap[b]?=some (.cells cs t (0,0)))(i:Nat):w.frozen? (aj b i)=false:=by
 simp[World.frozen?,h]
theorem B8{w:World}{b:Nat}{o:Obj}(h:w.heap[b]?=some o):b<w.heap.size:=by
 rcases Nat.lt_or_ge b w.heap.size with hlt|hge
 .exact hlt
 .rw[Array.getElem?_eq_none hge] at h;cases h
theorem setOf{w:World}{b:Nat}{cs:Array Value}{t:TypeId}(h:w.heap[b]?=some (.cells cs t (0,0)))(i:Nat)(u:Value):
  (w.setCell (aj b i) u).heap[b]?=some (.cells (cs.setIfInBounds i u) t (0,0)):=by
 simp[World.setCell,Array.getElem?_modify,h]
structure PP where
 tr:Int
 Kj:Int
 si:Int
 CU:Int
 de:Int
 cy:Int
 ac:Bool
def Pc(w:World)(p:Nat)(c:PP):Prop:=
 w.heap[p]?=some (.cells #[U c.tr,U c.Kj,U c.si,U c.CU,U c.de,U c.cy,.bool c.ac] 158 (0,0))
def yi(n:Int):Prop:=0<=n/\n<=4611686018427387904
theorem yi.i64{n:Int}(h:yi n):Cj n:=⟨by have:=h.1;omega,by have:=h.2;omega⟩
theorem yi.clip(n:Int):yi (clip n):=⟨zL n,zM n⟩
structure PP.Good(c:PP):Prop where
 GD:1<=c.tr
 Ui:c.tr<=1048576
 Uj:0<=c.Kj
 Uk:c.Kj<=1024
 P3:0<=c.si
 P4:c.si<c.tr
 CU:yi c.CU
 de:yi c.de
 cy:yi c.cy
theorem Pc.bY{w w':World}{p:Nat}{c:PP}(h:Pc w p c)(e:w'.heap[p]?=w.heap[p]?):Pc w' p c:=e.trans h
theorem Pc.only{w w':World}{p q:Nat}{c:PP}(h:Pc w p c)(ho:eQ w w' q)(hp:p≠q):Pc w' p c:=h.bY (ho.block p (B8 h) hp)
structure Ul(w:World)(p:Nat)(c:PP):Prop where
 c0:w.cell? (aj p)=some (U c.tr)
 c1:w.cell? (aj p 1)=some (U c.Kj)
 c2:w.cell? (aj p 2)=some (U c.si)
 c3:w.cell? (aj p 3)=some (U c.CU)
 c4:w.cell? (aj p 4)=some (U c.de)
 c5:w.cell? (aj p 5)=some (U c.cy)
 c6:w.cell? (aj p 6)=some (.bool c.ac)
theorem Pc.cells{w:World}{p:Nat}{c:PP}(h:Pc w p c):Ul w p c:=by
 constructor <;> (rw[cellOf h];rfl)
theorem cC(w:World)(p:Nat)(c:PP)(h:Pc w p c)(hz:1<=c.tr):ak 113 #[af (aj p)] w fun e w'=>e=ae (.bool false)/\w=w':=by
 have h0:=h.cells.c0;have hz:(c.tr==0)=false:=by rw[aA];omega
 clear h;go_enter func113,ntmps113
 go_wp2
 go_ret;exact⟨rfl,rfl⟩
theorem CV(w:World)(p:Nat)(c:PP)(h:Pc w p c)(hz:1<=c.tr):ak 239 #[af (aj p)] w fun e w'=>e=ae (U c.de)/\w=w':=by
 have d:=cC w p c h hz;have h0:=h.cells.c4;clear h;go_enter func239,ntmps239;go_wp2_with (go_at_call 113;refine d.mono ?_;rintro e w' ⟨rfl,rfl⟩)
 go_ret;exact⟨rfl,rfl⟩
theorem yj(w:World)(p:Nat)(c:PP)(h:Pc w p c)(hz:1<=c.tr):ak 79 #[af (aj p)] w fun e w'=>e=ae (U c.si)/\w=w':=by
 have d:=cC w p c h hz;have h0:=h.cells.c2;clear h;go_enter func79,ntmps79;go_wp2_with (go_at_call 113;refine d.mono ?_;rintro e w' ⟨rfl,rfl⟩)
 go_ret;exact⟨rfl,rfl⟩
theorem v8(w:World)(p:Nat)(c:PP)(h:Pc w p c)(hz:1<=c.tr):ak 80 #[af (aj p)] w fun e w'=>e=ae (U c.cy)/\w=w':=by
 have d:=cC w p c h hz;have h0:=h.cells.c5;clear h;go_enter func80,ntmps80;go_wp2_with (go_at_call 113;refine d.mono ?_;rintro e w' ⟨rfl,rfl⟩)
 go_ret;exact⟨rfl,rfl⟩
theorem wb(w:World)(p:Nat)(c:PP)(h:Pc w p c)(hz:1<=c.tr):ak 81 #[af (aj p)] w fun e w'=>e=ae (.bool c.ac)/\w=w':=by
 have d:=cC w p c h hz;have h0:=h.cells.c6;clear h;go_enter func81,ntmps81;go_wp2_with (go_at_call 113;refine d.mono ?_;rintro e w' ⟨rfl,rfl⟩)
 go_ret;exact⟨rfl,rfl⟩
open Go.RowKit fB
def GF(c:PP)(a:Bool):Int:=if c.ac=a then 9 else 0
def Ac(c:PP)(a:Bool):PP:=if c.ac=a then c else {c with ac:=a,si:=0,de:=0,cy:=if a then c.cy else clip (c.cy+1)}
theorem fz{w:World}{p:Nat}{c:PP}(h:Pc w p c)(i:Nat):w.frozen? (aj p i)=false:=l7 h i
theorem MY(w:World):ak 298 #[] w fun e w'=>e=ae (.tuple #[])/\w=w':=by
 go_enter func298,ntmps298
 go_wp2
 go_end0
 exact⟨rfl,rfl⟩
theorem ym(w:World)(p:Nat)(c:PP)(h:Pc w p c)(g:c.Good):ak 270 #[af (aj p)] w fun e w'=>e=ae (U (GF c true))/\Pc w' p (Ac c true)/\eQ w w' p:=by
 have d:=cC w p c h g.GD;have h6:=h.cells.c6;have f6:=fz h 6;have f2:=fz h 2;have f4:=fz h 4;have e2:w.cell? (aj p 2)=some (U c.si):=h.cells.c2;have e4:w.cell? (aj p 4)=some (U c.de):=h.cells.c4;have b:=fun w=>MY w
 have HP:=bU h;clear h g;by_cases ha:c.ac=true
 .have e1:GF c true=9:=by unfold GF;rw[if_pos ha]
  have e2:Ac c true=c:=by unfold Ac;rw[if_pos ha]
  rw[e1,e2];rw[ha] at h6;have jP:ak 295 #[af (aj p),.bool true,.func (.func 298) #[] #[]] w fun e w'=>e=ae (U 9)/\w=w':=by
   go_enter func295,ntmps295;go_wp2_with (go_at_call 113;refine d.mono ?_;rintro e w' ⟨rfl,rfl⟩)
   go_ret;exact⟨rfl,rfl⟩
  go_enter func270,ntmps270;go_wp2_with (go_at_call 295;refine jP.mono ?_;rintro e w' ⟨rfl,rfl⟩)
  go_ret;exact⟨rfl,HP.out,eQ.refl _ _⟩
 .have Q3:c.ac=false:=by simpa using ha
  have e1:GF c true=0:=by unfold GF;rw[if_neg ha]
  rw[e1];rw[Q3] at h6;have jP:ak 295 #[af (aj p),.bool true,.func (.func 298) #[] #[]] w fun e w'=>e=ae (U 0)/\Pc w' p (Ac c true)/\eQ w w' p:=by
   go_enter func295,ntmps295;go_wp2_with (go_at_call 113;refine d.mono ?_;rintro e w' ⟨rfl,rfl⟩)
   refine(b _).mono ?_;rintro e w' ⟨rfl,rfl⟩;go_wp2_with fail;go_ret;refine⟨rfl,?_,(((eQ.refl _ _).stored _ _).stored _ _).stored _ _⟩;have hh:=setOf (setOf (setOf HP.out 6 (.bool true)) 2 (U 0)) 4 (U 0);unfold Ac;rw[if_neg ha];exact hh
  go_enter func270,ntmps270;go_wp2_with (go_at_call 295;refine jP.mono ?_;rintro e w' ⟨rfl,hh,ho⟩)
  go_ret;exact⟨rfl,hh,ho⟩
open Go.RowKit fB
theorem Rb(w:World)(p q:Nat)(c:PP)(h:Pc w p c)(hq:w.heap[q]?=some (.cells #[af (aj p)] 117 (0,0)))(hc:yi c.cy):
  ak 296 #[af (aj q)] w fun e w'=>e=ae (.tuple #[])/\Pc w' p {c with cy:=clip (c.cy+1)}/\eQ w w' p:=by
 have q0:w.cell? (aj q)=some (af (aj p)):=by rw[cellOf hq];rfl
 have h5:=h.cells.c5;have f5:=fz h 5;have a:=fun w=>oz c.cy 1 hc.i64 ⟨by decide,by decide⟩ w
 have HP:=bU h;clear h hq;go_enter func296,ntmps296;go_wp2_with fail
 go_region_with (go_at_call 281;refine(a _).mono ?_;rintro e w' ⟨rfl,rfl⟩)
 all_goals (go_wp2_with fail;go_end0;exact⟨rfl,setOf HP.out 5 _,((eQ.refl _ _).stored _ _).drew⟩)
theorem GK(w:World)(p:Nat)(c:PP)(h:Pc w p c)(g:c.Good):ak 268 #[af (aj p)] w fun e w'=>e=ae (U (GF c false))/\Pc w' p (Ac c false)/\eQ w w' p:=by
 have hlt:=B8 h;have key:∀w1 q,Pc w1 p c→w1.heap[q]?=some (.cells #[af (aj p)] 117 (0,0))→p≠q→
   ak 295 #[af (aj p),.bool false,.func (.func 296) #[] #[af (aj q)]] w1 fun e w'=>e=ae (U (GF c false))/\Pc w' p (Ac c false)/\eQ w1 w' p:=by
  intro w1 q h1 hq hpq;have d:=cC w1 p c h1 g.GD;have h6:=h1.cells.c6;have f6:=fz h1 6;have f2:=fz h1 2;have f4:=fz h1 4;have e2:w1.cell? (aj p 2)=some (U c.si):=h1.cells.c2;have e4:w1.cell? (aj p 4)=some (U c.de):=h1.cells.c4;have HP:=bU h1;have HQ:=bU hq;have HG:=bU g;have HN:=bU hpq;clear h g h1 hq hlt hpq;by_cases ha:c.ac=false
  .have e1:GF c false=9:=by unfold GF;rw[if_pos ha]
   have e3:Ac c false=c:=by unfold Ac;rw[if_pos ha]
   rw[e1,e3];rw[ha] at h6;go_enter func295,ntmps295;go_wp2_with (go_at_call 113;refine d.mono ?_;rintro e w' ⟨rfl,rfl⟩)
   go_ret;exact⟨rfl,HP.out,eQ.refl _ _⟩
  .have Q3:c.ac=true:=by simpa using ha
   have e1:GF c false=0:=by unfold GF;rw[if_neg ha]
   rw[e1];rw[Q3] at h6;go_enter func295,ntmps295;go_wp2_with (go_at_call 113;refine d.mono ?_;rintro e w' ⟨rfl,rfl⟩)
   have hh:=setOf (setOf (setOf HP.out 6 (.bool false)) 2 (U 0)) 4 (U 0);have ho:eQ w1 (((w1.setCell (aj p 6) (.bool false)).setCell (aj p 2) (U 0)).setCell (aj p 4) (U 0)) p:=(((eQ.refl _ _).stored _ _).stored _ _).stored _ _;refine(Rb _ p q {c with ac:=false,si:=0,de:=0} hh ((ho.block q (B8 HQ.out) (fun x=>HN.out x.symm)).trans HQ.out) HG.out.cy).mono ?_;rintro e w' ⟨rfl,h3,o3⟩;go_wp2_with fail;go_ret;refine⟨rfl,?_,ho.trans o3⟩;unfold Ac;rw[if_neg ha];exact h3
 have h1:Pc (w.alloc (.cells #[af (aj p)] 117)) p c:=h.only ((eQ.refl _ w.heap.size).alloc _) (by omega);have hq:(w.alloc (.cells #[af (aj p)] 117)).heap[w.heap.size]?=some (.cells #[af (aj p)] 117 (0,0)):=heap_alloc_new _ _;have q0:(w.alloc (.cells #[af (aj p)] 117)).cell? (aj w.heap.size)=some (af (aj p)):=by rw[cellOf hq];rfl
 have t:=key _ _ h1 hq (by omega);have ho:eQ w (w.alloc (.cells #[af (aj p)] 117)) p:=(eQ.refl _ _).alloc _;have HO:=bU ho;clear key h h1 hq ho g hlt;go_enter func268,ntmps268;go_wp2_with (go_at_call 295;refine t.mono ?_;rintro e w' ⟨rfl,h3,o3⟩)
 go_ret;exact⟨rfl,h3,HO.out.trans o3⟩
open Go.RowKit fB
def yv(c:PP)(n:Int):PP:={c with de:=clip (c.de-(if n<0 then 0 else n))}
def O4(c:PP)(n:Int):Int:=if(yv c n).de<2147483647 then(yv c n).de else 2147483647
theorem Od(w:World)(v:Value)(n:Int)(d:ak 113 #[v] w fun e w'=>e=ae (.bool true)/\w=w'):
  ak 241 #[v,U n] w fun e w'=>e=ae (U 0)/\w=w':=by
 go_enter func241,ntmps241;go_wp2_with (go_at_call 113;refine d.mono ?_;rintro e w' ⟨rfl,rfl⟩)
 go_ret;exact⟨rfl,rfl⟩
theorem GM(w:World)(p:Nat)(c:PP)(n:Int)(h:Pc w p c)(g:c.Good)(hn:Cj n):
  ak 241 #[af (aj p),U n] w fun e w'=>e=ae (U (O4 c n))/\Pc w' p (yv c n)/\eQ w w' p:=by
 have d:=cC w p c h g.GD;have e4:w.cell? (aj p 4)=some (U c.de):=h.cells.c4;have f4:=fz h 4;have a:=fun w=>FW c.de (if n<0 then 0 else n) g.de.i64 (by split;exact⟨by decide,by decide⟩;exact hn) w
 have hp:(yv c n).de=clip (c.de-(if n<0 then 0 else n)):=rfl;have hM:=yi.clip (c.de-(if n<0 then 0 else n));have HP:=bU h;clear h g;unfold O4;rw[hp];obtain⟨m0,m1⟩:=hM;obtain⟨n0,n1⟩:=hn;have HR:Hid (∀w1:World,w1=w.setCell (aj p 4) (U (clip (c.de-(if n<0 then 0 else n))))→Pc w1 p (yv c n)):=by rintro _ rfl;exact setOf HP.out 4 _
 clear hp;generalize hS:clip (c.de-(if n<0 then 0 else n))=S at *;have HS:=bU hS;clear hS;by_cases h0:n<0
 .simp only[if_pos h0] at a
  by_cases hs:S<2147483647
  .rw[if_pos hs]
   go_enter func241,ntmps241;go_wp2_with (first|(go_at_call 113;refine d.mono ?_;rintro e w' ⟨rfl,rfl⟩)|(go_at_call 283;refine(a _).mono ?_;rintro e w' ⟨rfl,rfl⟩))
   go_ret;exact⟨rfl,HR.out _ rfl,(eQ.refl _ _).stored _ _⟩
  .rw[if_neg hs]
   go_enter func241,ntmps241;go_wp2_with (first|(go_at_call 113;refine d.mono ?_;rintro e w' ⟨rfl,rfl⟩)|(go_at_call 283;refine(a _).mono ?_;rintro e w' ⟨rfl,rfl⟩))
   all_goals (go_ret;exact⟨nU (by omega),HR.out _ rfl,(eQ.refl _ _).stored _ _⟩)
 .simp only[if_neg h0] at a
  by_cases hs:S<2147483647
  .rw[if_pos hs]
   go_enter func241,ntmps241;go_wp2_with (first|(go_at_call 113;refine d.mono ?_;rintro e w' ⟨rfl,rfl⟩)|(go_at_call 283;refine(a _).mono ?_;rintro e w' ⟨rfl,rfl⟩))
   go_ret;exact⟨rfl,HR.out _ rfl,(eQ.refl _ _).stored _ _⟩
  .rw[if_neg hs]
   go_enter func241,ntmps241;go_wp2_with (first|(go_at_call 113;refine d.mono ?_;rintro e w' ⟨rfl,rfl⟩)|(go_at_call 283;refine(a _).mono ?_;rintro e w' ⟨rfl,rfl⟩))
   all_goals (go_ret;exact⟨nU (by omega),HR.out _ rfl,(eQ.refl _ _).stored _ _⟩)
def Fit(t a:Int):Prop:=1<=t/\t<=1048576/\0<=a/\a<=1024
def gR(t a:Int):PP:=⟨t,a,0,0,0,0,false⟩
theorem CX{t a:Int}(h:Fit t a):(gR t a).Good:=by
 obtain⟨h0,h1,h2,h3⟩:=h;exact⟨h0,h1,h2,h3,Int.le_refl _,by simp only[gR];omega,⟨by simp[gR],by simp[gR]⟩,⟨by simp[gR],by simp[gR]⟩,⟨by simp[gR],by simp[gR]⟩⟩
def TV(q t c a:Int):Value:=.agg #[U q,U t,U c,U a]
theorem Kr(w:World)(q t c a:Int)(h:Fit t a):
  ak 47 #[TV q t c a] w fun e w'=>∃p,e=ae (.tuple #[af (aj p),U 0])/\Pc w' p (gR t a)/\Below w.heap.size w w'/\w.heap.size<=p:=by
 obtain⟨h0,h1,h2,h3⟩:=h;unfold TV;have e1:(w.alloc (.cells #[U q,U t,U c,U a] 50)).heap.size=w.heap.size+1:=by simp
 go_enter func47,ntmps47
 go_wp2
 go_ret2
 refine⟨_,rfl,?_,((bV _ _).alloc (av _) _).alloc (by simp) _,by omega⟩;have:=heap_alloc_new (w.alloc (.cells #[U q,U t,U c,U a] 50)) (.cells #[U t,U a,U 0,U 0,U 0,U 0,.bool false] 158);rw[e1] at this;exact this
end Go.Proofs.YtgblmelijlgimaaGreatDoor
