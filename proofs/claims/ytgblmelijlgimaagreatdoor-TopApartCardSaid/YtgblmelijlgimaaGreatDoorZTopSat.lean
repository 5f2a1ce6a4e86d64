/- Parts of the proof of TopApart. -/
import Derived.Test.YtgblmelijlgimaaGreatDoorZTop0
import Derived.Test.YtgblmelijlgimaaGreatDoorRows
import Derived.WalkSpells
import Derived.WalkLawsBesides
import Derived.Shelf.Bits.Mul64
set_option maxRecDepth 100000
namespace fB
def clip(n:Int):Int:=if n<0 then 0 else if 4611686018427387904<n then 4611686018427387904 else n
theorem zL(n:Int):0<=clip n:=by unfold clip;split <;> (try split) <;> omega
theorem zM(n:Int):clip n<=4611686018427387904:=by unfold clip;split <;> (try split) <;> omega
theorem oy{n:Int}(h0:0<=n)(h1:n<=4611686018427387904):clip n=n:=by unfold clip;rw[if_neg (by omega),if_neg (by omega)]
theorem kH{n:Int}(h:n<=0):clip n=0:=by unfold clip;split <;> (try split) <;> omega
theorem kI{n:Int}(h:4611686018427387904<=n):clip n=4611686018427387904:=by unfold clip;split <;> (try split) <;> omega
end fB
namespace Go.Proofs.YtgblmelijlgimaaGreatDoor
open Go.Proofs.Tryz
open Go.RowKit fB
def Cj(n:Int):Prop:= -9223372036854775808<=n/\n<=9223372036854775807
theorem nU{k:IntKind}{a b:Int}(h:a=b):Ending.returned (.int k a)=ae (.int k b):=by rw[h]
theorem Cj.clip(n:Int):Cj (clip n):=by have:=zL n;have:=zM n;exact⟨by omega,by omega⟩
theorem te(n:Int)(w:World):ak 303 #[U n] w fun e w'=>e=ae (U (clip n))/\w=w':=by
 by_cases h0:n<0
 .rw[kH (by omega)]
  go_enter func303,ntmps303
  go_wp2
  go_ret;exact⟨rfl,rfl⟩
 by_cases h1:4611686018427387904<n
 .rw[kI (by omega)]
  go_enter func303,ntmps303
  go_wp2
  go_ret;exact⟨rfl,rfl⟩
 .rw[oy (by omega) (by omega)]
  go_enter func303,ntmps303
  go_wp2
  go_ret;exact⟨rfl,rfl⟩
theorem oz(a b:Int)(ha:Cj a)(hb:Cj b)(w:World):ak 281 #[U a,U b] w fun e w'=>e=ae (U (clip (a+b)))/\w=w':=by
 obtain⟨a0,a1⟩:=ha;obtain⟨b0,b1⟩:=hb;by_cases ho:9223372036854775807<a+b
 ·
  have hs:wrap64 (a+b)=a+b-18446744073709551616:=by unfold wrap64;omega
  have JZ:wrap64 (a+b)<0:=by omega
  have p1:0<a:=by omega
  have p2:0<b:=by omega
  rw[kI (by omega)];clear hs;generalize hS:wrap64 (a+b)=S at *;go_enter func281,ntmps281;go_wp2_with fail;go_ret;exact⟨rfl,rfl⟩
 by_cases hu:a+b< -9223372036854775808
 .have p1:a<0:=by omega
  have p2:b<0:=by omega
  rw[kH (by omega)];go_enter func281,ntmps281;go_wp2_with fail;go_ret;exact⟨rfl,rfl⟩
 have r0: -9223372036854775808<=a+b:=by omega
 have r1:a+b<=9223372036854775807:=by omega
 by_cases hn:a<0/\b<0
 .obtain⟨p1,p2⟩:=hn
  rw[kH (by omega)];go_enter func281,ntmps281;go_wp2_with fail;go_ret;exact⟨rfl,rfl⟩
 have c:=te (a+b) w;by_cases p1:a<0
 .have p2:0<=b:=by omega
  clear hn;go_enter func281,ntmps281;go_wp2_with (go_at_call 303;refine c.mono ?_;rintro e w' ⟨rfl,rfl⟩)
  go_ret;exact⟨rfl,rfl⟩
 .by_cases p3:0<a/\0<b
  .obtain⟨p3,p4⟩:=p3
   have p5:0<=a+b:=by omega
   go_enter func281,ntmps281;go_wp2_with (go_at_call 303;refine c.mono ?_;rintro e w' ⟨rfl,rfl⟩)
   go_ret;exact⟨rfl,rfl⟩
  .by_cases p4:0<a
   .have p5:b<=0:=by omega
    clear p3 hn;go_enter func281,ntmps281;go_wp2_with (go_at_call 303;refine c.mono ?_;rintro e w' ⟨rfl,rfl⟩)
    go_ret;exact⟨rfl,rfl⟩
   .clear p3 hn
    go_enter func281,ntmps281;go_wp2_with (go_at_call 303;refine c.mono ?_;rintro e w' ⟨rfl,rfl⟩)
    go_ret;exact⟨rfl,rfl⟩
theorem FW(a b:Int)(ha:Cj a)(hb:Cj b)(w:World):ak 283 #[U a,U b] w fun e w'=>e=ae (U (clip (a-b)))/\w=w':=by
 obtain⟨a0,a1⟩:=ha;obtain⟨b0,b1⟩:=hb;by_cases h:a<=b
 .rw[kH (by omega)]
  go_enter func283,ntmps283;go_wp2_with fail;go_ret;exact⟨rfl,rfl⟩
 by_cases ho:9223372036854775807<a-b
 .have JZ:wrap64 (a-b)<0:=by unfold wrap64;omega
  rw[kI (by omega)];generalize hS:wrap64 (a-b)=S at *;go_enter func283,ntmps283;go_wp2_with fail;go_ret;exact⟨rfl,rfl⟩
 .have r0:0<=a-b:=by omega
  have r1:a-b<=9223372036854775807:=by omega
  have c:=te (a-b) w;go_enter func283,ntmps283;go_wp2_with (go_at_call 303;refine c.mono ?_;rintro e w' ⟨rfl,rfl⟩)
  go_ret;exact⟨rfl,rfl⟩
open Go.RowKit fB
set_option maxHeartbeats 1000000 in
theorem tf(x y:Nat)(hx:x<18446744073709551616)(hy:y<18446744073709551616)(w:World):
  ak 150 #[aa x,aa y] w fun e w'=>e=ae (.tuple #[aa ((x*y/18446744073709551616:Nat):Int),aa ((x*y%18446744073709551616:Nat):Int)])/\w=w':=by
 obtain⟨bd,bt,bw,hhi⟩:=Lib.mul64_hi x y hx hy;have ba:=Lib.half_mul_le (a:=x/4294967296) (b:=y/4294967296) (by omega) (by omega);have bb:=Lib.half_mul_le (a:=x/4294967296) (b:=y%4294967296) (by omega) (by omega);have bc:=Lib.half_mul_le (a:=x%4294967296) (b:=y/4294967296) (by omega) (by omega);have TJ:x/4294967296*(y/4294967296)<18446744073709551616:=by omega
 have TK:x/4294967296*(y%4294967296)<18446744073709551616:=by omega
 have TL:x%4294967296*(y/4294967296)<18446744073709551616:=by omega
 have TM:x/4294967296*(y/4294967296)+(x/4294967296*(y%4294967296)+x%4294967296*(y%4294967296)/4294967296)/4294967296<18446744073709551616:=by omega
 have bh:x/4294967296*(y/4294967296)+(x/4294967296*(y%4294967296)+x%4294967296*(y%4294967296)/4294967296)/4294967296+((x/4294967296*(y%4294967296)+x%4294967296*(y%4294967296)/4294967296)%4294967296+x%4294967296*(y/4294967296))/4294967296<18446744073709551616:=by omega
 go_enter func150,ntmps150
 go_wp2
 simp only[Mul64.maskN x hx,Mul64.maskN y hy,Mul64.divN,Mul64.mulN,Mul64.addN,Mul64.wrapN _ bd,Mul64.wrapN _ TK,Mul64.wrapN _ bt,Mul64.maskN _ bt,Mul64.wrapN _ TL,Mul64.wrapN _ bw,Mul64.wrapN _ TJ,Mul64.wrapN _ TM,Mul64.wrapN _ bh,Mul64.wrapM (x*y)];rw[hhi]
 go_ret2
 exact⟨rfl,rfl⟩
theorem Ck(n:Int)(w:World)(h0: -9223372036854775808<=n)(h1:n<0):
  ak 315 #[U n] w fun e w'=>e=ae (.tuple #[aa (-n),.bool true])/\w=w':=by
 have e:IntKind.u64.wrap (-IntKind.u64.wrap n)= -n:=by rw[IntKind.wrap_u64,IntKind.wrap_u64];omega
 go_enter func315,ntmps315
 go_wp2
 go_ret2
 exact⟨rfl,rfl⟩
theorem Cm(n:Int)(w:World)(h0:0<=n)(h1:n<=9223372036854775807):
  ak 315 #[U n] w fun e w'=>e=ae (.tuple #[aa n,.bool false])/\w=w':=by
 go_enter func315,ntmps315
 go_wp2
 go_ret2
 exact⟨rfl,rfl⟩
theorem FX(h l:Int)(w:World)(hh:0<h):ak 305 #[aa h,aa l] w fun e w'=>e=ae (aa 4611686018427387904)/\w=w':=by
 go_enter func305,ntmps305
 go_wp2
 go_ret;exact⟨rfl,rfl⟩
theorem FY(l:Int)(w:World):ak 305 #[aa 0,aa l] w fun e w'=>e=ae (aa l)/\w=w':=by
 go_enter func305,ntmps305
 go_wp2
 go_ret;exact⟨rfl,rfl⟩
def rm(a:Int)(x:Nat)(s:Bool):Prop:=∀w:World,ak 315 #[U a] w fun e w'=>e=ae (.tuple #[aa x,.bool s])/\w=w'
theorem vN(a:Int)(h:Cj a):rm a a.natAbs (decide (a<0)):=by
 intro w;by_cases h0:a<0
 .have:=Ck a w h.1 h0
  rw[show((a.natAbs:Nat):Int)= -a from by omega,aw h0];exact this
 .have:=Cm a w (by omega) h.2
  rw[show((a.natAbs:Nat):Int)=a from by omega,az h0];exact this
theorem sA(a b:Int)(fv:Value)(w:World)(x y:Nat)(s:Bool)(ca:rm a x s)(cb:rm b y (!s)):
  ak 304 #[U a,U b,fv] w fun e w'=>e=ae (U 0)/\w=w':=by
 have CA:=bU ca;have CB:=bU cb;clear ca cb
 cases s;all_goals
  go_enter func304,ntmps304;go_wp2_with fail;refine(CA.out _).mono ?_;rintro e w' ⟨rfl,rfl⟩;go_wp2_with fail;refine(CB.out _).mono ?_;rintro e w' ⟨rfl,rfl⟩;go_wp2_with fail;go_ret;exact⟨rfl,rfl⟩
theorem ug(a b:Int)(fv:Value)(w:World)(x y:Nat)(s:Bool)(ca:rm a x s)(cb:rm b y s)(h0:x=0\/(0<x/\y=0)):
  ak 304 #[U a,U b,fv] w fun e w'=>e=ae (U 0)/\w=w':=by
 have CA:=bU ca;have CB:=bU cb;clear ca cb;rcases h0 with rfl|⟨h0,rfl⟩
 .go_enter func304,ntmps304
  go_wp2_with fail;refine(CA.out _).mono ?_;rintro e w' ⟨rfl,rfl⟩;go_wp2_with fail;refine(CB.out _).mono ?_;rintro e w' ⟨rfl,rfl⟩;go_wp2_with fail;go_ret;exact⟨rfl,rfl⟩
 .have h1:((x:Int)==0)=false:=by rw[aA];omega
  clear h0;go_enter func304,ntmps304;go_wp2_with fail;refine(CA.out _).mono ?_;rintro e w' ⟨rfl,rfl⟩;go_wp2_with fail;refine(CB.out _).mono ?_;rintro e w' ⟨rfl,rfl⟩;go_wp2_with fail;go_ret;exact⟨rfl,rfl⟩
theorem vO(a b:Int)(w:World)(x y P:Nat)(s:Bool)(ca:rm a x s)(cb:rm b y s)(hx:0<x)(hy:0<y)(Ea:x<18446744073709551616)(TN:y<18446744073709551616)(hP:x*y=P):
  ak 304 #[U a,U b,.func (.func 305) #[] #[]] w fun e w'=>e=ae (U (clip P))/\w=w':=by
 have cm:=tf x y Ea TN w;rw[hP] at cm;have CA:=bU ca;have CB:=bU cb;have h1:((x:Int)==0)=false:=by rw[aA];omega
 have h2:((y:Int)==0)=false:=by rw[aA];omega
 clear ca cb hP;by_cases hb:18446744073709551616<=P
 .have hh:(0:Int)<((P/18446744073709551616:Nat):Int):=by omega
  rw[kI (by omega)];have cf:=fun l=>FX ((P/18446744073709551616:Nat):Int) l w hh
  generalize ((P/18446744073709551616:Nat):Int)=H at *;generalize ((P%18446744073709551616:Nat):Int)=L at *;clear hb hx hy;go_enter func304,ntmps304;go_wp2_with fail;refine(CA.out _).mono ?_;rintro e w' ⟨rfl,rfl⟩;go_wp2_with fail;refine(CB.out _).mono ?_;rintro e w' ⟨rfl,rfl⟩;go_wp2_with fail;refine cm.mono ?_;rintro e w' ⟨rfl,rfl⟩;go_wp2_with fail;refine(cf _).mono ?_;rintro e w' ⟨rfl,rfl⟩;go_wp2_with fail;go_ret;exact⟨rfl,rfl⟩
 .rw[show P/18446744073709551616=0 from by omega,show P%18446744073709551616=P from by omega] at cm
  have cf:=FY (P:Int) w;by_cases hm:4611686018427387904<P
  .rw[kI (by omega)]
   clear hx hy;go_enter func304,ntmps304;go_wp2_with fail;refine(CA.out _).mono ?_;rintro e w' ⟨rfl,rfl⟩;go_wp2_with fail;refine(CB.out _).mono ?_;rintro e w' ⟨rfl,rfl⟩;go_wp2_with fail;refine cm.mono ?_;rintro e w' ⟨rfl,rfl⟩;go_wp2_with fail;refine cf.mono ?_;rintro e w' ⟨rfl,rfl⟩;go_wp2_with fail;go_ret;exact⟨rfl,rfl⟩
  .rw[oy (by omega) (by omega)]
   clear hx hy;go_enter func304,ntmps304;go_wp2_with fail;refine(CA.out _).mono ?_;rintro e w' ⟨rfl,rfl⟩;go_wp2_with fail;refine(CB.out _).mono ?_;rintro e w' ⟨rfl,rfl⟩;go_wp2_with fail;refine cm.mono ?_;rintro e w' ⟨rfl,rfl⟩;go_wp2_with fail;refine cf.mono ?_;rintro e w' ⟨rfl,rfl⟩;go_wp2_with fail;go_ret;exact⟨rfl,rfl⟩
theorem pP{a b:Int}(h:decide (a<0)=decide (b<0)):((a.natAbs*b.natAbs:Nat):Int)=a*b:=by
 rw[decide_eq_decide] at h;rw[Int.natCast_mul];by_cases h0:a<0
 .have h1:b<0:=h.1 h0
  rw[show((a.natAbs:Nat):Int)= -a from by omega,show((b.natAbs:Nat):Int)= -b from by omega,Int.neg_mul_neg]
 .have h1:¬b<0:=fun x=>h0 (h.2 x)
  rw[show((a.natAbs:Nat):Int)=a from by omega,show((b.natAbs:Nat):Int)=b from by omega]
theorem mH{a b:Int}(h:decide (a<0)≠decide (b<0)):a*b<=0:=by
 by_cases h0:a<0
 .have h1:0<=b:=by
   rcases Int.lt_or_le b 0 with hb|hb
   .exact absurd (by rw[aw h0,aw hb]) h
   .exact hb
  exact Int.mul_nonpos_of_nonpos_of_nonneg (by omega) h1
 .have h1:b<0:=by
   rcases Int.lt_or_le b 0 with hb|hb
   .exact hb
   .exact absurd (by rw[az h0,az (by omega)]) h
  exact Int.mul_nonpos_of_nonneg_of_nonpos (by omega) (by omega)
theorem FZ(a b:Int)(ha:Cj a)(hb:Cj b)(w:World):ak 282 #[U a,U b] w fun e w'=>e=ae (U (clip (a*b)))/\w=w':=by
 have sa:=vN a ha;have sb:=vN b hb;have c:ak 304 #[U a,U b,.func (.func 305) #[] #[]] w fun e w'=>e=ae (U (clip (a*b)))/\w=w':=by
  by_cases hs:decide (a<0)=decide (b<0)
  .rw[←pP hs]
   rw[←hs] at sb;by_cases h0:a.natAbs=0\/(0<a.natAbs/\b.natAbs=0)
   .rw[kH (by rcases h0 with h|⟨_,h⟩ <;> rw[h] <;> simp)]
    exact ug a b _ w _ _ _ sa sb h0
   .exact vO a b w _ _ _ _ sa sb (by omega) (by omega) (by have:=ha.1;have:=ha.2;omega) (by have:=hb.1;have:=hb.2;omega) rfl
  .rw[kH (mH hs)]
   have e:decide (b<0)= !decide (a<0):=by
    cases h1:decide (a<0) <;> cases h2:decide (b<0) <;> simp_all
   rw[e] at sb;exact sA a b _ w _ _ _ sa sb
 clear sa sb;go_enter func282,ntmps282;go_wp2_with fail;refine c.mono ?_;rintro e w' ⟨rfl,rfl⟩;go_wp2_with fail;go_ret;exact⟨rfl,rfl⟩
end Go.Proofs.YtgblmelijlgimaaGreatDoor
