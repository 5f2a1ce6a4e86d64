/- Parts of the proof of TopApart. -/
import Derived.Test.YtgblmelijlgimaaGreatDoorZTopBH
set_option maxRecDepth 100000
namespace gK
open Ieee
def O9:Nat:=9221120237041090560
def canon(w:Nat):Nat:=if inf<cW w then O9 else w
theorem He:inf<cW O9:=by decide
theorem tE{w:Nat}:canon w=O9↔inf<cW w:=by
 unfold canon;constructor
 .intro h
  by_cases hn:inf<cW w
  .exact hn
  .rw[if_neg hn] at h;rw[h];exact He
 .intro h;rw[if_pos h]
theorem wH{w:Nat}(h:cW w<=inf):canon w=w:=by unfold canon;rw[if_neg (by omega)]
def wI(s:Option Nat)(x:Nat):Option Nat:=match s with|none=>none|some s=>double.add s x
def start(x:Nat):Option Nat:=if inf<cW x then none else some x
theorem Dd{x:Nat}(h:inf<cW x):start x=none:=if_pos h
theorem De{x:Nat}(h:cW x<=inf):start x=some x:=if_neg (by omega)
def acc(l:List Nat):Option Nat:=match l with|[]=>some 0|x::r=>r.foldl wI (start x)
def yE(l:List Nat):Nat:=match acc l with|none=>O9|some r=>r
def iS(b:Nat)(s:Option Nat):Prop:=b<2^64/\match s with|none=>inf<cW b|some r=>b=r/\cW b<=inf
theorem iS.canon{b:Nat}{s:Option Nat}(h:iS b s):canon b=(match s with|none=>O9|some r=>r):=by
 obtain⟨_,h⟩:=h
 cases s with
 | none=>exact tE.2 h
 | some r=>rw[wH h.2];exact h.1
theorem uy{x:Nat}(h:x<2^64):iS x (start x):=by
 by_cases hn:inf<cW x
 .rw[Dd hn];exact⟨h,hn⟩
 .rw[De (by omega)];exact⟨h,rfl,by omega⟩
theorem Nl{x y r:Nat}(h:double.add x y=some r):r<2^64/\cW r<=inf:=by
 have hi:inf<2^63:=by decide
 have key:∀(neg:Bool) (k:Nat),k<=inf→word neg k<2^64/\cW (word neg k)<=inf:=fun neg k hk=>
  ⟨word_lt _ (by omega),by rw[Db _ (by omega)];exact hk⟩
 rcases kZ x with hx|hx|hx
 .rcases kZ y with hy|hy|hy
  .rw[KH hx hy] at h
   cases h;exact key _ _ (Nat.min_le_right _ _)
  .rw[wG hx hy] at h;cases h;exact key _ _ (Nat.le_refl _)
  .rw[tC _ hy] at h;cases h
 .rcases kZ y with hy|hy|hy
  .rw[wE hx hy] at h;cases h;exact key _ _ (Nat.le_refl _)
  .rw[wD hx hy] at h
   split at h
   .cases h;exact key _ _ (Nat.le_refl _)
   .cases h
  .rw[tC _ hy] at h;cases h
 .rw[tB _ hx] at h;cases h
theorem yF{b:Nat}{s:Option Nat}{x r:Nat}(h:iS b s)(hr:double.add b x=some r):iS r (wI s x):=by
 cases s with
 | none=>rw[tB _ h.2] at hr;cases hr
 | some v=>
  obtain⟨hb,e,_⟩:=h;subst e;have:=Nl hr;simp[iS,wI,hr,this]
theorem yG{b:Nat}{s:Option Nat}{x r:Nat}(h:iS b s)(hn:double.add b x=none)(hr:r<2^64)(SI:inf<cW r):iS r (wI s x):=by
 cases s with
 | none=>exact⟨hr,SI⟩
 | some v=>
  obtain⟨hb,e,_⟩:=h;subst e;simp[iS,wI,hn,hr,SI]
theorem Hf(x:Nat)(r:List Nat)(y:Nat):acc (x::r++[y])=wI (acc (x::r)) y:=by
 simp[acc,List.foldl_append]
end gK
namespace Go.Proofs.YtgblmelijlgimaaGreatDoor
open Go.Proofs.Tryz
namespace Rl
open Go.RowKit gK Ieee
theorem nU{k:IntKind}{a b:Int}(h:a=b):Ending.returned (.int k a)=ae (.int k b):=by rw[h]
def nb(w:World)(x y:Nat):Nat:=(Question.nanBits .f64 x y).cut (w.tape w.drawn (.nanBits .f64 x y))
theorem KJ(s r:Nat)(hs:s<2)(hr:r<4503599627370495):
  inf<cW (s*2^63+0x7ff0000000000000+1+r)/\s*2^63+0x7ff0000000000000+1+r<2^64:=by
 unfold cW inf;rcases (show s=0\/s=1 by omega) with rfl|rfl <;> omega
theorem Hg(w:World)(x y:Nat):inf<cW (nb w x y)/\nb w x y<2^64:=by
 unfold nb Question.cut;exact KJ _ _ (Nat.mod_lt _ (by decide)) (Nat.mod_lt _ (by decide))
theorem sD{P:Program}(w:World)(op:BinOp)(t:TypeId)(x y:Nat)(hop:op=.add\/op=.sub)(h:floatBits op .f64 x y=none):
  (binOp op t (.float .f64 x) (.float .f64 y)).run P w=.ok (.float .f64 (nb w x y)) w.drew:=by
 unfold floatBits at h;rcases hop with rfl|rfl;all_goals
  simp only at h;simp[binOp,Op.floatArith,h,Question.forced]
  rfl
theorem Hh{a:Nat}(h:cW a<=inf):(double.order a a != some .eq)=false:=by
 have:=KI a;unfold isNaN at this;unfold bne;rw[this];simp;exact h
theorem uz(n:Int)(w:World):(callFunc 287 #[aa n]).run prog w=.ok (.value (.float .f64 n.toNat)) w:=by
 rw[run_callFunc_extern (fn:=Tryz.f287) (e:=Extern.MathFloatBits.float64frombits) func287 (by kernel_rfl) (by kernel_rfl) (by kernel_rfl) (by kernel_rfl)];rfl
theorem wJ(n:Nat)(w:World):(callFunc 253 #[.float .f64 n]).run prog w=.ok (.value (aa n)) w:=by
 rw[run_callFunc_extern (fn:=Tryz.f253) (e:=Extern.MathFloatBits.float64bits) func253 (by kernel_rfl) (by kernel_rfl) (by kernel_rfl) (by kernel_rfl)];rfl
theorem tQ(a:Nat)(w:World):ak 251 #[aa a] w fun e w'=>e=ae (.float .f64 a)/\w=w':=by
 have f:=fun w=>uz a w
 go_enter func251,ntmps251
 go_wp2
 go_ret;exact⟨rfl,rfl⟩
theorem tF(a:Nat)(w:World):ak 252 #[aa a] w fun e w'=>e=ae (aa (canon a:Nat))/\w=w':=by
 have o:=fun w=>tQ a w
 by_cases h:inf<cW a
 .have h1:(FloatKind.f64.format.order a a != some .eq)=true:=Nk _ h
  have e:canon a=9221120237041090560:=tE.2 h;rw[e];go_enter func252,ntmps252;go_wp2_with (go_at_call 251;refine(o _).mono ?_;rintro e w' ⟨rfl,rfl⟩)
  go_ret;exact⟨rfl,rfl⟩
 .have h1:(FloatKind.f64.format.order a a != some .eq)=false:=Hh (by omega)
  rw[wH (by omega)];go_enter func252,ntmps252;go_wp2_with (go_at_call 251;refine(o _).mono ?_;rintro e w' ⟨rfl,rfl⟩)
  go_ret;exact⟨rfl,rfl⟩
def UI(w:World)(A:Option Addr)(len:Nat)(f:Nat→Nat):Prop:=
 (∀i,f i<2^64)/\len<=9223372036854775807/\
 (0<len→∃b off,A=some ⟨b,off,none⟩/\b<w.heap.size/\∀i,i<len→w.cell? (aj b (off+i))=some (aa (f i:Nat)))
def Lf(f:Nat→Nat)(n:Nat):List Nat:=(List.range n).map f
theorem Nn(f:Nat→Nat)(k:Nat)(h:1<=k):acc (Lf f (k+1))=wI (acc (Lf f k)) (f k):=by
 obtain⟨m,rfl⟩:∃m,k=m+1:=⟨k-1,by omega⟩;unfold Lf;rw[List.range_succ,List.map_append,List.range_succ_eq_map];exact Hf _ _ _
theorem Hi{b x:Nat}{s:Option Nat}(h:iS b s)(w:World)(n:Nat):∃r n':Nat,(∀P:Program,(binOp .add 316 (.float .f64 b) (.float .f64 x)).run P (w.drewN n)=.ok (.float .f64 r) (w.drewN n'))/\iS r (wI s x):=by
 cases ha:double.add b x with
 | none=>exact⟨nb (w.drewN n) b x,n+1,fun P=>sD (w.drewN n) .add 316 b x (.inl rfl) ha,yG h ha (Hg _ b x).2 (Hg _ b x).1⟩
 | some r=>exact⟨r,n,fun P=>run_float_arith (w.drewN n) .add 316 .f64 b x r ha,yF h ha⟩
theorem wK{b:Nat}{l:List Nat}(h:iS b (acc l)):canon b=yE l:=by
 unfold yE;generalize acc l=o at h ⊢
 cases o with
 | none=>exact h.canon
 | some r=>exact h.canon
set_option maxHeartbeats 1000000 in
theorem wL(w:World)(A:Option Addr)(len cap:Nat)(f:Nat→Nat)(h:UI w A len f)(hcap:len<=cap):
  ak 197 #[.slice A len cap] w fun e w'=>e=ae (aa (yE (Lf f len):Nat))/\∃n,w'=w.drewN n:=by
 obtain⟨hf,hl,hc⟩:=h;by_cases h0:len=0
 .subst h0
  have e:yE (Lf f 0)=0:=rfl;rw[e];clear hf hl hc e;go_enter func197,ntmps197;go_wp2_with fail;go_ret;exact⟨rfl,0,rfl⟩
 obtain⟨b,off,rfl,hb,fu⟩:=hc (by omega);have c0:=fu 0 (by omega);rw[bN] at c0;have o:=fun a w=>tQ a w
 have E:Hid (∀s,iS s (acc (Lf f len))→canon s=yE (Lf f len)):=bU fun s hs=>wK hs
 generalize yE (Lf f len)=R at *;have S0:iS (f 0) (acc (Lf f 1)):=uy (hf 0);have l0:0<len:=by omega
 have hn:(len:Int)≠0:=by omega
 clear hc h0;go_enter func197,ntmps197
 go_upto_region 4 with(go_at_call 251;refine(o _ _).mono ?_;rintro e w' ⟨rfl,rfl⟩)
 by_cases mX:cap=1
 .have h1:len=1:=by omega
  subst h1 mX;have ec:canon (f 0)=R:=E.out _ S0;have ca:=fun w=>tF (f 0) w
  rw[ec] at ca;have fb:=fun w=>wJ (f 0) w
  clear ec S0;go_wp2_with fail
  go_loop [3,16] (fun s i=>s=.float .f64 (f 0)/\i=U 0) (fun _ i=>1)
  case atStart=>exact⟨rfl,rfl⟩
  case round=>
   obtain⟨rfl,rfl⟩:=hrel;go_wp2_with fail;refine(ca _).mono ?_;rintro e w' ⟨rfl,rfl⟩;go_wp2_with fail;go_ret;exact⟨rfl,0,rfl⟩
 .have jT:2<=cap:=by omega
  go_wp2_with fail
  go_loopw [3,16] (fun s i wr=>∃(k n b':Nat),k+1<=len/\i=U k/\s=.float .f64 b'/\wr=w.drewN n/\iS b' (acc (Lf f (k+1)))) (fun _ i _=>len-(intOf i).toNat)
  case atStart=>exact⟨0,0,_,by omega,rfl,rfl,rfl,S0⟩
  case round=>
   obtain⟨k,n,b',hk,rfl,rfl,rfl,S⟩:=hrel;by_cases hlt:k<len-1
   .obtain⟨r,n',hr,Sr⟩:=Hi (x:=f (k+1)) S w n
    have ck:=fu (k+1) (by omega);rw[show off+(k+1)=off+1+k by omega] at ck;have hr:=hr prog;rw[←Nn f (k+1) (by omega)] at Sr;generalize f (k+1)=x at *;have SR:=bU Sr;clear Sr S;go_wp2_with (go_at_call 251;refine(o _ _).mono ?_;rintro e w' ⟨rfl,rfl⟩)
    go_roundw
    case rel=>exact⟨k+1,n',r,by omega,by go_num,rfl,rfl,SR.out⟩
    case measure=>simp[intOf];omega
   .have ec:canon b'=R:=E.out _ (by rw[show len=k+1 by omega];exact S)
    have ca:=fun w=>tF b' w
    rw[ec] at ca;have fb:=fun w=>wJ b' w
    clear ec S;go_wp2_with fail;refine(ca _).mono ?_;rintro e w' ⟨rfl,rfl⟩;go_wp2_with fail;go_ret;exact⟨rfl,n,rfl⟩
end Rl
namespace Hp
open Go.RowKit Go.bZ Go.Gc Go.Cf Cn Go.Proofs.YtgblmelijlgimaaGreatDoor.Fd Sl Bd Ca Hd Tb Mm Mk Sw Cy
def sE(l:List Int):Int:=(gK.yE (l.map Int.toNat):Nat)
theorem No{w:World}{B:Nat}{val:Value}{l:List Int}(ho:w.ownsRow B 36 1 val l.length (l.map (Value.int .u64)))(hr:∀z∈l,0<=z/\z<18446744073709551616)(hn:l.length<=1000):ak 197 #[val] w fun e w'=>e=ae (aa (sE l))/\Below w.heap.size w w':=by
 have hf:∀i,(l.getD i 0).toNat<2^64:=fun i=>by
  rcases Nat.lt_or_ge i l.length with hi|hi
  .have:=hr (l.getD i 0) (by rw[ao,aq hi];exact aF hi)
   omega
  .rw[ao,List.getElem?_eq_none hi];decide
 have eL:Rl.Lf (fun i=>(l.getD i 0).toNat) l.length=l.map Int.toNat:=by
  unfold Rl.Lf;refine List.ext_getElem (by simp) (fun i h1 h2=>?_);simp at h1;simp[List.getD_eq_getElem?_getD,List.getElem?_eq_getElem h1]
 obtain⟨-,⟨rfl,h0⟩|⟨g,cap,cur,rfl,-,hg,hc,-,hcs,ht⟩⟩:=ho
 .rw[h0] at eL
  refine(Rl.wL w none 0 0 (fun i=>(l.getD i 0).toNat) ⟨hf,by omega,fun h=>by omega⟩ (av _)).mono ?_;rintro e w' ⟨rfl,n,rfl⟩;exact⟨by rw[eL];rfl,jh (bV _ _) n⟩
 .refine(Rl.wL w (some ⟨g,0,none⟩) l.length cap (fun i=>(l.getD i 0).toNat) ⟨hf,by omega,fun h=>⟨g,0,rfl,(aD.1 hg).1,fun i hi=>?_⟩⟩ hc).mono ?_
  .have hb:cj w g cur 36:=hg
   rw[bM,hb.cell i];have e1:(cur.toList.take (l.length*1))[i]?=(l.map (Value.int .u64))[i]?:=by rw[ht]
   rw[List.getElem?_take,if_pos (by omega),aR,aq hi] at e1;rw[←bJ,e1];have:=(hr _ (aF hi)).1;have e2:(((l.getD i 0).toNat:Nat):Int)=l[i]:=by rw[ao,aq hi];show((l[i].toNat:Nat):Int)=_;omega
   rw[e2]
   rfl
  .rintro e w' ⟨rfl,n,rfl⟩
   exact⟨by rw[eL];rfl,jh (bV _ _) n⟩
theorem KK{w:World}{C:cV}{E:Env}{c:cF}{ws:List Int}{N:Int}{x:V}(L:Lk C E c)(hS:C.sum=sE)(h:Hv w C E c ws N x)(q:iJ){y r u:Nat}(hy:ja x y)(hh:cU C.K x.v.M y=some (r,u)):ak 143 #[af (aj (E.A 26)),.agg #[ab q.code,aa q.h,U q.a,U q.b,aa q.x],U y] w (j9 C E c ws N (vI C x y) 0 w):=by
 obtain⟨W,hW⟩:=al ((w.alloc (.cells #[ab q.code,aa q.h,U q.a,U q.b,aa q.x] 54)).alloc (.cells #[U 0,aa 0,aa 0,U 0,U 0,U 0,U 0,.bool false] 38));obtain⟨hB,bO,bS⟩:=(gG w q).out W hW;obtain⟨s,G,hp,rp,gn⟩:=h.cA L hB;have hK:C.K.Ok:=by rw[L.cK];exact L.e.K
 have hv:=Rp.Eg rp hy;have I:=Rp.uP L rp;have hs:cU E.K s.M y=some (r,u):=by rw[←L.cK,←rp.head hK hv];exact hh
 obtain⟨k,rr,X,ob⟩:=me L.e hp.cp.co.mp (I.tn y hv.1) hs;have hft:=ob.fit;have C1:=fw hh;have ha:C.K.addr y=addrOf E.pw E.rs y:=by rw[L.cK];rfl
 have hin:addrOf E.pw E.rs y+rr.size<=E.pg*E.pw:=ob.IP hp.cp.co.mp.cx;have ew:∀i,i<r+u→at' E.bs E.tn ws (addrOf E.pw E.rs y+1+i)=dx C x y i:=fun i hi=>by
  rw[←hp.cp.co.mp.mem _ (by omega),←ha];exact(rp.word hv (by omega) (by omega)).symm
 have eW:fy E.c ws y r u=(List.range u).map fun j=>dx C x y (r+j):=by
  unfold fy;refine List.map_congr_left (fun j hj=>?_);have:=List.mem_range.1 hj;exact ew (r+j) (by omega)
 have eF:vI C x y=(x,{Sn.told 0 with w:=sE (fy E.c ws y r u)}):=by
  unfold vI;rw[hh,hS,eW]
 have hrg:∀z∈fy E.c ws y r u,0<=z/\z<18446744073709551616:=fun z hz=>by
  unfold fy at hz;obtain⟨j,hj,rfl⟩:=List.mem_map.1 hz;have hj:=List.mem_range.1 hj;obtain⟨Y,e1,e2,-,-⟩:=Ctx.word hp.cp.co.mp.cx (a:=addrOf E.pw E.rs y+1+(r+j)) (by show _<E.pg*E.pw;omega);have e1:at' E.c.bs E.c.tn ws (addrOf E.c.pw E.c.rs y+1+(r+j))=Y:=e1;rw[e1];omega
 have hl:(fy E.c ws y r u).length<=1000:=by
  have:=ob.jU;unfold fy;rw[List.length_map,List.length_range];omega
 have c7:=hp.cells.2.1;have dB:=ic hp.cp;have dW:=rO (c:=E.c) hp.cp.co.mp.cx ob;rw[eF];have dW:ak 196 #[af (aj (E.A 0)),U y] W fun e w1=>∃val,e=ae (.tuple #[val,U 0])/\ak 197 #[val] w1 fun e w2=>e=ae (aa (sE (fy E.c ws y r u)))/\cj w2 (w.heap.size+1) eY 38/\Hid (∀s,cj (w2.setRow (w.heap.size+1) (cX s)) (w.heap.size+1) (cX s) 38/\∃cR,fF w (w2.setRow (w.heap.size+1) (cX s)) C E c ws N x 0 cR):=by
  refine dW.mono ?_;rintro e w1 ⟨val,rfl,ho,hb⟩;refine⟨val,rfl,(No ho hrg hl).mono ?_⟩;rintro e w2 ⟨rfl,cN⟩;exact⟨rfl,(h.frame L hB bS).told L h (fj hb cN)⟩
 clear h L bO bS hB hp rp gn hy hh hK hv I hs ob hft C1 ha hin ew eW eF hrg hl hS;generalize sE (fy E.c ws y r u)=sm at *;go_enter func143,ntmps143;go_wp2_with (first
  | (go_at_call 180;(with_reducible refine dB.mono ?_);rintro e w1 ⟨rfl,rfl⟩)
  | (go_at_call 196;(with_reducible refine dW.mono ?_);rintro e w1 ⟨val,rfl,dS⟩)
  | (go_at_call 197;(with_reducible refine dS.mono ?_);rintro e w2 ⟨rfl,bz,hZ⟩)
  | (refine wpList_store_row rfl _ _ _ rfl (w.heap.size+1) (cX {Sn.told 0 with w:=sm}) rfl rfl 38 eY bz cG rfl (eE _) ?_))
 refine bodyPost_ret (results_cell_row rfl _ _ (w.heap.size+1) 38 (cX {Sn.told 0 with w:=sm}) (0,0) _ rfl (hZ.out _).1 underlying38 rfl cG) rfl ?_;exact⟨rfl,(hZ.out _).2⟩
end Hp
namespace Hp
open Go.RowKit Go.bZ Go.Gc Go.Cf Cn Go.Proofs.YtgblmelijlgimaaGreatDoor.Fd Sl Bd Ca Hd Tb Mm Mk Sw Cy
def Hk:Array Value:=#[.nilFunc,.func (.func 137) #[] #[],.func (.func 138) #[] #[],.func (.func 139) #[] #[],.func (.func 140) #[] #[],.func (.func 141) #[] #[],.func (.func 142) #[] #[],.func (.func 143) #[] #[]]
theorem KL:(prog.info? 217).map (·.size)=some 8:=by kernel_rfl
theorem eH(w:World):ak 107 #[] w fun e w'=>e=ae (.agg #[.nilFunc,.func (.func 137) #[] #[],.func (.func 138) #[] #[],.func (.func 139) #[] #[],.func (.func 140) #[] #[],.func (.func 141) #[] #[],.func (.func 142) #[] #[],.func (.func 143) #[] #[]])/\Below w.heap.size w w':=by
 go_enter func107,ntmps107;go_wp2_with fail;refine bodyPost_ret (results_cell_row rfl _ _ w.heap.size 217 Hk (0,0) _ rfl (cj.new w Hk 217) underlying217 rfl KL) rfl ?_;exact⟨rfl,bA (bV _ _) (av _) _⟩
structure Ds(w w1:World)(q:iJ)(b5:Nat):Prop where
 hB:Below w.heap.size w w1
 bO:cj w1 w.heap.size (sB q) 54
 bS:cj w1 (w.heap.size+1) eY 38
 bF:cj w1 b5 Hk 217
 l5:w.heap.size+2<=b5
theorem Ds.cA{w w1 w2:World}{q:iJ}{b5:Nat}(h:Ds w w1 q b5)(hb:Below w1.heap.size w1 w2):Ds w w2 q b5:=⟨h.hB.trans (hb.mono h.hB.size),h.bO.cA hb,h.bS.cA hb,h.bF.cA hb,h.l5⟩
theorem mz{w W:World}{q:iJ}(hB:Below w.heap.size w W)(bO:cj W w.heap.size (sB q) 54)(bS:cj W (w.heap.size+1) eY 38):Hid (∀w1 W2,Below W.heap.size W w1→w1.alloc (.cells #[.nilFunc,.func (.func 137) #[] #[],.func (.func 138) #[] #[],.func (.func 139) #[] #[],.func (.func 140) #[] #[],.func (.func 141) #[] #[],.func (.func 142) #[] #[],.func (.func 143) #[] #[]] 217)=W2→Ds w W2 q w1.heap.size):=bU (fun w1 W2 hb iz=>by
 subst iz;have h1:Below w1.heap.size w1 (w1.alloc (.cells Hk 217)):=bA (bV _ _) (av _) _;have hl:=bS.lt;have qd:=hb.size;exact⟨(hB.trans (hb.mono hB.size)).trans (h1.mono (aE hB.size hb.size)),(bO.cA hb).cA h1,(bS.cA hb).cA h1,cj.new _ _ _,by omega⟩)
theorem Ds.fin{w w1 w2:World}{C:cV}{E:Env}{c:cF}{ws:List Int}{N:Int}{x:V}{q:iJ}{b5:Nat}(L:Lk C E c)(h:Hv w C E c ws N x)(d:Ds w w1 q b5)(hb:Below w1.heap.size w1 w2):cj w2 (w.heap.size+1) eY 38/\Hid (∀s,cj (w2.setRow (w.heap.size+1) (cX s)) (w.heap.size+1) (cX s) 38/\∃cR,fF w (w2.setRow (w.heap.size+1) (cX s)) C E c ws N x 0 cR):=(fF.none L h d.hB).told L h (by omega) d.bS hb
theorem jR(F:Nat)(W:World):(binOp .eql 216 (.func (.func F) #[] #[]) .nilFunc).run prog W=.ok (.bool false) W:=by rfl
theorem KM(W:World):(binOp .eql 216 .nilFunc .nilFunc).run prog W=.ok (.bool true) W:=by rfl
theorem Hm{w:World}{C:cV}{E:Env}{c:cF}{ws:List Int}{N:Int}{x:V}(L:Lk C E c)(h:Hv w C E c ws N x)(q:iJ)(h8:8<=q.code)(Rm:q.code<256):ak 76 #[af (aj (E.A 26)),.agg #[ab q.code,aa q.h,U q.a,U q.b,aa q.x]] w (j9 C E c ws N (x,Sn.told 250) 0 w):=by
 obtain⟨W,hW⟩:=al ((w.alloc (.cells #[ab q.code,aa q.h,U q.a,U q.b,aa q.x] 54)).alloc (.cells #[U 0,aa 0,aa 0,U 0,U 0,U 0,U 0,.bool false] 38));obtain⟨hB,bO,bS⟩:=(gG w q).out W hW;have DO:=eH W;have D1:=mz hB bO bS;have HT:=bU (fun w1 z=>fD w1 z);have HM:=bU (fun w1 w2 b5 (d:Ds w w1 q b5) (hb:Below w1.heap.size w1 w2)=>d.fin L h hb);have HC:Hid (∀w1 b5,Ds w w1 q b5→w1.cell? (aj w.heap.size)=some (ab q.code)):=bU (fun w1 b5 d=>d.bO.cell 0);have g8:(8:Int)<=(q.code:Int):=by omega
 have UJ:(q.code:Int)<256:=by omega
 clear h L bO bS hB h8 Rm;go_enter func76,ntmps76;go_wp2_with (first
  | (go_at_call 107;(with_reducible refine DO.mono ?_);rintro e w1 ⟨rfl,hb⟩;obtain⟨W2,iz⟩:=al (w1.alloc (.cells #[.nilFunc,.func (.func 137) #[] #[],.func (.func 138) #[] #[],.func (.func 139) #[] #[],.func (.func 140) #[] #[],.func (.func 141) #[] #[],.func (.func 142) #[] #[],.func (.func 143) #[] #[]] 217));have d:=bU (D1.out w1 W2 hb iz);have y0:=HC.out W2 _ d.out;clear hb)
  | (go_at_call 75;(with_reducible refine(HT.out _ _).mono ?_);rintro e w2 ⟨rfl,hb⟩;obtain⟨bz,hZ⟩:=HM.out W2 w2 _ d.out hb;clear hb)
  | (refine wpList_store_row rfl _ _ _ rfl (w.heap.size+1) (cX (Sn.told 250)) rfl rfl 38 eY bz cG rfl (eE _) ?_))
 refine bodyPost_ret (results_cell_row rfl _ _ (w.heap.size+1) 38 (cX (Sn.told 250)) (0,0) _ rfl (hZ.out _).1 underlying38 rfl cG) rfl ?_;exact⟨rfl,(hZ.out _).2⟩
theorem Hn{w:World}{C:cV}{E:Env}{c:cF}{ws:List Int}{N:Int}{x:V}(L:Lk C E c)(h:Hv w C E c ws N x)(qh qa qb qx:Int):ak 76 #[af (aj (E.A 26)),.agg #[ab 0,aa qh,U qa,U qb,aa qx]] w (j9 C E c ws N (x,Sn.told 250) 0 w):=by
 obtain⟨W,hW⟩:=al ((w.alloc (.cells #[ab 0,aa qh,U qa,U qb,aa qx] 54)).alloc (.cells #[U 0,aa 0,aa 0,U 0,U 0,U 0,U 0,.bool false] 38));obtain⟨hB,bO,bS⟩:=(gG w ⟨0,qh,qa,qb,qx⟩).out W hW;have DO:=eH W;have D1:=mz hB bO bS;have HT:=bU (fun w1 z=>fD w1 z);have HM:=bU (fun w1 w2 b5 (d:Ds w w1 ⟨0,qh,qa,qb,qx⟩ b5) (hb:Below w1.heap.size w1 w2)=>d.fin L h hb);have HC:Hid (∀w1 b5,Ds w w1 ⟨0,qh,qa,qb,qx⟩ b5→w1.cell? (aj w.heap.size)=some (ab 0)/\w1.cell? (aj b5)=some .nilFunc):=bU (fun w1 b5 d=>⟨d.bO.cell 0,d.bF.cell 0⟩);clear h L bO bS hB;have hnn:=KM;go_enter func76,ntmps76;go_wp2_with (first
  | (go_at_call 107;(with_reducible refine DO.mono ?_);rintro e w1 ⟨rfl,hb⟩;obtain⟨W2,iz⟩:=al (w1.alloc (.cells #[.nilFunc,.func (.func 137) #[] #[],.func (.func 138) #[] #[],.func (.func 139) #[] #[],.func (.func 140) #[] #[],.func (.func 141) #[] #[],.func (.func 142) #[] #[],.func (.func 143) #[] #[]] 217));have d:=bU (D1.out w1 W2 hb iz);obtain⟨y0,y5⟩:=HC.out W2 _ d.out;clear hb)
  | (go_at_call 75;(with_reducible refine(HT.out _ _).mono ?_);rintro e w2 ⟨rfl,hb⟩;obtain⟨bz,hZ⟩:=HM.out W2 w2 _ d.out hb;clear hb)
  | (refine wpList_store_row rfl _ _ _ rfl (w.heap.size+1) (cX (Sn.told 250)) rfl rfl 38 eY bz cG rfl (eE _) ?_))
 refine bodyPost_ret (results_cell_row rfl _ _ (w.heap.size+1) 38 (cX (Sn.told 250)) (0,0) _ rfl (hZ.out _).1 underlying38 rfl cG) rfl ?_;exact⟨rfl,(hZ.out _).2⟩
theorem Df{w:World}{C:cV}{E:Env}{c:cF}{ws:List Int}{N:Int}{x:V}(L:Lk C E c)(h:Hv w C E c ws N x)(q:iJ)(h2:2<=q.code)(h8:q.code<8)(lG:0<=q.h)(lH:q.h<18446744073709551616)(hs:fP C x q.h=none):ak 76 #[af (aj (E.A 26)),.agg #[ab q.code,aa q.h,U q.a,U q.b,aa q.x]] w (j9 C E c ws N (x,Sn.told 130) 0 w):=by
 obtain⟨W,hW⟩:=al ((w.alloc (.cells #[ab q.code,aa q.h,U q.a,U q.b,aa q.x] 54)).alloc (.cells #[U 0,aa 0,aa 0,U 0,U 0,U 0,U 0,.bool false] 38));obtain⟨hB,bO,bS⟩:=(gG w q).out W hW;have DO:=eH W;have D1:=mz hB bO bS;have HT:=bU (fun w1 z=>fD w1 z);have HM:=bU (fun w1 w2 b5 (d:Ds w w1 q b5) (hb:Below w1.heap.size w1 w2)=>d.fin L h hb);have hF:∃F,Hk[q.code]?=some (.func (.func F) #[] #[]):=by
  have:q.code=2\/q.code=3\/q.code=4\/q.code=5\/q.code=6\/q.code=7:=by omega
  rcases this with e|e|e|e|e|e <;> rw[e] <;> exact⟨_,rfl⟩
 obtain⟨F,hF⟩:=hF;have HC:=bU (fun w1 b5 (d:Ds w w1 q b5)=>(⟨d.bO.cell 0,d.bO.cell 1,(d.bF.cell q.code).trans hF⟩:w1.cell? (aj w.heap.size)=some (ab q.code)/\w1.cell? (aj w.heap.size 1)=some (aa q.h)/\w1.cell? (aj b5 q.code)=some (.func (.func F) #[] #[])));have DS:Hid (∀w1 b5,Ds w w1 q b5→ak 108 #[af (aj (E.A 26)),aa q.h] w1 fun e w2=>e=ae (.tuple #[U 0,.bool false])/\Hid (Ds w w2 q b5)/\w2.cell? (aj w.heap.size)=some (ab q.code)):=bU (fun w1 b5 d=>by
  obtain⟨s,G,hp,rp,gn⟩:=h.cA L d.hB;have ds:=iK L hp rp.es (z:=q.h) lG lH;rw[hs] at ds;refine ds.mono ?_;rintro e w2 ⟨rfl,cN⟩;have d2:=d.cA cN;exact⟨rfl,bU d2,d2.bO.cell 0⟩)
 have g2:(q.code:Int)<8:=by omega
 have g0:(0:Int)<=(q.code:Int):=by omega
 have hnf:=jR F;have g1:((q.code:Int) != 1)=true:=by rw[bne_iff_ne];omega
 clear h L bO bS hB h2 h8 hF hs lG lH;go_enter func76,ntmps76;go_wp2_with (first
  | (go_at_call 107;(with_reducible refine DO.mono ?_);rintro e w1 ⟨rfl,hb⟩;obtain⟨W2,iz⟩:=al (w1.alloc (.cells #[.nilFunc,.func (.func 137) #[] #[],.func (.func 138) #[] #[],.func (.func 139) #[] #[],.func (.func 140) #[] #[],.func (.func 141) #[] #[],.func (.func 142) #[] #[],.func (.func 143) #[] #[]] 217));have d:=bU (D1.out w1 W2 hb iz);obtain⟨y0,y1,y5⟩:=HC.out W2 _ d.out;have dS:=DS.out W2 _ d.out;clear hb)
  | (go_at_call 108;(with_reducible refine dS.mono ?_);rintro e w3 ⟨rfl,d3,z0⟩)
  | (go_at_call 75;(with_reducible refine(HT.out _ _).mono ?_);rintro e w2 ⟨rfl,hb⟩;obtain⟨bz,hZ⟩:=HM.out w3 w2 _ d3.out hb;clear hb)
  | (refine wpList_store_row rfl _ _ _ rfl (w.heap.size+1) (cX (Sn.told 130)) rfl rfl 38 eY bz cG rfl (eE _) ?_))
 refine bodyPost_ret (results_cell_row rfl _ _ (w.heap.size+1) 38 (cX (Sn.told 130)) (0,0) _ rfl (hZ.out _).1 underlying38 rfl cG) rfl ?_;exact⟨rfl,(hZ.out _).2⟩
end Hp
end Go.Proofs.YtgblmelijlgimaaGreatDoor
