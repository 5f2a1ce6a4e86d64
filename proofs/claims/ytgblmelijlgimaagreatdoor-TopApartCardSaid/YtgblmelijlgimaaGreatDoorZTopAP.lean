/- Parts of the proof of TopApart. -/
import Derived.Test.YtgblmelijlgimaaGreatDoorZTopAO
set_option maxRecDepth 100000
namespace Go.Proofs.YtgblmelijlgimaaGreatDoor
open Go.Proofs.Tryz
namespace Ti
open Go.RowKit
def TC(w:World)(p g n:Nat)(f:Int):Prop:=
 w.cell? (aj p)=some (ai (aj g) n n)/\w.cell? (aj p 1)=some (aa f)/\1<=f/\f<=1000000/\n<=65536
theorem cC(w:World)(p g n:Nat)(f:Int)(h:TC w p g n f):
  ak 208 #[af (aj p)] w fun e w'=>e=ae (.bool false)/\w=w':=by
 obtain⟨h0,h1,h2,h3,h4⟩:=h;have hz:(f==0)=false:=by rw[aA];omega
 go_enter func208,ntmps208
 go_wp2
 go_ret;exact⟨rfl,rfl⟩
theorem FC(w:World)(p g n:Nat)(f s:Int)(h:TC w p g n f)(hs:0<=s)(Ed:s<n):
  ak 160 #[af (aj p),U s] w fun e w'=>e=ae (U 0)/\w=w':=by
 have c:=cC w p g n f h;obtain⟨h0,h1,h2,h3,h4⟩:=h;go_enter func160,ntmps160;go_wp2_with (go_at_call 208;refine c.mono ?_;rintro e w' ⟨rfl,rfl⟩)
 go_ret;exact⟨rfl,rfl⟩
theorem zI(w:World)(p g n:Nat)(f s:Int)(h:TC w p g n f)(hs:s<0\/n<=s):
  ak 160 #[af (aj p),U s] w fun e w'=>e=ae (U 2)/\w=w':=by
 have c:=cC w p g n f h;obtain⟨h0,h1,h2,h3,h4⟩:=h;rcases hs with hs|hs;all_goals
  go_enter func160,ntmps160;go_wp2_with (go_at_call 208;refine c.mono ?_;rintro e w' ⟨rfl,rfl⟩)
  go_ret;exact⟨rfl,rfl⟩
def col(f l:Int):Int:=if l=2*f then 1 else if l=2*f+1 then 2 else 0
theorem xT(w:World)(p g n:Nat)(f l:Int)(h:TC w p g n f):
  ak 161 #[af (aj p),aa l] w fun e w'=>e=ae (ab (col f l))/\w=w':=by
 obtain⟨h0,h1,h2,h3,h4⟩:=h;by_cases c1:l=2*f
 .have e:col f l=1:=by unfold col;rw[if_pos c1]
  rw[e];subst c1;go_enter func161,ntmps161
  go_wp2
  go_ret;exact⟨rfl,rfl⟩
 .have b1:(l==2*f)=false:=by rw[aA];exact c1
  by_cases c2:l=2*f+1
  .have e:col f l=2:=by unfold col;rw[if_neg c1,if_pos c2]
   rw[e];subst c2;clear c1 e;go_enter func161,ntmps161
   go_wp2
   go_ret;exact⟨rfl,rfl⟩
  .have e:col f l=0:=by unfold col;rw[if_neg c1,if_neg c2]
   have b2:(l==2*f+1)=false:=by rw[aA];exact c2
   rw[e];clear c1 c2 e;go_enter func161,ntmps161
   go_wp2
   go_ret;exact⟨rfl,rfl⟩
theorem FD(w:World)(p g n:Nat)(f l:Int)(k:Nat)(h:TC w p g n f)(Ed:k<n)(hc:w.cell? (aj g k)=some (aa l)):
  ak 128 #[af (aj p),U k] w fun e w'=>e=ae (.tuple #[ab (col f l),U 0])/\w=w':=by
 have c:=FC w p g n f k h (by omega) (by omega);have d:=xT w p g n f l h;obtain⟨h0,h1,h2,h3,h4⟩:=h;go_enter func128,ntmps128;go_wp2_with (first|(go_at_call 160;refine c.mono ?_;rintro e w' ⟨rfl,rfl⟩)|(go_at_call 161;refine d.mono ?_;rintro e w' ⟨rfl,rfl⟩))
 go_ret2
 exact⟨rfl,rfl⟩
theorem FE(w:World)(p g n:Nat)(f s:Int)(h:TC w p g n f)(hs:s<0\/n<=s):
  ak 128 #[af (aj p),U s] w fun e w'=>e=ae (.tuple #[ab 0,U 2])/\w=w':=by
 have c:=zI w p g n f s h hs;go_enter func128,ntmps128;go_wp2_with (go_at_call 160;refine c.mono ?_;rintro e w' ⟨rfl,rfl⟩)
 go_ret2
 exact⟨rfl,rfl⟩
structure eQ(w w':World)(p g:Nat):Prop where
 os:w'.os=w.os
 tape:w'.tape=w.tape
 output:w'.output=w.output
 size:w.heap.size<=w'.heap.size
 block:∀k,k<w.heap.size→k≠p→k≠g→w'.heap[k]?=w.heap[k]?
theorem eQ.refl(w:World)(p g:Nat):eQ w w p g:=⟨rfl,rfl,rfl,av _,fun _ _ _ _=>rfl⟩
theorem eQ.stored(w:World)(p g:Nat)(a:Addr)(u:Value)(ha:a.block=p\/a.block=g):eQ w (w.setCell a u) p g:=
 ⟨rfl,rfl,rfl,by simp[World.setCell],fun k _ h1 h2=>Below.heap_setCell _ _ _ _ (by rcases ha with h|h <;> omega)⟩
theorem eQ.drew{w w':World}{p g:Nat}(h:eQ w w' p g):eQ w w'.drew p g:=⟨h.os,h.tape,h.output,h.size,h.block⟩
theorem cellOf{w:World}{b:Nat}{cs:Array Value}{t:TypeId}(h:w.heap[b]?=some (.cells cs t (0,0)))(i:Nat):w.cell? (aj b i)=cs[i]?:=cell_of_row w b i cs t (0,0) h
theorem l7{w:World}{b:Nat}{cs:Array Value}{t:TypeId}(h:w.heap[b]?=some (.cells cs t (0,0)))(i:Nat):w.frozen? (aj b i)=false:=by
 simp[World.frozen?,h]
theorem B8{w:World}{b:Nat}{o:Obj}(h:w.heap[b]?=some o):b<w.heap.size:=by
 rcases Nat.lt_or_ge b w.heap.size with hlt|hge
 .exact hlt
 .rw[Array.getElem?_eq_none hge] at h;cases h
theorem setOf{w:World}{b:Nat}{cs:Array Value}{t:TypeId}(h:w.heap[b]?=some (.cells cs t (0,0)))(i:Nat)(u:Value):
  (w.setCell (aj b i) u).heap[b]?=some (.cells (cs.setIfInBounds i u) t (0,0)):=by
 simp[World.setCell,Array.getElem?_modify,h]
def Tn(w:World)(p g:Nat)(cs:List Int)(m:Int):Prop:=
 ∃(f:Int) (last:List Int),w.heap[p]?=some (.cells #[ai (aj g) cs.length cs.length,aa f] 242 (0,0))/\
  w.heap[g]?=some (.cells (last.map (Value.int .u64)).toArray 36 (0,0))/\cs=last.map (col f)/\(∀l∈last,0<=l/\l<=2*f+1)/\
  1<=f/\f<=m/\m<=1000000/\cs.length<=65536
theorem Tn.ne{w:World}{p g:Nat}{cs:List Int}{m:Int}(h:Tn w p g cs m):p≠g:=by
 obtain⟨f,last,hp,hg,_⟩:=h;rintro rfl;rw[hp] at hg;injection hg with hg;injection hg with _ ht
 revert ht;decide
theorem Tn.bY{w w':World}{p g:Nat}{cs:List Int}{m:Int}(h:Tn w p g cs m)(hp:w'.heap[p]?=w.heap[p]?)(hg:w'.heap[g]?=w.heap[g]?):Tn w' p g cs m:=by
 obtain⟨f,last,h1,h2,r⟩:=h;exact⟨f,last,hp.trans h1,hg.trans h2,r⟩
theorem Tn.lt{w:World}{p g:Nat}{cs:List Int}{m:Int}(h:Tn w p g cs m):p<w.heap.size/\g<w.heap.size:=by
 obtain⟨f,last,h1,h2,r⟩:=h;exact⟨B8 h1,B8 h2⟩
def s9(n:Nat)(s:Int):Int:=if 0<=s/\s<n then 0 else 2
def ME(cs:List Int)(s:Int):Int:=if 0<=s/\s<cs.length then cs.getD s.toNat 0 else 0
def IQ(cs:List Int)(s:Int):Bool:=decide (0<=s/\s<cs.length)&&(cs.getD s.toNat 0==0)
def B9(cs:List Int)(s:Int):List Int:=if IQ cs s then cs.set s.toNat 1 else cs
def MF(cs:List Int)(s:Int):List Int:=if 0<=s/\s<cs.length then cs.set s.toNat 2 else cs
theorem oq(f:Int)(last:List Int)(k:Nat)(h:k<last.length):(last.map (col f)).getD k 0=col f (last.getD k 0):=by
 simp[List.getD_eq_getElem?_getD,h]
theorem mL{w:World}{g:Nat}{last:List Int}(h:w.heap[g]?=some (.cells (last.map (Value.int .u64)).toArray 36 (0,0)))(k:Nat)(hk:k<last.length):
  w.cell? (aj g k)=some (aa (last.getD k 0)):=by
 rw[cellOf h];simp[hk]
theorem JR(w:World)(p g:Nat)(cs:List Int)(m s:Int)(h:Tn w p g cs m):
  ak 128 #[af (aj p),U s] w fun e w'=>e=ae (.tuple #[ab (ME cs s),U (s9 cs.length s)])/\w=w':=by
 obtain⟨f,last,hp,hg,hcs,hl,f1,f2,f3,hn⟩:=h;have hT:TC w p g cs.length f:=⟨by rw[cellOf hp];rfl,by rw[cellOf hp];rfl,f1,by omega,hn⟩;have hlen:last.length=cs.length:=by rw[hcs];simp
 by_cases hs:0<=s/\s<cs.length
 .obtain⟨k,rfl⟩:=Int.eq_ofNat_of_zero_le hs.1
  have hk:k<cs.length:=by omega
  have e1:ME cs k=col f (last.getD k 0):=by
   unfold ME;rw[if_pos hs,aG,hcs,oq _ _ _ (by omega)]
  have e2:s9 cs.length k=0:=by unfold s9;rw[if_pos hs]
  rw[e1,e2];exact FD w p g cs.length f _ k hT hk (mL hg k (by omega))
 .have e1:ME cs s=0:=by unfold ME;rw[if_neg hs]
  have e2:s9 cs.length s=2:=by unfold s9;rw[if_neg hs]
  rw[e1,e2];exact FE w p g cs.length f s hT (by omega)
theorem FF(w:World)(p g n:Nat)(f l:Int)(k:Nat)(h:TC w p g n f)(Ed:k<n)(hc:w.cell? (aj g k)=some (aa l))(hf:w.frozen? (aj g k)=false)(h0:col f l=0):
  ak 289 #[af (aj p),U k] w fun e w'=>e=ae (.tuple #[.bool true,U 0])/\w'=(w.setCell (aj g k) (aa (2*f))).drew:=by
 have c:=FD w p g n f l k h Ed hc;rw[h0] at c;obtain⟨c0,c1,c2,c3,c4⟩:=h;clear h0;go_enter func289,ntmps289;go_wp2_with (go_at_call 128;refine c.mono ?_;rintro e w' ⟨rfl,rfl⟩)
 go_region
 go_wp2
 go_ret2
 exact⟨rfl,rfl⟩
theorem FG(w:World)(p g n:Nat)(f l:Int)(k:Nat)(h:TC w p g n f)(Ed:k<n)(hc:w.cell? (aj g k)=some (aa l))(h0:(col f l==0)=false):
  ak 289 #[af (aj p),U k] w fun e w'=>e=ae (.tuple #[.bool false,U 0])/\w=w':=by
 have c:=FD w p g n f l k h Ed hc;generalize col f l=cc at *;go_enter func289,ntmps289;go_wp2_with (go_at_call 128;refine c.mono ?_;rintro e w' ⟨rfl,rfl⟩)
 go_ret2
 exact⟨rfl,rfl⟩
theorem Cc(w:World)(p g n:Nat)(f s:Int)(h:TC w p g n f)(hs:s<0\/n<=s):
  ak 289 #[af (aj p),U s] w fun e w'=>e=ae (.tuple #[.bool false,U 2])/\w=w':=by
 have c:=FE w p g n f s h hs;go_enter func289,ntmps289;go_wp2_with (go_at_call 128;refine c.mono ?_;rintro e w' ⟨rfl,rfl⟩)
 go_ret2
 exact⟨rfl,rfl⟩
theorem FH(w:World)(p g n:Nat)(f l:Int)(k:Nat)(h:TC w p g n f)(Ed:k<n)(hc:w.cell? (aj g k)=some (aa l))(hf:w.frozen? (aj g k)=false):
  ak 262 #[af (aj p),U k] w fun e w'=>e=ae (U 0)/\w'=(w.setCell (aj g k) (aa (2*f+1))).drew:=by
 have c:=FC w p g n f k h (by omega) (by omega);obtain⟨c0,c1,c2,c3,c4⟩:=h;go_enter func262,ntmps262;go_wp2_with (go_at_call 160;refine c.mono ?_;rintro e w' ⟨rfl,rfl⟩)
 go_region
 go_wp2
 go_ret;exact⟨rfl,rfl⟩
theorem Cd(w:World)(p g n:Nat)(f s:Int)(h:TC w p g n f)(hs:s<0\/n<=s):
  ak 262 #[af (aj p),U s] w fun e w'=>e=ae (U 2)/\w=w':=by
 have c:=zI w p g n f s h hs;go_enter func262,ntmps262;go_wp2_with (go_at_call 160;refine c.mono ?_;rintro e w' ⟨rfl,rfl⟩)
 go_ret;exact⟨rfl,rfl⟩
theorem FJ(w:World)(p g n:Nat)(f:Int)(h:TC w p g n f)(hf:w.frozen? (aj p 1)=false):
  ak 313 #[af (aj p)] w fun e w'=>e=ae (.tuple #[])/\w'=w.setCell (aj p 1) (aa (f+1)):=by
 have c:=cC w p g n f h;obtain⟨c0,c1,c2,c3,c4⟩:=h;go_enter func313,ntmps313;go_wp2_with (go_at_call 208;refine c.mono ?_;rintro e w' ⟨rfl,rfl⟩)
 go_end0
 exact⟨rfl,rfl⟩
def jH(cs:List Int)(c:Int):Nat:=cs.countP (· ==c)
end Ti
namespace Ti
open Go.RowKit
theorem MG:(prog.info? 36).map (fun i=>(i.zero,i.size,i.bytes))=some (some (aa 0),1,8):=by kernel_rfl
theorem FK{w:World}{p g:Nat}{cs:List Int}{f:Int}(hp:w.heap[p]?=some (.cells #[ai (aj g) cs.length cs.length,aa f] 242 (0,0)))
 (f1:1<=f)(f2:f<=1000000)(hn:cs.length<=65536):TC w p g cs.length f:=⟨by rw[cellOf hp];rfl,by rw[cellOf hp];rfl,f1,f2,hn⟩
theorem JS(f:Int)(last:List Int)(k:Nat)(v c:Int)(h:col f v=c):(last.map (col f)).set k c=(last.set k v).map (col f):=by
 rw[List.map_set,h]
theorem pO(last:List Int)(k:Nat)(v:Int):((last.map (Value.int .u64)).toArray.setIfInBounds k (aa v))=((last.set k v).map (Value.int .u64)).toArray:=by
 rw[List.map_set];simp
theorem Tn.stored{w:World}{p g:Nat}{f:Int}{last:List Int}{m:Int}(k:Nat)(v:Int)(hv:0<=v/\v<=2*f+1)
 (hp:w.heap[p]?=some (.cells #[ai (aj g) last.length last.length,aa f] 242 (0,0)))
 (hg:w.heap[g]?=some (.cells (last.map (Value.int .u64)).toArray 36 (0,0)))(hpg:p≠g)(hl:∀l∈last,0<=l/\l<=2*f+1)(f1:1<=f)(f2:f<=m)(f3:m<=1000000)(hn:last.length<=65536):
  Tn (w.setCell (aj g k) (aa v)).drew p g ((last.map (col f)).set k (col f v)) m:=by
 refine⟨f,last.set k v,?_,?_,?_,?_,f1,f2,f3,by simpa using hn⟩
 .have:=Below.heap_setCell w ⟨g,k,none⟩ (aa v) p hpg
  show(w.setCell (aj g k) (aa v)).heap[p]?=_;rw[this,hp];simp
 .show(w.setCell (aj g k) (aa v)).heap[g]?=_
  rw[setOf hg,pO]
 .exact JS f last k v _ rfl
 .intro l hm
  rcases aZ hm with h|h
  .exact hl l h
  .rw[h];exact hv
theorem FL(f:Int):col f (2*f)=1:=by unfold col;rw[if_pos rfl]
theorem Ce(f:Int):col f (2*f+1)=2:=by unfold col;rw[if_neg (by omega),if_pos rfl]
theorem xU(w:World)(p g:Nat)(cs:List Int)(m s:Int)(h:Tn w p g cs m):
  ak 289 #[af (aj p),U s] w fun e w'=>e=ae (.tuple #[.bool (IQ cs s),U (s9 cs.length s)])/\Tn w' p g (B9 cs s) m/\eQ w w' p g:=by
 have hne:=h.ne;have PT:=h;obtain⟨f,last,hp,hg,hcs,hl,f1,f2,f3,hn⟩:=h;have hT:=FK hp f1 (by omega) hn;have hlen:last.length=cs.length:=by rw[hcs];simp
 by_cases hs:0<=s/\s<cs.length
 .obtain⟨k,rfl⟩:=Int.eq_ofNat_of_zero_le hs.1
  have hk:k<cs.length:=by omega
  have e2:s9 cs.length k=0:=by unfold s9;rw[if_pos hs]
  have hgd:cs.getD k 0=col f (last.getD k 0):=by rw[hcs,oq _ _ _ (by omega)]
  have e1:IQ cs k=(col f (last.getD k 0)==0):=by unfold IQ;rw[aG,hgd,aw hs,Bool.true_and]
  rw[e2];by_cases h0:col f (last.getD k 0)=0
  .have e3:IQ cs k=true:=by rw[e1,h0];rfl
   have e4:B9 cs k=cs.set k 1:=by unfold B9;rw[if_pos e3,aG]
   rw[e3,e4];refine(FF w p g cs.length f _ k hT hk (mL hg k (by omega)) (l7 hg k) h0).mono ?_;rintro e w' ⟨rfl,rfl⟩;refine⟨rfl,?_,(eQ.stored w p g _ _ (.inr rfl)).drew⟩;rw[←hlen] at hp;have:=Tn.stored k (2*f) ⟨by omega,by omega⟩ hp hg hne hl f1 f2 f3 (by omega);rw[FL,←hcs] at this;exact this
  .have e3:IQ cs k=false:=by rw[e1,aA];exact h0
   have e4:B9 cs k=cs:=by unfold B9;rw[if_neg (by rw[e3];decide)]
   rw[e3,e4];refine(FG w p g cs.length f _ k hT hk (mL hg k (by omega)) (by rw[aA];exact h0)).mono ?_;rintro e w' ⟨rfl,rfl⟩;exact⟨rfl,PT,eQ.refl _ _ _⟩
 .have e2:s9 cs.length s=2:=by unfold s9;rw[if_neg hs]
  have e3:IQ cs s=false:=by unfold IQ;rw[az hs,Bool.false_and]
  have e4:B9 cs s=cs:=by unfold B9;rw[if_neg (by rw[e3];decide)]
  rw[e2,e3,e4];refine(Cc w p g cs.length f s hT (by omega)).mono ?_;rintro e w' ⟨rfl,rfl⟩;exact⟨rfl,PT,eQ.refl _ _ _⟩
theorem xV(w:World)(p g:Nat)(cs:List Int)(m s:Int)(h:Tn w p g cs m):
  ak 262 #[af (aj p),U s] w fun e w'=>e=ae (U (s9 cs.length s))/\Tn w' p g (MF cs s) m/\eQ w w' p g:=by
 have hne:=h.ne;have PT:=h;obtain⟨f,last,hp,hg,hcs,hl,f1,f2,f3,hn⟩:=h;have hT:=FK hp f1 (by omega) hn;have hlen:last.length=cs.length:=by rw[hcs];simp
 by_cases hs:0<=s/\s<cs.length
 .obtain⟨k,rfl⟩:=Int.eq_ofNat_of_zero_le hs.1
  have hk:k<cs.length:=by omega
  have e2:s9 cs.length k=0:=by unfold s9;rw[if_pos hs]
  have e4:MF cs k=cs.set k 2:=by unfold MF;rw[if_pos hs,aG]
  rw[e2,e4];refine(FH w p g cs.length f _ k hT hk (mL hg k (by omega)) (l7 hg k)).mono ?_;rintro e w' ⟨rfl,rfl⟩;refine⟨rfl,?_,(eQ.stored w p g _ _ (.inr rfl)).drew⟩;rw[←hlen] at hp;have:=Tn.stored k (2*f+1) ⟨by omega,by omega⟩ hp hg hne hl f1 f2 f3 (by omega);rw[Ce,←hcs] at this;exact this
 .have e2:s9 cs.length s=2:=by unfold s9;rw[if_neg hs]
  have e4:MF cs s=cs:=by unfold MF;rw[if_neg hs]
  rw[e2,e4];refine(Cd w p g cs.length f s hT (by omega)).mono ?_;rintro e w' ⟨rfl,rfl⟩;exact⟨rfl,PT,eQ.refl _ _ _⟩
theorem Cg(f:Int)(last:List Int)(hl:∀l∈last,0<=l/\l<=2*f+1):last.map (col (f+1))=List.replicate last.length 0:=by
 rw[List.eq_replicate_iff];refine⟨by simp,?_⟩;intro b hb;obtain⟨l,N6,rfl⟩:=List.mem_map.1 hb;have:=hl l N6;unfold col;rw[if_neg (by omega),if_neg (by omega)]
theorem Ch(w:World)(p g:Nat)(cs:List Int)(m:Int)(h:Tn w p g cs m)(hm:m<1000000):
  ak 313 #[af (aj p)] w fun e w'=>e=ae (.tuple #[])/\Tn w' p g (List.replicate cs.length 0) (m+1)/\eQ w w' p g:=by
 have hne:=h.ne;obtain⟨f,last,hp,hg,hcs,hl,f1,f2,f3,hn⟩:=h;have hT:=FK hp f1 (by omega) hn;have hlen:last.length=cs.length:=by rw[hcs];simp
 refine(FJ w p g cs.length f hT (l7 hp 1)).mono ?_;rintro e w' ⟨rfl,rfl⟩;refine⟨rfl,⟨f+1,last,?_,?_,?_,?_,by omega,by omega,by omega,by simpa using hn⟩,eQ.stored w p g _ _ (.inl rfl)⟩
 .rw[setOf hp];simp
 .rw[Below.heap_setCell _ _ _ _ (Ne.symm hne)];exact hg
 .rw[←hlen]
  exact(Cg f last hl).symm
 .intro l N6
  have:=hl l N6;omega
theorem JT(w:World)(n:Nat)(h:n<=65536):
  ak 102 #[U n] w fun e w'=>e=ae (.tuple #[af (aj (w.heap.size+1)),U 0])/\
   w'=(w.alloc (.cells (madeCells #[aa 0] n) 36)).alloc (.cells #[ai (aj w.heap.size) n n,aa 1] 242):=by
 have hmk:=run_make_row' (P:=prog) 108 36 (aa 0) 8 underlying108 MG rfl .i64 .i64 n (by omega) (by omega);go_enter func102,ntmps102
 go_wp2
 go_ret2
 exact⟨rfl,rfl⟩
theorem JU(z:Value)(n:Nat):madeCells #[z] n=(List.replicate n z).toArray:=by
 rw[←toList_madeCells_one]
theorem JV(w:World)(n:Nat)(m:Int)(h:n<=65536)(hm:1<=m)(QK:m<=1000000):
  ak 102 #[U n] w fun e w'=>∃p g,e=ae (.tuple #[af (aj p),U 0])/\Tn w' p g (List.replicate n 0) m/\Below w.heap.size w w'/\w.heap.size<=p/\w.heap.size<=g:=by
 refine(JT w n h).mono ?_;rintro e w' ⟨rfl,rfl⟩;refine⟨w.heap.size+1,w.heap.size,rfl,⟨1,List.replicate n 0,?_,?_,?_,?_,by omega,hm,QK,by simpa using h⟩,((bV _ _).alloc (av _) _).alloc (by simp) _,by omega,by omega⟩
 .rw[aN]
  have:=heap_alloc_new (w.alloc (.cells (madeCells #[aa 0] n) 36)) (.cells #[ai (aj w.heap.size) n n,aa 1] 242);rw[World.size_alloc] at this;exact this
 .rw[Below.heap_alloc _ _ _ (by simp),heap_alloc_new,JU,List.map_replicate]
 .rw[List.map_replicate];rfl
 .intro l hl
  rw[aQ hl];omega
end Ti
namespace Mk
open Go.RowKit Go.bZ Go.Gc Sl Mm Hd Bd Gy Bt Tb Pn
open Ti (Tn)
structure Env where
 A:Nat→Nat
 mp:Nat
 tn:Nat
 cap:Nat
 rs:List Rec
 n:Nat
 pg:Nat
 pw:Nat
 mw:Nat
 mb:Nat
 cO:Nat
 bs:List Nat
 L:Nat
 gens:Nat
 dv:Nat
 hn:Nat
def Env.c(E:Env):Bc:=⟨E.A 0,E.mp,E.tn,E.A 1,E.A 2,E.cap,E.rs,E.n,E.pg,E.pw,E.mw,E.mb,E.cO,E.bs⟩
def Env.i(E:Env):Gi:=⟨E.A 14,E.A 15,E.A 16,E.A 17,E.A 18,E.A 19,E.A 1,E.n,E.pg,E.dv⟩
def MH(z:Int):Option (Nat×Nat×Nat):=zt z.toNat
def Env.K(E:Env):eV:=Qr E.pw E.rs E.n E.pg E.L E.dv MH
structure Env.Ok(E:Env):Prop where
 inj:∀i j,i<64→j<64→E.A i=E.A j→i=j
 mp:∀i,i<64→E.A i≠E.mp
 mw:∀i,i<64→E.A i≠E.mw
 mb:∀i,i<64→E.A i≠E.mb
 o0:∀i,i<64→E.A i≠0
 o2:∀i,i<64→E.A i≠2
 w1:E.mw≠E.mp
 w2:E.mw≠E.mb
 w3:E.mw≠0
 w4:E.mw≠2
 n1:0<E.n
 n2:E.n<=65536
 L1:0<E.L
 L2:E.L<=65536
 l1:1<=E.dv
 l2:E.dv<=64
 h1:1<=E.hn
 h2:E.hn<=9
 gd:Go.Gc.Good E.pw E.rs 0 0 E.n E.pg
def Of(A:Nat→Nat)(l:List Nat)(k:Nat):Prop:=∃i∈l,k=A i
theorem Env.Ok.no{E:Env}(h:E.Ok){l:List Nat}{j:Nat}(hl:(l.all (fun i=>decide (i<64/\i≠j))&&decide (j<64))=true):¬Of E.A l (E.A j):=by
 rw[Bool.and_eq_true,bg,decide_eq_true_eq] at hl;rintro ⟨i,hi,e⟩;have:=hl.1 i hi;rw[decide_eq_true_eq] at this;exact this.2 (h.inj _ _ hl.2 this.1 e).symm
theorem Env.Ok.ne{E:Env}(h:E.Ok){i j:Nat}(hl:decide (i<64/\j<64/\i≠j)=true):E.A i≠E.A j:=by
 rw[decide_eq_true_eq] at hl;exact fun e=>hl.2.2 (h.inj _ _ hl.1 hl.2.1 e)
theorem Env.Ok.uc{E:Env}(h:E.Ok){l:List Nat}(hl:l.all (fun i=>decide (i<64))=true):¬Of E.A l E.mp/\¬Of E.A l E.mw/\¬Of E.A l E.mb/\¬Of E.A l 0/\¬Of E.A l 2:=by
 rw[bg] at hl;have hl:∀i∈l,i<64:=fun i hi=>of_decide_eq_true (hl i hi)
 exact⟨fun⟨i,hi,e⟩=>h.mp i (hl i hi) e.symm,fun⟨i,hi,e⟩=>h.mw i (hl i hi) e.symm,fun⟨i,hi,e⟩=>h.mb i (hl i hi) e.symm,fun⟨i,hi,e⟩=>h.o0 i (hl i hi) e.symm,fun⟨i,hi,e⟩=>h.o2 i (hl i hi) e.symm⟩
theorem Of.up{A:Nat→Nat}{l l':List Nat}(hl:l.all (fun i=>l'.contains i)=true)(k:Nat)(h:Of A l k):Of A l' k:=by
 rw[bg] at hl;obtain⟨i,hi,e⟩:=h;have:=hl i hi;rw[List.contains_iff_mem] at this;exact⟨i,this,e⟩
theorem Mh(z:Int)(c r v:Nat)(h:MH z=some (c,r,v)):r+v<=63:=by
 unfold MH zt at h
 split at h
 .rename_i hc
  injection h with h;injection h with q1 h;injection h with q2 q3;omega
 .cases h
theorem xe:MH 0=none:=by decide
theorem Env.Ok.K{E:Env}(h:E.Ok):E.K.Ok:=Mo h.gd h.n1 Mh xe h.l1
def iu(n:Nat)(col:Nat→Nat):List Int:=(List.range n).map (fun x=>(col x:Int))
theorem l9(n:Nat)(col:Nat→Nat):(iu n col).length=n:=by simp[iu]
theorem vK(n:Nat)(col:Nat→Nat)(x:Nat)(h:x<n):(iu n col).getD x 0=(col x:Nat):=by
 unfold iu;rw[ao,aR,List.getElem?_range h];rfl
theorem vL(n:Nat)(col:Nat→Nat)(x v:Nat)(h:x<n):(iu n col).set x (v:Int)=iu n (cP col x v):=by
 apply List.ext_getElem?;intro j;rw[bG,l9];unfold iu;by_cases hj:j<n
 .rw[aR,aR,List.getElem?_range hj]
  by_cases e:x=j
  .subst e
   rw[if_pos rfl,if_pos h];show _=some ((cP col x v x:Nat):Int);rw[cS]
  .rw[if_neg e]
   show some ((col j:Nat):Int)=some ((cP col x v j:Nat):Int);rw[du _ _ (Ne.symm e)]
 .have h1:∀f:Nat→Nat,((List.range n).map (fun x=>(f x:Int)))[j]?=none:=fun f=>List.getElem?_eq_none (by simp;omega)
  rw[h1,h1];by_cases e:x=j
  .omega
  .rw[if_neg e]
def mZ(h:Hand):List Value:=[U h.slot,U h.field,.bool h.is]
def dQ(l:List Hand):List Value:=l.flatMap mZ
structure cY(w:World)(E:Env)(ws:List Int)(s:St)(N:Int):Prop where
 cx:Cx w E.c ws
 mem:∀a,a<E.pg*E.pw→s.M a=at' E.bs E.tn ws a
 tb:eP w (E.A 6) (E.A 7) s.es E.gens
 el:s.es.length=E.L
 pn:iV w (E.A 8) (E.A 9) (E.A 10) (E.A 11) s.cs
 cl:s.cs.length=E.n
 tn:Tn w (E.A 12) (E.A 13) (iu E.n s.col) N
 gy:dV w E.i s.q s.eI s.dq s.wa s.we
 b0:∃z:Int,cj w (E.A 20) #[af (aj (E.A 0)),af (aj (E.A 1)),af (aj (E.A 6)),af (aj (E.A 8)),af (aj (E.A 12)),af (aj (E.A 14)),ai (aj (E.A 21)) E.hn E.hn,U s.root,.bool s.act,U z] 207
 b1:cj w (E.A 21) (dQ s.hs).toArray 264
 hl:s.hs.length=E.hn
 de:TabAt 2 Lib.deBruijn64tab w
 d2:2<w.heap.size
theorem ib{S:Nat→Prop}{w w':World}{p g:Nat}{cs:List Int}{m:Int}(h:Tn w p g cs m)(hc:cu S w w')(h1:¬S p)(h2:¬S g):Tn w' p g cs m:=h.bY (hc.block p h.lt.1 h1) (hc.block g h.lt.2 h2)
theorem iQ{S:Nat→Prop}{w w':World}(h:TabAt 2 Lib.deBruijn64tab w)(hz:2<w.heap.size)(hc:cu S w w')(h1:¬S 2):TabAt 2 Lib.deBruijn64tab w':=fun j hj=>(World.cell?_of_block (w:=w) (hc.block 2 hz h1)).trans (h j hj)
theorem rj{E:Env}(hE:E.Ok){l:List Nat}{w w':World}{ws:List Int}(h:Cx w E.c ws)(hc:cu (Of E.A l) w w')(hl:(l.all (fun i=>decide (i<64))&& !l.contains 0&& !l.contains 1&& !l.contains 2)=true):Cx w' E.c ws:=by
 simp only[Bool.and_eq_true,Bool.not_eq_true',List.contains_eq_mem,decide_eq_false_iff_not] at hl;obtain⟨⟨⟨zJ,k0⟩,k1⟩,k2⟩:=hl;obtain⟨f1,f2,f3,f4,f5⟩:=hE.uc zJ;rw[bg] at zJ;have hn:∀j,j<64→j∉l→¬Of E.A l (E.A j):=fun j hj hl ⟨i,hi,e⟩=>hl (by rw[hE.inj j i hj (of_decide_eq_true (zJ i hi)) e];exact hi)
 exact h.bY hc f4 (hn 0 (by omega) k0) (hn 1 (by omega) k1) (hn 2 (by omega) k2) f1 f2 f3
theorem j4{E:Env}(hE:E.Ok){l:List Nat}{w w':World}{q:List Nat}{ow di:Nat→Bool}{wa we:Nat}(h:dV w E.i q ow di wa we)(hc:cu (Of E.A l) w w')(hl:l.all (fun i=>decide (i<64/\¬(14<=i/\i<=19)))=true):dV w' E.i q ow di wa we:=by
 rw[bg] at hl;have hn:∀j,14<=j→j<=19→¬Of E.A l (E.A j):=fun j h1 h2 ⟨i,hi,e⟩=>by
  have h3:=of_decide_eq_true (hl i hi);have:=hE.inj j i (by omega) h3.1 e;omega
 refine h.bY hc (fun k hk=>?_);rcases hk with rfl|rfl|rfl|rfl|rfl|rfl
 .exact hn 14 (by omega) (by omega)
 .exact hn 15 (by omega) (by omega)
 .exact hn 16 (by omega) (by omega)
 .exact hn 17 (by omega) (by omega)
 .exact hn 18 (by omega) (by omega)
 .exact hn 19 (by omega) (by omega)
theorem ou{E:Env}{k:Nat}(h:E.i.own k):Of E.A [14,15,16,17,18,19] k:=by
 rcases h with rfl|rfl|rfl|rfl|rfl|rfl
 .exact⟨14,by simp,rfl⟩
 .exact⟨15,by simp,rfl⟩
 .exact⟨16,by simp,rfl⟩
 .exact⟨17,by simp,rfl⟩
 .exact⟨18,by simp,rfl⟩
 .exact⟨19,by simp,rfl⟩
theorem cY.cA{w w':World}{E:Env}{ws:List Int}{s:St}{N:Int}(h:cY w E ws s N)(hb:Below w.heap.size w w'):cY w' E ws s N:=by
 have hc:cu (fun _=>False) w w':=cu.cD hb;obtain⟨z,b0⟩:=h.b0;exact⟨h.cx.cA hb,h.mem,h.tb.bY hc id id,h.el,h.pn.cA hb,h.cl,ib h.tn hc id id,h.gy.cA hb,⟨z,b0.cA hb⟩,h.b1.cA hb,h.hl,iQ h.de h.d2 hc id,aB h.d2 hb.size⟩
theorem cY.drewN{w:World}{E:Env}{ws:List Int}{s:St}{N:Int}(h:cY w E ws s N)(k:Nat):cY (w.drewN k) E ws s N:=by
 have hc:cu (fun _=>False) w (w.drewN k):=(cu.refl _ w).drewN k;exact h.cA (hc.below (av _) (fun _ h=>h.elim))
theorem cY.OG{w w':World}{E:Env}(hE:E.Ok){ws:List Int}{s:St}{N:Int}(h:cY w E ws s N)(hc:cu (Of E.A [12,13,14,15,16,17,18,19]) w w'){col:Nat→Nat}{q:List Nat}{eI dq:Nat→Bool}{wa we:Nat}
 (ht:Tn w' (E.A 12) (E.A 13) (iu E.n col) N)(hg:dV w' E.i q eI dq wa we):cY w' E ws {s with col:=col,q:=q,eI:=eI,dq:=dq,wa:=wa,we:=we} N:=by
 obtain⟨z,b0⟩:=h.b0;obtain⟨-,-,-,-,f5⟩:=hE.uc (l:=[12,13,14,15,16,17,18,19]) (by decide);exact⟨rj hE h.cx hc (by decide),h.mem,h.tb.bY hc (hE.no (by decide)) (hE.no (by decide)),h.el,h.pn.bY hc (hE.no (by decide)) (hE.no (by decide)) (hE.no (by decide)) (hE.no (by decide)),h.cl,ht,hg,⟨z,b0.bY hc (hE.no (by decide))⟩,h.b1.bY hc (hE.no (by decide)),h.hl,iQ h.de h.d2 hc f5,aB h.d2 hc.size⟩
theorem cY.own{w w':World}{E:Env}(hE:E.Ok){ws:List Int}{s:St}{N:Int}(h:cY w E ws s N)(hc:cu (Of E.A [20,21]) w w'){root:Nat}{act:Bool}{hs:List Hand}
 (b0:∃z:Int,cj w' (E.A 20) #[af (aj (E.A 0)),af (aj (E.A 1)),af (aj (E.A 6)),af (aj (E.A 8)),af (aj (E.A 12)),af (aj (E.A 14)),ai (aj (E.A 21)) E.hn E.hn,U root,.bool act,U z] 207)
 (b1:cj w' (E.A 21) (dQ hs).toArray 264)(hl:hs.length=E.hn):cY w' E ws {s with root:=root,act:=act,hs:=hs} N:=by
 obtain⟨-,-,-,-,f5⟩:=hE.uc (l:=[20,21]) (by decide);exact⟨rj hE h.cx hc (by decide),h.mem,h.tb.bY hc (hE.no (by decide)) (hE.no (by decide)),h.el,h.pn.bY hc (hE.no (by decide)) (hE.no (by decide)) (hE.no (by decide)) (hE.no (by decide)),h.cl,ib h.tn hc (hE.no (by decide)) (hE.no (by decide)),j4 hE h.gy hc (by decide),b0,b1,hl,iQ h.de h.d2 hc f5,aB h.d2 hc.size⟩
end Mk
namespace Mk
open Go.RowKit Go.bZ Go.Gc Sl Mm Hd Bd Gy Bt Tb Pn
open Ti (Tn)
theorem cC{w:World}{E:Env}{ws:List Int}{s:St}{N:Int}(h:cY w E ws s N):ak 127 #[af (aj (E.A 20))] w fun e w'=>e=ae (.bool false)/\w=w':=by
 obtain⟨z,b0⟩:=h.b0;have c5:w.cell? (aj (E.A 20) 5)=some (af (aj (E.A 14))):=b0.cell 5;clear h b0;generalize E.A 20=q at *;go_enter func127,ntmps127;go_wp2_with fail;go_ret;exact⟨rfl,rfl⟩
theorem gJ{w:World}{E:Env}{ws:List Int}{s:St}{N:Int}(h:cY w E ws s N):ak 165 #[af (aj (E.A 20))] w fun e w'=>e=ae (.bool s.act)/\w=w':=by
 have d:=cC h;obtain⟨z,b0⟩:=h.b0;have c8:w.cell? (aj (E.A 20) 8)=some (.bool s.act):=b0.cell 8;clear h b0;generalize E.A 20=q at *;generalize s.act=a at *;go_enter func165,ntmps165;go_wp2_with (go_at_call 127;refine d.mono ?_;rintro e w' ⟨rfl,rfl⟩)
 go_ret;exact⟨rfl,rfl⟩
theorem ud{E:Env}{w:World}(i:Nat)(v:Value):cu (Of E.A [20]) w (w.setCell (aj (E.A 20) i) v):=(cu.refl _ w).stored (.inl ⟨20,by simp,rfl⟩) i v
theorem zK{w:World}{E:Env}(hE:E.Ok){ws:List Int}{s:St}{N:Int}(h:cY w E ws s N)(b:Bool)(hb:(s.act==b)=false):ak 312 #[af (aj (E.A 20)),.bool b] w fun e w'=>e=ae (U 0)/\cY w' E ws {s with act:=b} N/\cu (Of E.A [20]) w w':=by
 have d:=cC h;have HP:Hid (cY (w.setCell (aj (E.A 20) 8) (.bool b)) E ws {s with act:=b} N):=bU (by
  obtain⟨z,b0⟩:=h.b0;have hc:=(ud (E:=E) (w:=w) 8 (.bool b)).up (T:=Of E.A [20,21]) (Of.up (by decide));exact h.own hE hc (root:=s.root) (act:=b) (hs:=s.hs) ⟨z,b0.set 8 (.bool b)⟩ (h.b1.other (hE.ne (by decide)) 8 _) h.hl)
 have HC:=bU (ud (E:=E) (w:=w) 8 (.bool b));obtain⟨z,b0⟩:=h.b0;have c8:w.cell? (aj (E.A 20) 8)=some (.bool s.act):=b0.cell 8;have f8:=b0.cE 8;clear h b0;obtain⟨a,ha⟩:=al (s.act);rw[ha] at c8 hb;clear ha;obtain⟨q,hq⟩:=al (E.A 20);rw[hq] at c8 f8 d HP HC ⊢;clear hq;go_enter func312,ntmps312;go_wp2_with (go_at_call 127;refine d.mono ?_;rintro e w' ⟨rfl,rfl⟩)
 go_ret;exact⟨rfl,HP.out,HC.out⟩
theorem ue{w:World}{E:Env}(hE:E.Ok){ws:List Int}{s:St}{N:Int}(h:cY w E ws s N)(hb:s.act=true):ak 294 #[af (aj (E.A 20))] w fun e w'=>e=ae (U 0)/\cY w' E ws {s with act:=false} N/\cu (Of E.A [20]) w w':=by
 have d:=zK hE h false (by rw[hb];rfl);clear h;generalize E.A 20=q at *;go_enter func294,ntmps294;go_wp2_with (go_at_call 312;refine d.mono ?_;rintro e w' ⟨rfl,hp,hc⟩)
 go_ret;exact⟨rfl,hp,hc⟩
theorem mM{A:Nat→Nat}{w w':World}{i j:Nat}(h:Ti.eQ w w' (A i) (A j)){l:List Nat}(hi:i∈l)(hj:j∈l):cu (Of A l) w w':=
 ⟨h.os,h.tape,h.output,h.size,fun k hk hs=>h.block k hk (fun e=>hs ⟨i,hi,e⟩) (fun e=>hs ⟨j,hj,e⟩)⟩
theorem ox{w:World}{E:Env}(hE:E.Ok){ws:List Int}{s:St}{N:Int}(h:cY w E ws s N){x:Nat}(hx:x<E.n)(hq:s.q.length<=E.dv):ak 261 #[af (aj (E.A 20)),U x] w fun e w'=>e=ae (.tuple #[])/\cY w' E ws (fO E.K s x) N/\cu (Of E.A [12,13,14,15,16,17,18,19]) w w':=by
 have dS:=Ti.xU w (E.A 12) (E.A 13) (iu E.n s.col) N x h.tn;have hin:0<=(x:Int)/\(x:Int)<(iu E.n s.col).length:=by rw[l9];omega
 have e2:Ti.s9 (iu E.n s.col).length x=0:=by unfold Ti.s9;rw[if_pos hin]
 have e1:Ti.IQ (iu E.n s.col) x=(s.col x==0):=by
  unfold Ti.IQ;rw[aw hin,Bool.true_and,aG,vK _ _ _ hx,Bool.eq_iff_iff,beq_iff_eq,beq_iff_eq];omega
 have e3:s.col x=0→Ti.B9 (iu E.n s.col) x=iu E.n (cP s.col x 1):=fun h0=>by
  unfold Ti.B9;rw[if_pos (by rw[e1,h0];rfl),aG];exact vL E.n s.col x 1 hx
 obtain⟨k,r,sx⟩:=gq hE.gd hx;obtain⟨z,b0⟩:=h.b0;have c4:w.cell? (aj (E.A 20) 4)=some (af (aj (E.A 12))):=b0.cell 4;have HM:Hid (∀W,s.col x=0→Tn W (E.A 12) (E.A 13) (Ti.B9 (iu E.n s.col) x) N→Ti.eQ w W (E.A 12) (E.A 13)→W.cell? (aj (E.A 20) 5)=some (af (aj (E.A 14)))/\ak 290 #[af (aj (E.A 14)),U x] W fun e w'=>e=ae (U 0)/\cY w' E ws (fO E.K s x) N/\cu (Of E.A [12,13,14,15,16,17,18,19]) w w'):=bU (fun W h0 ht ho=>by
  have hc:cu (Of E.A [12,13]) w W:=mM ho (by simp) (by simp);have g1:=j4 hE h.gy hc (by decide);have p1:=h.cx.pl.bY hc (hE.no (by decide)) (hE.no (by decide));refine⟨(b0.bY hc (hE.no (by decide))).cell 5,?_⟩;rw[e3 h0] at ht;by_cases hl:s.q.length=E.dv
  .refine(EV g1 p1 sx hx hl).mono ?_
   rintro e w2 ⟨rfl,hg,hk⟩;have hk:=hk.up (fun k hk=>ou hk);have h2:cu (Of E.A [12,13,14,15,16,17,18,19]) w w2:=(hc.up (Of.up (by decide))).trans (hk.up (Of.up (by decide)));refine⟨rfl,?_,h2⟩;have:=h.OG hE h2 (ib ht hk (hE.no (by decide)) (hE.no (by decide))) hg;unfold fO;rw[if_pos h0,if_pos (show s.q.length=E.K.dv from hl)];exact this
  .refine(EW g1 p1 sx hx (Nat.lt_of_le_of_ne hq hl)).mono ?_
   rintro e w2 ⟨rfl,hg,hk⟩;have hk:=hk.up (fun k hk=>ou hk);have h2:cu (Of E.A [12,13,14,15,16,17,18,19]) w w2:=(hc.up (Of.up (by decide))).trans (hk.up (Of.up (by decide)));refine⟨rfl,?_,h2⟩;have:=h.OG hE h2 (ib ht hk (hE.no (by decide)) (hE.no (by decide))) hg;unfold fO;rw[if_pos h0,if_neg (show ¬s.q.length=E.K.dv from hl)];exact this)
 have HN:Hid (∀W,¬s.col x=0→Tn W (E.A 12) (E.A 13) (Ti.B9 (iu E.n s.col) x) N→Ti.eQ w W (E.A 12) (E.A 13)→cY W E ws (fO E.K s x) N/\cu (Of E.A [12,13,14,15,16,17,18,19]) w W):=bU (fun W h0 ht ho=>by
  have hc:cu (Of E.A [12,13,14,15,16,17,18,19]) w W:=mM ho (by simp) (by simp);have g1:=j4 hE h.gy (mM (l:=[12,13]) ho (by simp) (by simp)) (by decide);have e4:Ti.B9 (iu E.n s.col) x=iu E.n s.col:=by
   unfold Ti.B9;rw[if_neg (by rw[e1];simpa using h0)]
  rw[e4] at ht;refine⟨?_,hc⟩;unfold fO;rw[if_neg h0];exact h.OG hE hc ht g1)
 rw[e1,e2] at dS;clear h b0 hin e1 e2 e3 sx;obtain⟨q,td⟩:=al (E.A 20);obtain⟨R7,FM⟩:=al (E.A 12);obtain⟨PU,OH⟩:=al (E.A 14);rw[td] at c4 HM ⊢;rw[FM] at c4 dS HM HN;rw[OH] at HM;clear td FM OH;by_cases h0:s.col x=0
 .rw[h0] at dS
  go_enter func261,ntmps261;go_wp2_with (first|(go_at_call 289;(with_reducible refine dS.mono ?_);rintro e w2 ⟨rfl,ht,ho⟩;obtain⟨c5,dP⟩:=HM.out w2 h0 ht ho;clear ht ho)|(go_at_call 290;(with_reducible refine dP.mono ?_);rintro e w3 ⟨rfl,hp,hc⟩))
  go_end0
  exact⟨rfl,hp,hc⟩
 .rw[show(s.col x==0)=false by simpa using h0] at dS
  go_enter func261,ntmps261;go_wp2_with (go_at_call 289;(with_reducible refine dS.mono ?_);rintro e w2 ⟨rfl,ht,ho⟩;obtain⟨hp,hc⟩:=HN.out w2 h0 ht ho;clear ht ho)
  go_end0
  exact⟨rfl,hp,hc⟩
end Mk
end Go.Proofs.YtgblmelijlgimaaGreatDoor
