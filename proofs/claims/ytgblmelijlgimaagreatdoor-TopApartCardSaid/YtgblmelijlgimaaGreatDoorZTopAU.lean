/- Parts of the proof of TopApart. -/
import Derived.Test.YtgblmelijlgimaaGreatDoorZTopAT
set_option maxRecDepth 100000
namespace Go.Proofs.YtgblmelijlgimaaGreatDoor
open Go.Proofs.Tryz
namespace Mk
open Go.RowKit Go.bZ Go.Gc Sl Mm Hd Bd Gy Bt Tb Pn
open Ti (Tn)
attribute [local irreducible] wpStill in
set_option maxHeartbeats 400000 in
theorem tj{w:World}{E:Env}(hE:E.Ok){ws:List Int}{s:St}{N:Int}(h:cY w E ws s N)(ha:s.act=true){i:Nat}{k:Hand}(he:s.hs[i]?=some k)(hk:k.is=false){b:Bool}{Q:St→Prop}{l:List Nat}(hl:l.all (fun i=>mU.contains i)=true)
 (DF:∀W,Below w.heap.size w W→ak 214 #[af (aj (E.A 20)),af (aj (E.A 21) (i*3))] W fun e w'=>e=ae (.bool b)/\∃t,Q t/\cY w' E ws t N/\cu (Of E.A l) W w'):
  ak 131 #[af (aj (E.A 20)),U i,ab 2] w fun e w'=>e=ae (.bool b)/\∃t,Q t/\cY w' E ws t N/\cu (Of E.A mU) w w':=by
 have dA:=gJ h;rw[ha] at dA;have hi:i<E.hn:=by rw[←h.hl];exact(au.1 he).1
 have hh:=hE.h2;obtain⟨z0,b0⟩:=h.b0;have c6:w.cell? (aj (E.A 20) 6)=some (ai (aj (E.A 21)) E.hn E.hn):=b0.cell 6;clear b0;have HM:=bU h;have DB:=bU (iR h false false (.func 214));have DA:=bU (jt h false false (.func 214));have s1:∀(a:Addr) (W:World),(store a .nilFunc).run prog W=stored prog W a .nilFunc .plain:=fun a W=>run_store _ _ _ _ _ rfl
 have s2:∀(a:Addr) (W:World) (f:Fn) (x y:Array Value),(store a (.func f x y)).run prog W=stored prog W a (.func f x y) .plain:=fun a W f x y=>run_store _ _ _ _ _ rfl
 have x1:∀W:World,(Instr.index 268 (.agg #[.bool false,.bool false,.nilFunc,.bool false,.bool true,.func (.func 213) #[] #[],.bool false,.bool false,.func (.func 214) #[] #[],.bool true,.bool false,.func (.func 217) #[] #[],.bool false,.bool false,.func (.func 218) #[] #[]]) (ab 2)).run prog W=.ok (.agg #[.bool false,.bool false,.func (.func 214) #[] #[]]) W:=fun _=>by kernel_rfl
 clear h;go_enter func131,ntmps131
 go_upto_region 3 with(go_at_call 165;(with_reducible refine dA.mono ?_);rintro e w2 ⟨rfl,rfl⟩)
 go_cut [7,8] (fun p q wx=>p=af (aj (E.A 21) (i*3))/\∃bx,q=af (aj bx)/\Hid (Kd w wx E ws s N bx false false (.func 214)))
 case first=>
  go_wp2_with fail;go_region_held3 (fun W=>W.cell? (aj (E.A 20) 6)=some (ai (aj (E.A 21)) E.hn E.hn)) (first|exact y6|exact z6|go_keep)
   (first|(go_at_call 166;(with_reducible refine DA.out.mono ?_);rintro e w2 ⟨rfl,y6,⟨q0,q1,q2⟩,⟨f0,f1,f2⟩,z6,hS⟩)|(go_at_call 166;(with_reducible refine DB.out.mono ?_);rintro e w2 ⟨rfl,y6,hS⟩))
  all_goals (go_wp2_with fail;go_meet;exact⟨rfl,_,rfl,hS⟩)
 case rest=>
  obtain⟨rfl,bx,rfl,hS⟩:=hcut;have k0:wc.cell? (aj bx)=some (.bool false):=hS.out.bk.cell 0;have k1:wc.cell? (aj bx 1)=some (.bool false):=hS.out.bk.cell 1;have k2:wc.cell? (aj bx 2)=some (.func (.func 214) #[] #[]):=hS.out.bk.cell 2;have k3:=(hS.out.mp.fu he).2.2;rw[hk] at k3;have Gd:Hid (∀W,Below wc.heap.size wc W→ak 214 #[af (aj (E.A 20)),af (aj (E.A 21) (i*3))] W fun e w'=>e=ae (.bool b)/\(∃z:Int,w'.cell? (aj (E.A 20) 9)=some (U z)/\w'.frozen? (aj (E.A 20) 9)=false/\Hid (∀n y,∃t,Q t/\cY ((w'.drewN n).setCell (aj (E.A 20) 9) (U y)) E ws t N/\cu (Of E.A mU) w ((w'.drewN n).setCell (aj (E.A 20) 9) (U y))))/\Hid (∀n,∃t,Q t/\cY (w'.drewN n) E ws t N/\cu (Of E.A mU) w (w'.drewN n))):=bU (fun W hW=>by
   have hb:=fj hS.out.ch hW;refine(DF W hb).mono ?_;rintro e w' ⟨rfl,t,hQ,hp,hc⟩;have hC:cu (Of E.A mU) w w':=(cu.cD hb).trans (hc.up (Of.up hl));obtain⟨z,a1,a2,-⟩:=hp.step hE;refine⟨rfl,⟨z,a1,a2,bU (fun n y=>?_)⟩,bU (fun n=>⟨t,hQ,hp.drewN n,hC.drewN n⟩)⟩;obtain⟨z2,-,-,a3⟩:=(hp.drewN n).step hE;exact⟨t,hQ,(a3 y).out.1,(hC.drewN n).trans ((a3 y).out.2.up (Of.up (by decide)))⟩)
  clear DF DA DB x1 s1 s2 dA HM c6;go_wp2_with fail
  go_still_tail 17,(by kernel_rfl)
  change wpList _ _ _ _ _ wc.drew
  clear k0 k1 k2 k3
  cases b
  .go_wp2_with (go_at_call 214;(with_reducible refine(Gd.out _ (bd (bV _ _))).mono ?_);rintro e w3 ⟨rfl,-,hN⟩)
   go_ret;exact⟨rfl,hN.out 0⟩
  .go_wp2_with (go_at_call 214;(with_reducible refine(Gd.out _ (bd (bV _ _))).mono ?_);rintro e w3 ⟨rfl,⟨z,a1,a2,hZ⟩,-⟩)
   go_ret;exact⟨rfl,hZ.out 0 _⟩
attribute [local irreducible] wpStill in
set_option maxHeartbeats 400000 in
theorem CF{w:World}{E:Env}(hE:E.Ok){ws:List Int}{s:St}{N:Int}(h:cY w E ws s N)(ha:s.act=true){i:Nat}{k:Hand}(he:s.hs[i]?=some k)(hk:k.is=true){b:Bool}{Q:St→Prop}{l:List Nat}(hl:l.all (fun i=>mU.contains i)=true)
 (DF:∀W,Below w.heap.size w W→ak 217 #[af (aj (E.A 20)),af (aj (E.A 21) (i*3))] W fun e w'=>e=ae (.bool b)/\∃t,Q t/\cY w' E ws t N/\cu (Of E.A l) W w'):
  ak 131 #[af (aj (E.A 20)),U i,ab 3] w fun e w'=>e=ae (.bool b)/\∃t,Q t/\cY w' E ws t N/\cu (Of E.A mU) w w':=by
 have dA:=gJ h;rw[ha] at dA;have hi:i<E.hn:=by rw[←h.hl];exact(au.1 he).1
 have hh:=hE.h2;obtain⟨z0,b0⟩:=h.b0;have c6:w.cell? (aj (E.A 20) 6)=some (ai (aj (E.A 21)) E.hn E.hn):=b0.cell 6;clear b0;have HM:=bU h;have DB:=bU (iR h true false (.func 217));have DA:=bU (jt h true false (.func 217));have s1:∀(a:Addr) (W:World),(store a .nilFunc).run prog W=stored prog W a .nilFunc .plain:=fun a W=>run_store _ _ _ _ _ rfl
 have s2:∀(a:Addr) (W:World) (f:Fn) (x y:Array Value),(store a (.func f x y)).run prog W=stored prog W a (.func f x y) .plain:=fun a W f x y=>run_store _ _ _ _ _ rfl
 have x1:∀W:World,(Instr.index 268 (.agg #[.bool false,.bool false,.nilFunc,.bool false,.bool true,.func (.func 213) #[] #[],.bool false,.bool false,.func (.func 214) #[] #[],.bool true,.bool false,.func (.func 217) #[] #[],.bool false,.bool false,.func (.func 218) #[] #[]]) (ab 3)).run prog W=.ok (.agg #[.bool true,.bool false,.func (.func 217) #[] #[]]) W:=fun _=>by kernel_rfl
 clear h;go_enter func131,ntmps131
 go_upto_region 3 with(go_at_call 165;(with_reducible refine dA.mono ?_);rintro e w2 ⟨rfl,rfl⟩)
 go_cut [7,8] (fun p q wx=>p=af (aj (E.A 21) (i*3))/\∃bx,q=af (aj bx)/\Hid (Kd w wx E ws s N bx true false (.func 217)))
 case first=>
  go_wp2_with fail;go_region_held3 (fun W=>W.cell? (aj (E.A 20) 6)=some (ai (aj (E.A 21)) E.hn E.hn)) (first|exact y6|exact z6|go_keep)
   (first|(go_at_call 166;(with_reducible refine DA.out.mono ?_);rintro e w2 ⟨rfl,y6,⟨q0,q1,q2⟩,⟨f0,f1,f2⟩,z6,hS⟩)|(go_at_call 166;(with_reducible refine DB.out.mono ?_);rintro e w2 ⟨rfl,y6,hS⟩))
  all_goals (go_wp2_with fail;go_meet;exact⟨rfl,_,rfl,hS⟩)
 case rest=>
  obtain⟨rfl,bx,rfl,hS⟩:=hcut;have k0:wc.cell? (aj bx)=some (.bool true):=hS.out.bk.cell 0;have k1:wc.cell? (aj bx 1)=some (.bool false):=hS.out.bk.cell 1;have k2:wc.cell? (aj bx 2)=some (.func (.func 217) #[] #[]):=hS.out.bk.cell 2;have k3:=(hS.out.mp.fu he).2.2;rw[hk] at k3;have Gd:Hid (∀W,Below wc.heap.size wc W→ak 217 #[af (aj (E.A 20)),af (aj (E.A 21) (i*3))] W fun e w'=>e=ae (.bool b)/\(∃z:Int,w'.cell? (aj (E.A 20) 9)=some (U z)/\w'.frozen? (aj (E.A 20) 9)=false/\Hid (∀n y,∃t,Q t/\cY ((w'.drewN n).setCell (aj (E.A 20) 9) (U y)) E ws t N/\cu (Of E.A mU) w ((w'.drewN n).setCell (aj (E.A 20) 9) (U y))))/\Hid (∀n,∃t,Q t/\cY (w'.drewN n) E ws t N/\cu (Of E.A mU) w (w'.drewN n))):=bU (fun W hW=>by
   have hb:=fj hS.out.ch hW;refine(DF W hb).mono ?_;rintro e w' ⟨rfl,t,hQ,hp,hc⟩;have hC:cu (Of E.A mU) w w':=(cu.cD hb).trans (hc.up (Of.up hl));obtain⟨z,a1,a2,-⟩:=hp.step hE;refine⟨rfl,⟨z,a1,a2,bU (fun n y=>?_)⟩,bU (fun n=>⟨t,hQ,hp.drewN n,hC.drewN n⟩)⟩;obtain⟨z2,-,-,a3⟩:=(hp.drewN n).step hE;exact⟨t,hQ,(a3 y).out.1,(hC.drewN n).trans ((a3 y).out.2.up (Of.up (by decide)))⟩)
  clear DF DA DB x1 s1 s2 dA HM c6;go_wp2_with fail
  go_still_tail 17,(by kernel_rfl)
  change wpList _ _ _ _ _ wc.drew
  clear k0 k1 k2 k3
  cases b
  .go_wp2_with (go_at_call 217;(with_reducible refine(Gd.out _ (bd (bV _ _))).mono ?_);rintro e w3 ⟨rfl,-,hN⟩)
   go_ret;exact⟨rfl,hN.out 0⟩
  .go_wp2_with (go_at_call 217;(with_reducible refine(Gd.out _ (bd (bV _ _))).mono ?_);rintro e w3 ⟨rfl,⟨z,a1,a2,hZ⟩,-⟩)
   go_ret;exact⟨rfl,hZ.out 0 _⟩
attribute [local irreducible] wpStill in
set_option maxHeartbeats 400000 in
theorem oY{w:World}{E:Env}(hE:E.Ok){ws:List Int}{s:St}{N:Int}(h:cY w E ws s N)(ha:s.act=true){i:Nat}{k:Hand}(he:s.hs[i]?=some k)(hk:k.is=false){b:Bool}{Q:St→Prop}{l:List Nat}(hl:l.all (fun i=>mU.contains i)=true)
 (DF:∀W,Below w.heap.size w W→ak 218 #[af (aj (E.A 20)),af (aj (E.A 21) (i*3))] W fun e w'=>e=ae (.bool b)/\∃t,Q t/\cY w' E ws t N/\cu (Of E.A l) W w'):
  ak 131 #[af (aj (E.A 20)),U i,ab 4] w fun e w'=>e=ae (.bool b)/\∃t,Q t/\cY w' E ws t N/\cu (Of E.A mU) w w':=by
 have dA:=gJ h;rw[ha] at dA;have hi:i<E.hn:=by rw[←h.hl];exact(au.1 he).1
 have hh:=hE.h2;obtain⟨z0,b0⟩:=h.b0;have c6:w.cell? (aj (E.A 20) 6)=some (ai (aj (E.A 21)) E.hn E.hn):=b0.cell 6;clear b0;have HM:=bU h;have DB:=bU (iR h false false (.func 218));have DA:=bU (jt h false false (.func 218));have s1:∀(a:Addr) (W:World),(store a .nilFunc).run prog W=stored prog W a .nilFunc .plain:=fun a W=>run_store _ _ _ _ _ rfl
 have s2:∀(a:Addr) (W:World) (f:Fn) (x y:Array Value),(store a (.func f x y)).run prog W=stored prog W a (.func f x y) .plain:=fun a W f x y=>run_store _ _ _ _ _ rfl
 have x1:∀W:World,(Instr.index 268 (.agg #[.bool false,.bool false,.nilFunc,.bool false,.bool true,.func (.func 213) #[] #[],.bool false,.bool false,.func (.func 214) #[] #[],.bool true,.bool false,.func (.func 217) #[] #[],.bool false,.bool false,.func (.func 218) #[] #[]]) (ab 4)).run prog W=.ok (.agg #[.bool false,.bool false,.func (.func 218) #[] #[]]) W:=fun _=>by kernel_rfl
 clear h;go_enter func131,ntmps131
 go_upto_region 3 with(go_at_call 165;(with_reducible refine dA.mono ?_);rintro e w2 ⟨rfl,rfl⟩)
 go_cut [7,8] (fun p q wx=>p=af (aj (E.A 21) (i*3))/\∃bx,q=af (aj bx)/\Hid (Kd w wx E ws s N bx false false (.func 218)))
 case first=>
  go_wp2_with fail;go_region_held3 (fun W=>W.cell? (aj (E.A 20) 6)=some (ai (aj (E.A 21)) E.hn E.hn)) (first|exact y6|exact z6|go_keep)
   (first|(go_at_call 166;(with_reducible refine DA.out.mono ?_);rintro e w2 ⟨rfl,y6,⟨q0,q1,q2⟩,⟨f0,f1,f2⟩,z6,hS⟩)|(go_at_call 166;(with_reducible refine DB.out.mono ?_);rintro e w2 ⟨rfl,y6,hS⟩))
  all_goals (go_wp2_with fail;go_meet;exact⟨rfl,_,rfl,hS⟩)
 case rest=>
  obtain⟨rfl,bx,rfl,hS⟩:=hcut;have k0:wc.cell? (aj bx)=some (.bool false):=hS.out.bk.cell 0;have k1:wc.cell? (aj bx 1)=some (.bool false):=hS.out.bk.cell 1;have k2:wc.cell? (aj bx 2)=some (.func (.func 218) #[] #[]):=hS.out.bk.cell 2;have k3:=(hS.out.mp.fu he).2.2;rw[hk] at k3;have Gd:Hid (∀W,Below wc.heap.size wc W→ak 218 #[af (aj (E.A 20)),af (aj (E.A 21) (i*3))] W fun e w'=>e=ae (.bool b)/\(∃z:Int,w'.cell? (aj (E.A 20) 9)=some (U z)/\w'.frozen? (aj (E.A 20) 9)=false/\Hid (∀n y,∃t,Q t/\cY ((w'.drewN n).setCell (aj (E.A 20) 9) (U y)) E ws t N/\cu (Of E.A mU) w ((w'.drewN n).setCell (aj (E.A 20) 9) (U y))))/\Hid (∀n,∃t,Q t/\cY (w'.drewN n) E ws t N/\cu (Of E.A mU) w (w'.drewN n))):=bU (fun W hW=>by
   have hb:=fj hS.out.ch hW;refine(DF W hb).mono ?_;rintro e w' ⟨rfl,t,hQ,hp,hc⟩;have hC:cu (Of E.A mU) w w':=(cu.cD hb).trans (hc.up (Of.up hl));obtain⟨z,a1,a2,-⟩:=hp.step hE;refine⟨rfl,⟨z,a1,a2,bU (fun n y=>?_)⟩,bU (fun n=>⟨t,hQ,hp.drewN n,hC.drewN n⟩)⟩;obtain⟨z2,-,-,a3⟩:=(hp.drewN n).step hE;exact⟨t,hQ,(a3 y).out.1,(hC.drewN n).trans ((a3 y).out.2.up (Of.up (by decide)))⟩)
  clear DF DA DB x1 s1 s2 dA HM c6;go_wp2_with fail
  go_still_tail 17,(by kernel_rfl)
  change wpList _ _ _ _ _ wc.drew
  clear k0 k1 k2 k3
  cases b
  .go_wp2_with (go_at_call 218;(with_reducible refine(Gd.out _ (bd (bV _ _))).mono ?_);rintro e w3 ⟨rfl,-,hN⟩)
   go_ret;exact⟨rfl,hN.out 0⟩
  .go_wp2_with (go_at_call 218;(with_reducible refine(Gd.out _ (bd (bV _ _))).mono ?_);rintro e w3 ⟨rfl,⟨z,a1,a2,hZ⟩,-⟩)
   go_ret;exact⟨rfl,hZ.out 0 _⟩
end Mk
namespace Mk
open Go.RowKit Go.bZ Go.Gc Sl Mm Hd Bd Gy Bt Tb Pn
open Ti (Tn)
theorem Ge{w:World}{E:Env}(hE:E.Ok){ws:List Int}{s:St}{N:Int}(h:cY w E ws s N)(ha:s.act=true){i:Nat}(hi:i<E.hn){z:Int}(hz:z<1\/4<z)(iX:0<=z)(jm:z<256):
  ak 131 #[af (aj (E.A 20)),U i,ab z] w fun e w'=>e=ae (.bool false)/\w=w':=by
 have dA:=gJ h;rw[ha] at dA;have hh:=hE.h2;obtain⟨z0,b0⟩:=h.b0;have c6:w.cell? (aj (E.A 20) 6)=some (ai (aj (E.A 21)) E.hn E.hn):=b0.cell 6;clear b0 h;rcases hz with hz|hz
 .have e1:decide (z<1)=true:=aw hz
  go_enter func131,ntmps131;go_wp2_with (go_at_call 165;(with_reducible refine dA.mono ?_);rintro e w2 ⟨rfl,rfl⟩)
  go_ret;exact⟨rfl,rfl⟩
 .have e1:decide (z<1)=false:=az (by omega)
  have e2:decide (4<z)=true:=aw hz;go_enter func131,ntmps131;go_wp2_with (go_at_call 165;(with_reducible refine dA.mono ?_);rintro e w2 ⟨rfl,rfl⟩)
  go_ret;exact⟨rfl,rfl⟩
attribute [local irreducible] wpStill in
set_option maxHeartbeats 4000000 in
theorem vU{w:World}{E:Env}(hE:E.Ok){ws:List Int}{s:St}{N:Int}(h:cY w E ws s N)(ha:s.act=true){i:Nat}{k:Hand}(he:s.hs[i]?=some k)(hk:k.is=true):
  ak 131 #[af (aj (E.A 20)),U i,ab 2] w fun e w'=>e=ae (.bool false)/\Below w.heap.size w w':=by
 have dA:=gJ h;rw[ha] at dA;have hi:i<E.hn:=by rw[←h.hl];exact(au.1 he).1
 have hh:=hE.h2;obtain⟨z0,b0⟩:=h.b0;have c6:w.cell? (aj (E.A 20) 6)=some (ai (aj (E.A 21)) E.hn E.hn):=b0.cell 6;clear b0;have HM:=bU h;have DB:=bU (iR h false false (.func 214));have DA:=bU (jt h false false (.func 214));have s1:∀(a:Addr) (W:World),(store a .nilFunc).run prog W=stored prog W a .nilFunc .plain:=fun a W=>run_store _ _ _ _ _ rfl
 have s2:∀(a:Addr) (W:World) (f:Fn) (x y:Array Value),(store a (.func f x y)).run prog W=stored prog W a (.func f x y) .plain:=fun a W f x y=>run_store _ _ _ _ _ rfl
 have x1:∀W:World,(Instr.index 268 (.agg #[.bool false,.bool false,.nilFunc,.bool false,.bool true,.func (.func 213) #[] #[],.bool false,.bool false,.func (.func 214) #[] #[],.bool true,.bool false,.func (.func 217) #[] #[],.bool false,.bool false,.func (.func 218) #[] #[]]) (ab 2)).run prog W=.ok (.agg #[.bool false,.bool false,.func (.func 214) #[] #[]]) W:=fun _=>by kernel_rfl
 clear h;go_enter func131,ntmps131
 go_upto_region 3 with(go_at_call 165;(with_reducible refine dA.mono ?_);rintro e w2 ⟨rfl,rfl⟩)
 go_cut [7,8] (fun p q wx=>p=af (aj (E.A 21) (i*3))/\∃bx,q=af (aj bx)/\Hid (Kd w wx E ws s N bx false false (.func 214)))
 case first=>
  go_wp2_with fail;go_region_held3 (fun W=>W.cell? (aj (E.A 20) 6)=some (ai (aj (E.A 21)) E.hn E.hn)) (first|exact y6|exact z6|go_keep)
   (first|(go_at_call 166;(with_reducible refine DA.out.mono ?_);rintro e w2 ⟨rfl,y6,⟨q0,q1,q2⟩,⟨f0,f1,f2⟩,z6,hS⟩)|(go_at_call 166;(with_reducible refine DB.out.mono ?_);rintro e w2 ⟨rfl,y6,hS⟩))
  all_goals (go_wp2_with fail;go_meet;exact⟨rfl,_,rfl,hS⟩)
 case rest=>
  obtain⟨rfl,bx,rfl,hS⟩:=hcut;have k0:wc.cell? (aj bx)=some (.bool false):=hS.out.bk.cell 0;have k1:wc.cell? (aj bx 1)=some (.bool false):=hS.out.bk.cell 1;have k2:wc.cell? (aj bx 2)=some (.func (.func 214) #[] #[]):=hS.out.bk.cell 2;have k3:=(hS.out.mp.fu he).2.2;rw[hk] at k3;have HB:=bU hS.out.ch;clear DA DB x1 s1 s2 dA HM c6 hS;go_wp2_with fail
  go_still (by kernel_rfl)
  go_wp2_with fail;go_ret;exact⟨rfl,bd HB.out⟩
attribute [local irreducible] wpStill in
set_option maxHeartbeats 4000000 in
theorem vV{w:World}{E:Env}(hE:E.Ok){ws:List Int}{s:St}{N:Int}(h:cY w E ws s N)(ha:s.act=true){i:Nat}{k:Hand}(he:s.hs[i]?=some k)(hk:k.is=false):
  ak 131 #[af (aj (E.A 20)),U i,ab 3] w fun e w'=>e=ae (.bool false)/\Below w.heap.size w w':=by
 have dA:=gJ h;rw[ha] at dA;have hi:i<E.hn:=by rw[←h.hl];exact(au.1 he).1
 have hh:=hE.h2;obtain⟨z0,b0⟩:=h.b0;have c6:w.cell? (aj (E.A 20) 6)=some (ai (aj (E.A 21)) E.hn E.hn):=b0.cell 6;clear b0;have HM:=bU h;have DB:=bU (iR h true false (.func 217));have DA:=bU (jt h true false (.func 217));have s1:∀(a:Addr) (W:World),(store a .nilFunc).run prog W=stored prog W a .nilFunc .plain:=fun a W=>run_store _ _ _ _ _ rfl
 have s2:∀(a:Addr) (W:World) (f:Fn) (x y:Array Value),(store a (.func f x y)).run prog W=stored prog W a (.func f x y) .plain:=fun a W f x y=>run_store _ _ _ _ _ rfl
 have x1:∀W:World,(Instr.index 268 (.agg #[.bool false,.bool false,.nilFunc,.bool false,.bool true,.func (.func 213) #[] #[],.bool false,.bool false,.func (.func 214) #[] #[],.bool true,.bool false,.func (.func 217) #[] #[],.bool false,.bool false,.func (.func 218) #[] #[]]) (ab 3)).run prog W=.ok (.agg #[.bool true,.bool false,.func (.func 217) #[] #[]]) W:=fun _=>by kernel_rfl
 clear h;go_enter func131,ntmps131
 go_upto_region 3 with(go_at_call 165;(with_reducible refine dA.mono ?_);rintro e w2 ⟨rfl,rfl⟩)
 go_cut [7,8] (fun p q wx=>p=af (aj (E.A 21) (i*3))/\∃bx,q=af (aj bx)/\Hid (Kd w wx E ws s N bx true false (.func 217)))
 case first=>
  go_wp2_with fail;go_region_held3 (fun W=>W.cell? (aj (E.A 20) 6)=some (ai (aj (E.A 21)) E.hn E.hn)) (first|exact y6|exact z6|go_keep)
   (first|(go_at_call 166;(with_reducible refine DA.out.mono ?_);rintro e w2 ⟨rfl,y6,⟨q0,q1,q2⟩,⟨f0,f1,f2⟩,z6,hS⟩)|(go_at_call 166;(with_reducible refine DB.out.mono ?_);rintro e w2 ⟨rfl,y6,hS⟩))
  all_goals (go_wp2_with fail;go_meet;exact⟨rfl,_,rfl,hS⟩)
 case rest=>
  obtain⟨rfl,bx,rfl,hS⟩:=hcut;have k0:wc.cell? (aj bx)=some (.bool true):=hS.out.bk.cell 0;have k1:wc.cell? (aj bx 1)=some (.bool false):=hS.out.bk.cell 1;have k2:wc.cell? (aj bx 2)=some (.func (.func 217) #[] #[]):=hS.out.bk.cell 2;have k3:=(hS.out.mp.fu he).2.2;rw[hk] at k3;have HB:=bU hS.out.ch;clear DA DB x1 s1 s2 dA HM c6 hS;go_wp2_with fail
  go_still (by kernel_rfl)
  go_wp2_with fail;go_ret;exact⟨rfl,bd HB.out⟩
attribute [local irreducible] wpStill in
set_option maxHeartbeats 4000000 in
theorem vW{w:World}{E:Env}(hE:E.Ok){ws:List Int}{s:St}{N:Int}(h:cY w E ws s N)(ha:s.act=true){i:Nat}{k:Hand}(he:s.hs[i]?=some k)(hk:k.is=true):
  ak 131 #[af (aj (E.A 20)),U i,ab 4] w fun e w'=>e=ae (.bool false)/\Below w.heap.size w w':=by
 have dA:=gJ h;rw[ha] at dA;have hi:i<E.hn:=by rw[←h.hl];exact(au.1 he).1
 have hh:=hE.h2;obtain⟨z0,b0⟩:=h.b0;have c6:w.cell? (aj (E.A 20) 6)=some (ai (aj (E.A 21)) E.hn E.hn):=b0.cell 6;clear b0;have HM:=bU h;have DB:=bU (iR h false false (.func 218));have DA:=bU (jt h false false (.func 218));have s1:∀(a:Addr) (W:World),(store a .nilFunc).run prog W=stored prog W a .nilFunc .plain:=fun a W=>run_store _ _ _ _ _ rfl
 have s2:∀(a:Addr) (W:World) (f:Fn) (x y:Array Value),(store a (.func f x y)).run prog W=stored prog W a (.func f x y) .plain:=fun a W f x y=>run_store _ _ _ _ _ rfl
 have x1:∀W:World,(Instr.index 268 (.agg #[.bool false,.bool false,.nilFunc,.bool false,.bool true,.func (.func 213) #[] #[],.bool false,.bool false,.func (.func 214) #[] #[],.bool true,.bool false,.func (.func 217) #[] #[],.bool false,.bool false,.func (.func 218) #[] #[]]) (ab 4)).run prog W=.ok (.agg #[.bool false,.bool false,.func (.func 218) #[] #[]]) W:=fun _=>by kernel_rfl
 clear h;go_enter func131,ntmps131
 go_upto_region 3 with(go_at_call 165;(with_reducible refine dA.mono ?_);rintro e w2 ⟨rfl,rfl⟩)
 go_cut [7,8] (fun p q wx=>p=af (aj (E.A 21) (i*3))/\∃bx,q=af (aj bx)/\Hid (Kd w wx E ws s N bx false false (.func 218)))
 case first=>
  go_wp2_with fail;go_region_held3 (fun W=>W.cell? (aj (E.A 20) 6)=some (ai (aj (E.A 21)) E.hn E.hn)) (first|exact y6|exact z6|go_keep)
   (first|(go_at_call 166;(with_reducible refine DA.out.mono ?_);rintro e w2 ⟨rfl,y6,⟨q0,q1,q2⟩,⟨f0,f1,f2⟩,z6,hS⟩)|(go_at_call 166;(with_reducible refine DB.out.mono ?_);rintro e w2 ⟨rfl,y6,hS⟩))
  all_goals (go_wp2_with fail;go_meet;exact⟨rfl,_,rfl,hS⟩)
 case rest=>
  obtain⟨rfl,bx,rfl,hS⟩:=hcut;have k0:wc.cell? (aj bx)=some (.bool false):=hS.out.bk.cell 0;have k1:wc.cell? (aj bx 1)=some (.bool false):=hS.out.bk.cell 1;have k2:wc.cell? (aj bx 2)=some (.func (.func 218) #[] #[]):=hS.out.bk.cell 2;have k3:=(hS.out.mp.fu he).2.2;rw[hk] at k3;have HB:=bU hS.out.ch;clear DA DB x1 s1 s2 dA HM c6 hS;go_wp2_with fail
  go_still (by kernel_rfl)
  go_wp2_with fail;go_ret;exact⟨rfl,bd HB.out⟩
end Mk
namespace Mk
open Go.RowKit Go.bZ Go.Gc Sl Mm Hd Bd Gy Bt Tb Pn
open Ti (Tn)
def ny(K:eV)(s:St)(G:Nat→Bool):Prop:=∀y,iy s G y→∃v u,cU K s.M y=some (v,u)/\∀j,j<v→0<=s.M (K.addr y+1+j)/\s.M (K.addr y+1+j)<=K.n
def nR(E:Env)(ws:List Int)(s:St)(N:Int)(f:Prop)(w:World)(e:Ending)(w':World):Prop:=
 ∃b t,e=ae (.bool b)/\(b=true→iB E.K s t)/\(b=false→t=s/\f)/\cY w' E ws t N/\cu (Of E.A mU) w w'
theorem nR.no{E:Env}{ws:List Int}{s:St}{N:Int}{f:Prop}{w w':World}(h:cY w E ws s N)(hb:Below w.heap.size w w')(hf:f):nR E ws s N f w (ae (.bool false)) w':=
 ⟨false,s,rfl,fun h=>(by cases h),fun _=>⟨rfl,hf⟩,h.cA hb,cu.cD hb⟩
theorem nR.yes{E:Env}{ws:List Int}{s:St}{N:Int}{f:Prop}{w w':World}{e:Ending}(h:e=ae (.bool true)/\∃t,iB E.K s t/\cY w' E ws t N/\cu (Of E.A mU) w w'):nR E ws s N f w e w':=by
 obtain⟨rfl,t,h1,h2,h3⟩:=h;exact⟨true,t,rfl,fun _=>h1,fun h=>(by cases h),h2,h3⟩
theorem nR.not{E:Env}{ws:List Int}{s:St}{N:Int}{f:Prop}{w w':World}{e:Ending}(h:e=ae (.bool false)/\∃t,t=s/\cY w' E ws t N/\cu (Of E.A mU) w w')(hf:f):nR E ws s N f w e w':=by
 obtain⟨rfl,t,h1,h2,h3⟩:=h;exact⟨false,t,rfl,fun h=>(by cases h),fun _=>⟨h1,hf⟩,h2,h3⟩
theorem nR.Ke{E:Env}{ws:List Int}{s:St}{N:Int}{f g:Prop}{w w':World}{e:Ending}(h:nR E ws s N f w e w')(hg:f→g):nR E ws s N g w e w':=by
 obtain⟨b,t,h1,h2,h3,h4⟩:=h;exact⟨b,t,h1,h2,fun hb=>⟨(h3 hb).1,hg (h3 hb).2⟩,h4⟩
theorem zR{w:World}{E:Env}(hE:E.Ok){ws:List Int}{s:St}{N:Int}{G:Nat→Bool}(h:cY w E ws s N)(I:fh E.K s G)(hd:ny E.K s G)(hp:s.phase=1){i:Nat}{k:Hand}(he:s.hs[i]?=some k)(hk:k.is=true):
  ak 131 #[af (aj (E.A 20)),U i,ab 3] w fun e w'=>e=ae (.bool true)/\∃t,iB E.K s t/\cY w' E ws t N/\cu (Of E.A mU) w w':=by
 have hm:k∈s.hs:=aH he;have hv:=I.hv hp k hm hk;obtain⟨v,u,h1,h2⟩:=hd k.slot hv;exact CF hE h (by rw[I.ac,hp];rfl) he hk (b:=true) (Q:=iB E.K s) (l:=[12,13,14,15,16,17,18,19,21]) (by decide) (fun W hW=>(J6 hE (h.cA hW) he hk (I.tn _ hv.1) (I.hf k hm) h1 h2 I.ql).mono (fun e w' ⟨a,b,c⟩=>⟨a,scan E.K s i k,.scan i k he hk,b,c⟩))
theorem zS{w:World}{E:Env}(hE:E.Ok){ws:List Int}{s:St}{N:Int}{G:Nat→Bool}(h:cY w E ws s N)(I:fh E.K s G)(hp:s.phase=1){i:Nat}{k:Hand}(he:s.hs[i]?=some k):
  ak 131 #[af (aj (E.A 20)),U i,ab 1] w (nR E ws s N (s.root=E.L+E.n) w):=by
 have ha:s.act=true:=by rw[I.ac,hp];rfl
 by_cases c:s.root<E.L+E.n
 .exact(ti hE h ha he (b:=true) (Q:=iB E.K s) (l:=[12,13,14,15,16,17,18,19,20]) (by decide) (fun W hW=>(JY hE (h.cA hW) c (fun x hx=>I.tn x (I.roots _ x hx).1) I.ql _).mono (fun e w' ⟨a,b,d⟩=>⟨a,jA E.K s,.jA c,b,d⟩))).mono (fun _ _ h=>nR.yes h)
 .have hr:s.root=E.L+E.n:=by have:s.root<=E.L+E.n:=I.rt;omega
  exact(ti hE h ha he (b:=false) (Q:=fun t=>t=s) (l:=[]) (by decide) (fun W hW=>(JX hE (h.cA hW) hr _).mono (fun e w' ⟨a,b⟩=>⟨a,s,rfl,(h.cA hW).cA b,cu.cD b⟩))).mono (fun _ _ h=>nR.not h hr)
theorem zT{w:World}{E:Env}(hE:E.Ok){ws:List Int}{s:St}{N:Int}{G:Nat→Bool}(h:cY w E ws s N)(I:fh E.K s G)(hp:s.phase=1){i:Nat}{k:Hand}(he:s.hs[i]?=some k)(hk:k.is=false):
  ak 131 #[af (aj (E.A 20)),U i,ab 2] w (nR E ws s N (s.q=[]) w):=by
 have ha:s.act=true:=by rw[I.ac,hp];rfl
 cases hq:s.q with
 | nil=>exact(tj hE h ha he hk (b:=false) (Q:=fun t=>t=s) (l:=[]) (by decide) (fun W hW=>(J8 (h.cA hW) hq _).mono (fun e w' ⟨a,b⟩=>⟨a,s,rfl,b▸h.cA hW,b▸cu.refl _ _⟩))).mono (fun _ _ h=>nR.not h rfl)
 | cons x l=>exact(tj hE h ha he hk (b:=true) (Q:=iB E.K s) (l:=[14,15,16,17,18,19,21]) (by decide) (fun W hW=>(J9 hE (h.cA hW) hq he).mono (fun e w' ⟨a,b,d⟩=>⟨a,take s i x l,.take i x l k he hk hq,b,d⟩))).mono (fun _ _ h=>nR.yes h)
theorem zU{w:World}{E:Env}(hE:E.Ok){ws:List Int}{s:St}{N:Int}{G:Nat→Bool}(h:cY w E ws s N)(I:fh E.K s G)(hp:s.phase=1){i:Nat}{k:Hand}(he:s.hs[i]?=some k)(hk:k.is=false):
  ak 131 #[af (aj (E.A 20)),U i,ab 4] w (nR E ws s N (s.wa=s.we/\(s.q≠[]\/∀p,p<E.pg→s.dq p=false)) w):=by
 have ha:s.act=true:=by rw[I.ac,hp];rfl
 have hww:=I.ww;by_cases c:s.wa<s.we
 .exact(oY hE h ha he hk (b:=true) (Q:=iB E.K s) (l:=[14,15,16,17,18,19,21]) (by decide) (fun W hW=>(Kb hE (h.cA hW) c I.wn he).mono (fun e w' ⟨a,t,b,d⟩=>⟨a,t,b▸.walk i k he hk c,d⟩))).mono (fun _ _ h=>nR.yes h)
 .have hw:s.wa=s.we:=by omega
  by_cases d:s.q≠[]\/∀p,p<E.pg→s.dq p=false
  .exact(oY hE h ha he hk (b:=false) (Q:=fun t=>t=s) (l:=[]) (by decide) (fun W hW=>(Ka (h.cA hW) hw d _).mono (fun e w' ⟨a,b⟩=>⟨a,s,rfl,(h.cA hW).cA b,cu.cD b⟩))).mono (fun _ _ h=>nR.not h ⟨hw,d⟩)
  .have hq:s.q=[]:=Classical.byContradiction fun hq=>d (.inl hq)
   obtain⟨p,qJ,po⟩:∃p,p<E.pg/\s.dq p=true:=by
    refine Classical.byContradiction fun hn=>d (.inr fun p hp=>?_)
    cases e:s.dq p
    .rfl
    .exact absurd ⟨p,hp,e⟩ hn
   exact(oY hE h ha he hk (b:=true) (Q:=iB E.K s) (l:=[14,15,16,17,18,19,21]) (by decide) (fun W hW=>(CE hE (h.cA hW) hw hq qJ po he).mono (fun e w' ⟨a,t,⟨p,q1,q2,q3⟩,b⟩=>⟨a,t,q3▸.opn i p k he hk hw q1 q2,b⟩))).mono (fun _ _ h=>nR.yes h)
theorem Gf{w:World}{E:Env}(hE:E.Ok){ws:List Int}{s:St}{N:Int}{G:Nat→Bool}(h:cY w E ws s N)(I:fh E.K s G)(hd:ny E.K s G)(hp:s.phase=1){i:Nat}(hi:i<E.hn){z:Int}(iX:0<=z)(jm:z<256):
  ak 131 #[af (aj (E.A 20)),U i,ab z] w (nR E ws s N True w):=by
 have ha:s.act=true:=by rw[I.ac,hp];rfl
 have he:s.hs[i]?=some (s.hs[i]'(by rw[h.hl];exact hi)):=aq _;generalize s.hs[i]'(by rw[h.hl];exact hi)=k at he;by_cases c:z<1\/4<z
 .exact(Ge hE h ha hi c iX jm).mono (fun e w' ⟨a,b⟩=>a▸b▸nR.no h (bV _ _) trivial)
 .have h4:z=1\/z=2\/z=3\/z=4:=by omega
  rcases h4 with rfl|rfl|rfl|rfl
  .exact(zS hE h I hp he).mono (fun _ _ h=>h.Ke (fun _=>trivial))
  .cases hk:k.is
   .exact(zT hE h I hp he hk).mono (fun _ _ h=>h.Ke (fun _=>trivial))
   .exact(vU hE h ha he hk).mono (fun e w' ⟨a,b⟩=>a▸nR.no h b trivial)
  .cases hk:k.is
   .exact(vV hE h ha he hk).mono (fun e w' ⟨a,b⟩=>a▸nR.no h b trivial)
   .exact(zR hE h I hd hp he hk).mono (fun _ _ h=>nR.yes h)
  .cases hk:k.is
   .exact(zU hE h I hp he hk).mono (fun _ _ h=>h.Ke (fun _=>trivial))
   .exact(vW hE h ha he hk).mono (fun e w' ⟨a,b⟩=>a▸nR.no h b trivial)
end Mk
end Go.Proofs.YtgblmelijlgimaaGreatDoor
