/- Parts of the proof of TopApart. -/
import Derived.Test.YtgblmelijlgimaaGreatDoorZTopBK
set_option maxRecDepth 100000
namespace Go.Proofs.YtgblmelijlgimaaGreatDoor
open Go.Proofs.Tryz
namespace Hp
open Go.RowKit Go.bZ Go.Gc Go.Cf Cn Go.Proofs.YtgblmelijlgimaaGreatDoor.Fd Sl Bd Ca Hd Tb Mm Mk Sw Cy
set_option maxHeartbeats 2000000 in
theorem KN{w:World}{C:cV}{E:Env}{c:cF}{ws:List Int}{N:Int}{x:V}(L:Lk C E c)(h:Hv w C E c ws N x)(qh qa qb qx:Int)(lG:0<=qh)(lH:qh<18446744073709551616){sl:Int}(hs:jl (fP C x qh)=(sl,true)){p:V×Sn}{n:Int}(DF:∀w1,Hv w1 C E c ws N x→ak 137 #[af (aj (E.A 26)),.agg #[ab 1,aa qh,U qa,U qb,aa qx],U sl] w1 (j9 C E c ws N p n w1)):ak 76 #[af (aj (E.A 26)),.agg #[ab 1,aa qh,U qa,U qb,aa qx]] w (j9 C E c ws N (p.1,p.2) n w):=by
 obtain⟨W,hW⟩:=al ((w.alloc (.cells #[ab 1,aa qh,U qa,U qb,aa qx] 54)).alloc (.cells #[U 0,aa 0,aa 0,U 0,U 0,U 0,U 0,.bool false] 38));obtain⟨hB,bO,bS⟩:=(gG w ⟨1,qh,qa,qb,qx⟩).out W hW;have DO:=eH W;have D1:=mz hB bO bS;have HC:Hid (∀w1 b5,Ds w w1 ⟨1,qh,qa,qb,qx⟩ b5→w1.cell? (aj w.heap.size)=some (ab 1)/\w1.cell? (aj w.heap.size 1)=some (aa qh)/\w1.cell? (aj w.heap.size 2)=some (U qa)/\w1.cell? (aj w.heap.size 3)=some (U qb)/\w1.cell? (aj w.heap.size 4)=some (aa qx)/\w1.cell? (aj b5 1)=some (.func (.func 137) #[] #[])):=bU (fun w1 b5 d=>⟨d.bO.cell 0,d.bO.cell 1,d.bO.cell 2,d.bO.cell 3,d.bO.cell 4,d.bF.cell 1⟩);have DS:Hid (∀w1 b5,Ds w w1 ⟨1,qh,qa,qb,qx⟩ b5→ak 108 #[af (aj (E.A 26)),aa qh] w1 fun e w2=>e=ae (.tuple #[U sl,.bool true])/\Hid (Ds w w2 ⟨1,qh,qa,qb,qx⟩ b5)):=bU (fun w1 b5 d=>by
  obtain⟨s,G,hp,rp,gn⟩:=h.cA L d.hB;have ds:=iK L hp rp.es (z:=qh) lG lH;rw[hs] at ds;refine ds.mono ?_;rintro e w2 ⟨rfl,cN⟩;exact⟨rfl,bU (d.cA cN)⟩)
 have HD:Hid (∀w3 b5,Ds w w3 ⟨1,qh,qa,qb,qx⟩ b5→∀w1,Below w3.heap.size w3 w1→ak 137 #[af (aj (E.A 26)),.agg #[ab 1,aa qh,U qa,U qb,aa qx],U sl] w1 fun e w2=>e=ae (.agg #[U p.2.e,aa p.2.h,aa p.2.w,U p.2.addr,U p.2.used,U p.2.since,U p.2.gY,.bool p.2.ac])/\(w2.cell? (aj w.heap.size)=some (ab 1)/\w2.cell? (aj w.heap.size 1)=some (aa qh)/\w2.cell? (aj w.heap.size 2)=some (U qa)/\w2.cell? (aj w.heap.size 3)=some (U qb)/\w2.cell? (aj w.heap.size 4)=some (aa qx)/\w2.cell? (aj b5 1)=some (.func (.func 137) #[] #[]))/\Hid (Rr w w2 C E c ws N p.1 n ⟨1,qh,qa,qb,qx⟩)/\Hid (∀b,w.heap.size<=b→cj w1 b eY 38→cj w2 b eY 38)):=bU (fun w3 b5 d w1 hb=>by
  have d1:=d.cA hb;refine(DF w1 (h.cA L d1.hB)).mono ?_;rintro e w2 ⟨rfl,jG,a⟩;have hk:∀b,w.heap.size<=b→¬Om E Hl b:=fun b hb=>iF L h hb
  have ju:=d1.bO.bY a.ch (hk _ (av _));have yH:=d1.bF.bY a.ch (hk _ (by have:=d1.l5;omega));have l2:=a.ch.size;have l3:=d1.bF.lt;have l5:=d1.l5;refine⟨rfl,⟨ju.cell 0,ju.cell 1,ju.cell 2,ju.cell 3,ju.cell 4,yH.cell 1⟩,bU ⟨⟨jG,a.hv,a.rg,(cu.cD d1.hB).trans a.ch⟩,ju,d1.bS.bY a.ch (hk _ (by omega)),by omega⟩,bU (fun b h1 h2=>h2.bY a.ch (hk _ h1))⟩)
 have HA:=bU (fun w9 b8 (r:Rr w w9 C E c ws N p.1 n ⟨1,qh,qa,qb,qx⟩) (b:cj w9 b8 eY 38) (l:w.heap.size+2<=b8)=>Dr.set L h r b l p.2);have HN:Hid (∀w9,Rr w w9 C E c ws N p.1 n ⟨1,qh,qa,qb,qx⟩→Dr w (w9.alloc (.cells #[U p.2.e,aa p.2.h,aa p.2.w,U p.2.addr,U p.2.used,U p.2.since,U p.2.gY,.bool p.2.ac] 38)) C E c ws N p.1 n ⟨1,qh,qa,qb,qx⟩ p.2 w9.heap.size):=bU (fun w9 r=>Dr.new L h r p.2);have HP:Hid (∀b8 wx,Dr w wx C E c ws N p.1 n ⟨1,qh,qa,qb,qx⟩ p.2 b8→wx.cell? (aj w.heap.size)=some (ab 1)/\cj wx b8 (cX p.2) 38/\cj wx (w.heap.size+1) eY 38/\Hid (∀s,cj (wx.setRow (w.heap.size+1) (cX s)) (w.heap.size+1) (cX s) 38/\∃cR,fF w (wx.setRow (w.heap.size+1) (cX s)) C E c ws N p.1 n cR)):=bU (fun b8 wx d=>by
  obtain⟨cR,a⟩:=d.r.yw;obtain⟨t1,t2⟩:=a.told L h (by omega) d.r.bS (bV _ _);exact⟨d.r.bO.cell 0,d.b8,t1,t2⟩)
 have HL:Hid (∀w3 b5,Ds w w3 ⟨1,qh,qa,qb,qx⟩ b5→w.heap.size+2<=w3.heap.size/\w.heap.size<=w3.heap.size/\w.heap.size≠w3.heap.size/\b5≠w3.heap.size/\w3.heap.size≠w.heap.size/\w3.heap.size≠b5):=bU (fun w3 b5 d=>by have:=d.l5;have:=d.bF.lt;omega);have hnf:=jR 137;have HZ:=bU (fun w1 b=>@gQ w1 b);clear h L bO bS hB lG lH hs DF;obtain⟨p1,p2⟩:=p;simp only[] at *;go_enter func76,ntmps76;go_wp2_with (first
  | (go_at_call 107;(with_reducible refine DO.mono ?_);rintro e w1 ⟨rfl,hb⟩;obtain⟨W2,iz⟩:=al (w1.alloc (.cells #[.nilFunc,.func (.func 137) #[] #[],.func (.func 138) #[] #[],.func (.func 139) #[] #[],.func (.func 140) #[] #[],.func (.func 141) #[] #[],.func (.func 142) #[] #[],.func (.func 143) #[] #[]] 217));have d:=bU (D1.out w1 W2 hb iz);obtain⟨y0,y1,y2,y3,y4,y5⟩:=HC.out W2 _ d.out;have dS:=DS.out W2 _ d.out;clear hb)
  | (go_at_call 108;(with_reducible refine dS.mono ?_);rintro e w3 ⟨rfl,d3⟩;clear y0 y1 y2 y3 y4 y5;obtain⟨y0,y1,y2,y3,y4,y5⟩:=HC.out w3 _ d3.out))
 clear DS dS D1 DO hW iz HC;obtain⟨l3,l4,n1,n2,n3,n4⟩:=HL.out w3 _ d3.out;have L3:=bU l3;have L4:=bU l4;have DF:=bU (HD.out w3 _ d3.out);clear l3 l4 HL HD d d3 hnf
 go_cut [8] (fun s8 wx=>∃b8,s8=af (aj b8)/\Hid (Dr w wx C E c ws N p1 n ⟨1,qh,qa,qb,qx⟩ p2 b8))
 case first=>
  go_region_held3 (fun w'=>w'.cell? (aj w.heap.size)=some (ab 1)/\w'.cell? (aj w.heap.size 1)=some (aa qh)/\w'.cell? (aj w.heap.size 2)=some (U qa)/\w'.cell? (aj w.heap.size 3)=some (U qb)/\w'.cell? (aj w.heap.size 4)=some (aa qx)/\w'.cell? (aj w1.heap.size 1)=some (.func (.func 137) #[] #[])) (first|(with_reducible exact⟨y0,y1,y2,y3,y4,y5⟩)|(with_reducible exact⟨x0,x1,x2,x3,x4,x5⟩)|go_keep)
   ((first
    | (go_at_call 137;refine(DF.out _ (bd (bA (bV _ _) (av _) (.cells #[U 0,aa 0,aa 0,U 0,U 0,U 0,U 0,.bool false] 38)))).mono ?_;rintro e w9 ⟨rfl,⟨x0,x1,x2,x3,x4,x5⟩,hR,hK⟩;have pI:=bU (hK.out w3.heap.size L4.out (cj.new w3 eY 38));obtain⟨⟨z0,z1,z2,z3,z4,z5,z6,z7⟩,f0,f1,f2,f3,f4,f5,f6,f7⟩:=HZ.out w9 _ pI.out)
    | (go_at_call 137;refine(DF.out _ (bd (bV _ _))).mono ?_;rintro e w9 ⟨rfl,⟨x0,x1,x2,x3,x4,x5⟩,hR,hK⟩)))
  all_goals
   go_wp2_with fail
   go_meet
   refine⟨_,rfl,bU ?_⟩;first
    | (with_reducible exact HA.out w9 _ hR.out pI.out L3.out)
    | (with_reducible exact HN.out w9 hR.out)
 case rest=>
 obtain⟨b8,rfl,hD⟩:=hcut;obtain⟨x0,bv,bz,hZ⟩:=HP.out b8 wc hD.out;clear y0 y1 y2 y3 y4 y5 DF n1 n2 n3 n4;go_wp2_with (first
  | (refine wpList_load_row rfl _ _ rfl b8 rfl 38 (cX p2) (0,0) _ bv underlying38 rfl cG ?_)
  | (refine wpList_store_row rfl _ _ _ rfl (w.heap.size+1) (cX p2) rfl rfl 38 eY bz cG rfl (eE _) ?_))
 refine bodyPost_ret (results_cell_row rfl _ _ (w.heap.size+1) 38 (cX p2) (0,0) _ rfl (hZ.out _).1 underlying38 rfl cG) rfl ?_;exact⟨rfl,(hZ.out _).2⟩
set_option maxHeartbeats 2000000 in
theorem KO{w:World}{C:cV}{E:Env}{c:cF}{ws:List Int}{N:Int}{x:V}(L:Lk C E c)(h:Hv w C E c ws N x)(qh qa qb qx:Int)(lG:0<=qh)(lH:qh<18446744073709551616){sl:Int}(hs:jl (fP C x qh)=(sl,false)){p:V×Sn}{n:Int}(DF:∀w1,Hv w1 C E c ws N x→ak 137 #[af (aj (E.A 26)),.agg #[ab 1,aa qh,U qa,U qb,aa qx],U sl] w1 (j9 C E c ws N p n w1)):ak 76 #[af (aj (E.A 26)),.agg #[ab 1,aa qh,U qa,U qb,aa qx]] w (j9 C E c ws N (p.1,p.2) n w):=by
 obtain⟨W,hW⟩:=al ((w.alloc (.cells #[ab 1,aa qh,U qa,U qb,aa qx] 54)).alloc (.cells #[U 0,aa 0,aa 0,U 0,U 0,U 0,U 0,.bool false] 38));obtain⟨hB,bO,bS⟩:=(gG w ⟨1,qh,qa,qb,qx⟩).out W hW;have DO:=eH W;have D1:=mz hB bO bS;have HC:Hid (∀w1 b5,Ds w w1 ⟨1,qh,qa,qb,qx⟩ b5→w1.cell? (aj w.heap.size)=some (ab 1)/\w1.cell? (aj w.heap.size 1)=some (aa qh)/\w1.cell? (aj w.heap.size 2)=some (U qa)/\w1.cell? (aj w.heap.size 3)=some (U qb)/\w1.cell? (aj w.heap.size 4)=some (aa qx)/\w1.cell? (aj b5 1)=some (.func (.func 137) #[] #[])):=bU (fun w1 b5 d=>⟨d.bO.cell 0,d.bO.cell 1,d.bO.cell 2,d.bO.cell 3,d.bO.cell 4,d.bF.cell 1⟩);have DS:Hid (∀w1 b5,Ds w w1 ⟨1,qh,qa,qb,qx⟩ b5→ak 108 #[af (aj (E.A 26)),aa qh] w1 fun e w2=>e=ae (.tuple #[U sl,.bool false])/\Hid (Ds w w2 ⟨1,qh,qa,qb,qx⟩ b5)):=bU (fun w1 b5 d=>by
  obtain⟨s,G,hp,rp,gn⟩:=h.cA L d.hB;have ds:=iK L hp rp.es (z:=qh) lG lH;rw[hs] at ds;refine ds.mono ?_;rintro e w2 ⟨rfl,cN⟩;exact⟨rfl,bU (d.cA cN)⟩)
 have HD:Hid (∀w3 b5,Ds w w3 ⟨1,qh,qa,qb,qx⟩ b5→∀w1,Below w3.heap.size w3 w1→ak 137 #[af (aj (E.A 26)),.agg #[ab 1,aa qh,U qa,U qb,aa qx],U sl] w1 fun e w2=>e=ae (.agg #[U p.2.e,aa p.2.h,aa p.2.w,U p.2.addr,U p.2.used,U p.2.since,U p.2.gY,.bool p.2.ac])/\(w2.cell? (aj w.heap.size)=some (ab 1)/\w2.cell? (aj w.heap.size 1)=some (aa qh)/\w2.cell? (aj w.heap.size 2)=some (U qa)/\w2.cell? (aj w.heap.size 3)=some (U qb)/\w2.cell? (aj w.heap.size 4)=some (aa qx)/\w2.cell? (aj b5 1)=some (.func (.func 137) #[] #[]))/\Hid (Rr w w2 C E c ws N p.1 n ⟨1,qh,qa,qb,qx⟩)/\Hid (∀b,w.heap.size<=b→cj w1 b eY 38→cj w2 b eY 38)):=bU (fun w3 b5 d w1 hb=>by
  have d1:=d.cA hb;refine(DF w1 (h.cA L d1.hB)).mono ?_;rintro e w2 ⟨rfl,jG,a⟩;have hk:∀b,w.heap.size<=b→¬Om E Hl b:=fun b hb=>iF L h hb
  have ju:=d1.bO.bY a.ch (hk _ (av _));have yH:=d1.bF.bY a.ch (hk _ (by have:=d1.l5;omega));have l2:=a.ch.size;have l3:=d1.bF.lt;have l5:=d1.l5;refine⟨rfl,⟨ju.cell 0,ju.cell 1,ju.cell 2,ju.cell 3,ju.cell 4,yH.cell 1⟩,bU ⟨⟨jG,a.hv,a.rg,(cu.cD d1.hB).trans a.ch⟩,ju,d1.bS.bY a.ch (hk _ (by omega)),by omega⟩,bU (fun b h1 h2=>h2.bY a.ch (hk _ h1))⟩)
 have HA:=bU (fun w9 b8 (r:Rr w w9 C E c ws N p.1 n ⟨1,qh,qa,qb,qx⟩) (b:cj w9 b8 eY 38) (l:w.heap.size+2<=b8)=>Dr.set L h r b l p.2);have HN:Hid (∀w9,Rr w w9 C E c ws N p.1 n ⟨1,qh,qa,qb,qx⟩→Dr w (w9.alloc (.cells #[U p.2.e,aa p.2.h,aa p.2.w,U p.2.addr,U p.2.used,U p.2.since,U p.2.gY,.bool p.2.ac] 38)) C E c ws N p.1 n ⟨1,qh,qa,qb,qx⟩ p.2 w9.heap.size):=bU (fun w9 r=>Dr.new L h r p.2);have HP:Hid (∀b8 wx,Dr w wx C E c ws N p.1 n ⟨1,qh,qa,qb,qx⟩ p.2 b8→wx.cell? (aj w.heap.size)=some (ab 1)/\cj wx b8 (cX p.2) 38/\cj wx (w.heap.size+1) eY 38/\Hid (∀s,cj (wx.setRow (w.heap.size+1) (cX s)) (w.heap.size+1) (cX s) 38/\∃cR,fF w (wx.setRow (w.heap.size+1) (cX s)) C E c ws N p.1 n cR)):=bU (fun b8 wx d=>by
  obtain⟨cR,a⟩:=d.r.yw;obtain⟨t1,t2⟩:=a.told L h (by omega) d.r.bS (bV _ _);exact⟨d.r.bO.cell 0,d.b8,t1,t2⟩)
 have HL:Hid (∀w3 b5,Ds w w3 ⟨1,qh,qa,qb,qx⟩ b5→w.heap.size+2<=w3.heap.size/\w.heap.size<=w3.heap.size/\w.heap.size≠w3.heap.size/\b5≠w3.heap.size/\w3.heap.size≠w.heap.size/\w3.heap.size≠b5):=bU (fun w3 b5 d=>by have:=d.l5;have:=d.bF.lt;omega);have hnf:=jR 137;have HZ:=bU (fun w1 b=>@gQ w1 b);clear h L bO bS hB lG lH hs DF;obtain⟨p1,p2⟩:=p;simp only[] at *;go_enter func76,ntmps76;go_wp2_with (first
  | (go_at_call 107;(with_reducible refine DO.mono ?_);rintro e w1 ⟨rfl,hb⟩;obtain⟨W2,iz⟩:=al (w1.alloc (.cells #[.nilFunc,.func (.func 137) #[] #[],.func (.func 138) #[] #[],.func (.func 139) #[] #[],.func (.func 140) #[] #[],.func (.func 141) #[] #[],.func (.func 142) #[] #[],.func (.func 143) #[] #[]] 217));have d:=bU (D1.out w1 W2 hb iz);obtain⟨y0,y1,y2,y3,y4,y5⟩:=HC.out W2 _ d.out;have dS:=DS.out W2 _ d.out;clear hb)
  | (go_at_call 108;(with_reducible refine dS.mono ?_);rintro e w3 ⟨rfl,d3⟩;clear y0 y1 y2 y3 y4 y5;obtain⟨y0,y1,y2,y3,y4,y5⟩:=HC.out w3 _ d3.out))
 clear DS dS D1 DO hW iz HC;obtain⟨l3,l4,n1,n2,n3,n4⟩:=HL.out w3 _ d3.out;have L3:=bU l3;have L4:=bU l4;have DF:=bU (HD.out w3 _ d3.out);clear l3 l4 HL HD d d3 hnf
 go_cut [8] (fun s8 wx=>∃b8,s8=af (aj b8)/\Hid (Dr w wx C E c ws N p1 n ⟨1,qh,qa,qb,qx⟩ p2 b8))
 case first=>
  go_region_held3 (fun w'=>w'.cell? (aj w.heap.size)=some (ab 1)/\w'.cell? (aj w.heap.size 1)=some (aa qh)/\w'.cell? (aj w.heap.size 2)=some (U qa)/\w'.cell? (aj w.heap.size 3)=some (U qb)/\w'.cell? (aj w.heap.size 4)=some (aa qx)/\w'.cell? (aj w1.heap.size 1)=some (.func (.func 137) #[] #[])) (first|(with_reducible exact⟨y0,y1,y2,y3,y4,y5⟩)|(with_reducible exact⟨x0,x1,x2,x3,x4,x5⟩)|go_keep)
   ((first
    | (go_at_call 137;refine(DF.out _ (bd (bA (bV _ _) (av _) (.cells #[U 0,aa 0,aa 0,U 0,U 0,U 0,U 0,.bool false] 38)))).mono ?_;rintro e w9 ⟨rfl,⟨x0,x1,x2,x3,x4,x5⟩,hR,hK⟩;have pI:=bU (hK.out w3.heap.size L4.out (cj.new w3 eY 38));obtain⟨⟨z0,z1,z2,z3,z4,z5,z6,z7⟩,f0,f1,f2,f3,f4,f5,f6,f7⟩:=HZ.out w9 _ pI.out)
    | (go_at_call 137;refine(DF.out _ (bd (bV _ _))).mono ?_;rintro e w9 ⟨rfl,⟨x0,x1,x2,x3,x4,x5⟩,hR,hK⟩)))
  all_goals
   go_wp2_with fail
   go_meet
   refine⟨_,rfl,bU ?_⟩;first
    | (with_reducible exact HA.out w9 _ hR.out pI.out L3.out)
    | (with_reducible exact HN.out w9 hR.out)
 case rest=>
 obtain⟨b8,rfl,hD⟩:=hcut;obtain⟨x0,bv,bz,hZ⟩:=HP.out b8 wc hD.out;clear y0 y1 y2 y3 y4 y5 DF n1 n2 n3 n4;go_wp2_with (first
  | (refine wpList_load_row rfl _ _ rfl b8 rfl 38 (cX p2) (0,0) _ bv underlying38 rfl cG ?_)
  | (refine wpList_store_row rfl _ _ _ rfl (w.heap.size+1) (cX p2) rfl rfl 38 eY bz cG rfl (eE _) ?_))
 refine bodyPost_ret (results_cell_row rfl _ _ (w.heap.size+1) 38 (cX p2) (0,0) _ rfl (hZ.out _).1 underlying38 rfl cG) rfl ?_;exact⟨rfl,(hZ.out _).2⟩
end Hp
namespace Hp
open Go.RowKit Go.bZ Go.Gc Go.Cf Cn Go.Proofs.YtgblmelijlgimaaGreatDoor.Fd Sl Bd Ca Hd Tb Mm Mk Sw Cy
structure iJ.In(q:iJ):Prop where
 c:q.code<256
 h:0<=q.h/\q.h<18446744073709551616
 a: -9223372036854775808<=q.a/\q.a<9223372036854775808
 b: -9223372036854775808<=q.b/\q.b<9223372036854775808
 x:0<=q.x/\q.x<18446744073709551616
theorem j9.up{C:cV}{E:Env}{c:cF}{ws:List Int}{N:Int}{p:V×Sn}{n m:Int}{w w':World}{e:Ending}(h:j9 C E c ws N p n w e w')(h1:n<=m)(h2:N+m<=1000000):j9 C E c ws N p m w e w':=by
 obtain⟨h3,cR,a⟩:=h;exact⟨h3,cR,a.up h1 h2⟩
theorem fX{C:cV}{E:Env}{c:cF}{ws:List Int}{N:Int}{p p':V×Sn}{n m:Int}{w:World}{f:Nat}{args:Array Value}(h:ak f args w (j9 C E c ws N p n w))(hp:p'=p)(h1:n<=m)(h2:N+m<=1000000):ak f args w (j9 C E c ws N p' m w):=by
 rw[hp];exact h.mono (fun e w' k=>k.up h1 h2)
theorem KP{w:World}{C:cV}{E:Env}{c:cF}{ws:List Int}{N:Int}{x:V}(L:Lk C E c)(h:Hv w C E c ws N x)(q:iJ){y:Nat}(hy:ja x y)(hr:Go.Gc.Reach C.K x.v.es x.v.cs x.v.M y)(hN:N<999990):ak 138 #[af (aj (E.A 26)),.agg (sB q),U y] w (j9 C E c ws N (zD C x y q.a) 2 w):=by
 obtain⟨s,G,hp,rp,gn⟩:=id h;obtain⟨r,u,hh⟩:=rp.ok.hd y hy.1 hy.2;unfold zD;rw[hh];simp only[];by_cases c1:q.a<0\/(r+u:Nat)<=q.a
 .rw[if_pos c1]
  exact fX (GQ L h q hy hh c1) rfl (by omega) (by omega)
 rw[if_neg c1];obtain⟨i,hi⟩:∃i:Nat,q.a=i:=⟨q.a.toNat,by omega⟩;have ei:q.a.toNat=i:=by omega
 rw[ei];by_cases c2:(r:Int)<=q.a
 .rw[if_pos c2]
  exact fX (C0 L h q hy hh hi (by omega) (by omega)) rfl (by omega) (by omega)
 rw[if_neg c2];by_cases c3:dx C x y i=0
 .rw[if_pos c3]
  exact fX (GR L h q hy hh hi (by omega) c3) rfl (by omega) (by omega)
 rw[if_neg c3];have hz:=rp.ok.rf y i hy.1 hy.2 (by rw[jO hh];omega);have hz:0<=dx C x y i/\dx C x y i<=C.K.n:=hz;refine fX (GU L h q hy hh hr hi (by omega) (to_:=(dx C x y i-1).toNat) (by omega) (by omega)) ?_ (by omega) (by omega);by_cases c4:0<ek (room C (fun z=>decide (0<ek z.v.es)) x).v.es
 .rw[if_neg (not_not_intro c4),if_pos c4]
 .rw[if_pos c4,if_neg c4]
theorem Hq{w:World}{C:cV}{E:Env}{c:cF}{ws:List Int}{N:Int}{x:V}(L:Lk C E c)(h:Hv w C E c ws N x)(q:iJ){y:Nat}(hy:ja x y)(hx:0<=q.x/\q.x<18446744073709551616)(hN:N<999990):ak 139 #[af (aj (E.A 26)),.agg (sB q),U y] w (j9 C E c ws N (ub C x y q.a q.x) 2 w):=by
 obtain⟨s,G,hp,rp,gn⟩:=id h;obtain⟨r,u,hh⟩:=rp.ok.hd y hy.1 hy.2;unfold ub;rw[hh];simp only[];by_cases c1:q.a<0\/(r+u:Nat)<=q.a
 .rw[if_pos c1]
  exact fX (C3 L h q hy hh c1) rfl (by omega) (by omega)
 rw[if_neg c1];obtain⟨i,hi⟩:∃i:Nat,q.a=i:=⟨q.a.toNat,by omega⟩;have ei:q.a.toNat=i:=by omega
 rw[ei];by_cases c2:(r:Int)<=q.a
 .rw[if_pos c2]
  exact fX (yx L h q hy hh hi (by omega) (by omega) hx.1 hx.2) rfl (by omega) (by omega)
 rw[if_neg c2];by_cases c3:q.x=0
 .rw[if_pos c3]
  exact fX (yy L h q hy hh hi (by omega) c3) rfl (by omega) (by omega)
 rw[if_neg c3]
 cases c4:fP C x q.x with
 | none=>exact fX (C8 L h q hy hh hi (by omega) (by omega) hx.2 c4) rfl (by omega) (by omega)
 | some p=>
  obtain⟨j,en⟩:=p;exact fX (C9 L h q hy hh hi (by omega) c4 (by omega) hx.2) rfl (by omega) (by omega)
theorem Dg{z:Int}{w:World}{C:cV}{E:Env}{c:cF}{ws:List Int}{N:Int}{x:V}(L:Lk C E c)(h:Hv w C E c ws N x)(q:iJ)(hq:iJ.In q)(hN:N<999990):ak 137 #[af (aj (E.A 26)),.agg (sB q),U z] w (j9 C E c ws N (if 0<=q.a/\0<=q.b/\q.a+q.b<=63 then jr C x q.a.toNat q.b.toNat else(x,Sn.told 50)) 2 w):=by
 by_cases c1:0<=q.a/\0<=q.b/\q.a+q.b<=63
 .rw[if_pos c1]
  obtain⟨r,hr⟩:∃r:Nat,q.a=r:=⟨q.a.toNat,by omega⟩;obtain⟨u,hu⟩:∃u:Nat,q.b=u:=⟨q.b.toNat,by omega⟩;have er:q.a.toNat=r:=by omega
  have eu:q.b.toNat=u:=by omega
  rw[er,eu];have hle:=uq c.cl (r+u+1);by_cases c2:kh c.cl (r+u+1)<c.cl.length
  .exact Hc L h q hr hu (by omega) c2 hN
  .refine fX (Da L h q hr hu (by omega) (by omega)) ?_ (by omega) (by omega)
   unfold jr;rw[L.cf,L.cc];simp only[];rw[if_neg c2]
 .rw[if_neg c1]
  exact fX (Hb L h q (by unfold jK;exact az (by omega)) hq.a hq.b) rfl (by omega) (by omega)
theorem qs{w:World}{C:cV}{E:Env}{c:cF}{ws:List Int}{N:Int}{x:V}(L:Lk C E c)(hS:C.sum=sE)(h:Hv w C E c ws N x)(q:iJ)(hq:iJ.In q)(hN:N<999990):ak 76 #[af (aj (E.A 26)),.agg (sB q)] w (j9 C E c ws N (iD C x q) 2 w):=by
 obtain⟨lG,lH⟩:=hq.h;by_cases c0:q.code=0
 .have e:iD C x q=(x,Sn.told 250):=by unfold iD;rw[if_pos (.inl c0)]
  obtain⟨cd,qh,qa,qb,qx⟩:=q
  cases c0;exact fX (Hn L h qh qa qb qx) e (by omega) (by omega)
 by_cases c8:8<=q.code
 .have e:iD C x q=(x,Sn.told 250):=by unfold iD;rw[if_pos (.inr c8)]
  exact fX (Hm L h q c8 hq.c) e (by omega) (by omega)
 by_cases c1:q.code=1
 .have e:iD C x q=(if 0<=q.a/\0<=q.b/\q.a+q.b<=63 then jr C x q.a.toNat q.b.toNat else(x,Sn.told 50)):=by unfold iD;rw[if_neg (by omega),if_pos c1]
  obtain⟨cd,qh,qa,qb,qx⟩:=q
  cases c1;have DF:∀z w1,Hv w1 C E c ws N x→_:=fun z w1 h1=>Dg (z:=z) L h1 ⟨1,qh,qa,qb,qx⟩ hq hN
  cases hb:(jl (fP C x qh)).2 with
  | true=>exact fX (KN L h qh qa qb qx lG lH (sl:=(jl (fP C x qh)).1) (by rw[←hb]) (DF _)) (by rw[e]) (by omega) (by omega)
  | false=>exact fX (KO L h qh qa qb qx lG lH (sl:=(jl (fP C x qh)).1) (by rw[←hb]) (DF _)) (by rw[e]) (by omega) (by omega)
 cases hs:fP C x q.h with
 | none=>
  have e:iD C x q=(x,Sn.told 130):=by unfold iD;rw[if_neg (by omega),if_neg c1,hs]
  exact fX (Df L h q (by omega) (by omega) lG lH hs) e (by omega) (by omega)
 | some p=>
  obtain⟨i,en⟩:=p;have hp:jl (fP C x q.h)=((en.slot:Int),true):=by rw[hs];rfl
  have hv:∀w1,Hv w1 C E c ws N x→ja x en.slot/\Go.Gc.Reach C.K x.v.es x.v.cs x.v.M en.slot/\en.slot<E.n/\∃r u,cU C.K x.v.M en.slot=some (r,u):=fun w1 h1=>by
   obtain⟨s,G,qJ,rp,gn⟩:=h1;have v:=wm L rp hs;obtain⟨g,-,-,-,-,h2,h3,-⟩:=uu L hs;have I:=Rp.uP L rp;exact⟨v,.root i _ (qP h2 h3),I.tn _ (by rw[←rp.T];exact v.1),rp.ok.hd _ v.1 v.2⟩
  have hsl:=(hv w h).2.2.1;have e:iD C x q=(let p:=if q.code=2 then zD C x en.slot q.a else if q.code=3 then ub C x en.slot q.a q.x else if q.code=4 then jJ x en.slot else if q.code=5 then kV x en.slot else if q.code=6 then lh x i en else vI C x en.slot;(p.1,{p.2 with addr:=(C.K.addr en.slot:Nat)})):=by
   unfold iD;rw[if_neg (by omega),if_neg c1,hs]
  have hc:q.code=2\/q.code=3\/q.code=4\/q.code=5\/q.code=6\/q.code=7:=by omega
  obtain⟨cd,qh,qa,qb,qx⟩:=q;rcases hc with rfl|rfl|rfl|rfl|rfl|rfl
  .exact fX (Np L h qh qa qb qx lG lH hp hsl (fun w1 h1=>KP L h1 ⟨2,qh,qa,qb,qx⟩ (hv w1 h1).1 (hv w1 h1).2.1 hN)) e (by omega) (by omega)
  .exact fX (Nq L h qh qa qb qx lG lH hp hsl (fun w1 h1=>Hq L h1 ⟨3,qh,qa,qb,qx⟩ (hv w1 h1).1 hq.x hN)) e (by omega) (by omega)
  .exact fX (Nr L h qh qa qb qx lG lH hp hsl (fun w1 h1=>Ks L h1 ⟨4,qh,qa,qb,qx⟩ (hv w1 h1).1.1 (hv w1 h1).1.2)) e (by omega) (by omega)
  .exact fX (Ns L h qh qa qb qx lG lH hp hsl (fun w1 h1=>CY L h1 ⟨5,qh,qa,qb,qx⟩ (hv w1 h1).1.1 (hv w1 h1).1.2)) e (by omega) (by omega)
  .exact fX (Nt L h qh qa qb qx lG lH hp hsl (fun w1 h1=>Kt L h1 ⟨6,qh,qa,qb,qx⟩ hs lG lH)) e (by omega) (by omega)
  .exact fX (Nu L h qh qa qb qx lG lH hp hsl (fun w1 h1=>by
    obtain⟨v1,-,-,r,u,hh⟩:=hv w1 h1;exact KK L hS h1 ⟨7,qh,qa,qb,qx⟩ v1 hh)) e (by omega) (by omega)
end Hp
namespace Hp
open Go.RowKit Go.bZ Go.Gc Go.Cf Cn Go.Proofs.YtgblmelijlgimaaGreatDoor.Fd Sl Bd Ca Hd Tb Mm Mk Sw Cy
theorem Dr.one{w wx:World}{C:cV}{E:Env}{c:cF}{ws:List Int}{N n:Int}{x x':V}{q:iJ}{s s':Sn}{b:Nat}(L:Lk C E c)(h:Hv w C E c ws N x)(d:Dr w wx C E c ws N x' n q s b)(i:Nat)(v:Value)(hs:(cX s).setIfInBounds i v=cX s'):Dr w (wx.setCell (aj b i) v) C E c ws N x' n q s' b:=
 ⟨d.r.iv L h ((cu.refl (fun k=>k=b) wx).stored (.inl rfl) i v) d.l8,by rw[←hs];exact d.b8.set i v,d.l8⟩
theorem Dr.drew{w wx:World}{C:cV}{E:Env}{c:cF}{ws:List Int}{N n:Int}{x x':V}{q:iJ}{s:Sn}{b:Nat}(L:Lk C E c)(h:Hv w C E c ws N x)(d:Dr w wx C E c ws N x' n q s b):Dr w wx.drew C E c ws N x' n q s b:=
 ⟨d.r.iv L h (cu.cD (bd (bV _ _))) d.l8,d.b8.cA (bd (bV _ _)),d.l8⟩
theorem Dr.ne{w wx:World}{C:cV}{E:Env}{c:cF}{ws:List Int}{N n:Int}{x x':V}{q:iJ}{s:Sn}{b:Nat}(L:Lk C E c)(h:Hv w C E c ws N x)(d:Dr w wx C E c ws N x' n q s b):b≠E.A 26/\E.A 26≠b:=by
 have h1:=iF L h (k:=b) (by have:=d.l8;omega);have h2:b≠E.A 26:=fun e=>h1 (by rw[e];exact .inr ⟨26,by decide,rfl⟩)
 exact⟨h2,Ne.symm h2⟩
theorem Dr.told{w wx w4:World}{C:cV}{E:Env}{c:cF}{ws:List Int}{N n:Int}{x x':V}{q:iJ}{s:Sn}{b:Nat}(L:Lk C E c)(h:Hv w C E c ws N x)(d:Dr w wx C E c ws N x' n q s b)(hb:Below wx.heap.size wx w4)(s':Sn):cj w4 b (cX s) 38/\Dr w (w4.setRow b (cX s')) C E c ws N x' n q s' b:=by
 have b4:=d.b8.cA hb;obtain⟨cR,a⟩:=d.r.yw;have r4:Rr w w4 C E c ws N x' n q:=⟨⟨cR,a.bl L hb⟩,d.r.bO.cA hb,d.r.bS.cA hb,aE d.r.l hb.size⟩;exact⟨b4,r4.iv L h ((cu.refl (fun k=>k=b) w4).row (p:=b) (.inl rfl) _) d.l8,b4.setRow _,d.l8⟩
theorem Dr.end{w wx:World}{C:cV}{E:Env}{c:cF}{ws:List Int}{N n:Int}{x x':V}{q:iJ}{s:Sn}{b:Nat}(L:Lk C E c)(h:Hv w C E c ws N x)(d:Dr w wx C E c ws N x' n q s b):cj wx b (cX s) 38/\cj wx (w.heap.size+1) eY 38/\Hid (∀s,cj (wx.setRow (w.heap.size+1) (cX s)) (w.heap.size+1) (cX s) 38/\∃cR,fF w (wx.setRow (w.heap.size+1) (cX s)) C E c ws N x' n cR):=by
 obtain⟨cR,a⟩:=d.r.yw;obtain⟨t1,t2⟩:=a.told L h (by omega) d.r.bS (bV _ _);exact⟨d.b8,t1,t2⟩
theorem Ai(n:Int):j3 n=min n 2147483647:=by
 unfold j3;rw[Int.min_def]
 split <;> split <;> omega
def Aj(x:V)(s:Sn):Sn:={s with used:=x.v.used,since:=j3 x.si,gY:=j3 x.cy,ac:=x.v.act}
set_option maxHeartbeats 1000000 in
theorem Ak{w:World}{C:cV}{E:Env}{c:cF}{ws:List Int}{N:Int}{x:V}(L:Lk C E c)(hS:C.sum=sE)(h:Hv w C E c ws N x)(q:iJ)(hq:iJ.In q)(hN:N<999990):ak 52 #[af (aj (E.A 26)),.agg #[ab q.code,aa q.h,U q.a,U q.b,aa q.x]] w (j9 C E c ws N (jk C x q) 2 w):=by
 have eD:jk C x q=((iD C x q).1,Aj (iD C x q).1 (if(iD C x q).2.e=0 then(iD C x q).2 else Sn.told (iD C x q).2.e)):=rfl;rw[eD];obtain⟨W,hW⟩:=al ((w.alloc (.cells #[ab q.code,aa q.h,U q.a,U q.b,aa q.x] 54)).alloc (.cells #[U 0,aa 0,aa 0,U 0,U 0,U 0,U 0,.bool false] 38));obtain⟨hB,bO,bS⟩:=(gG w q).out W hW;have hvW:=h.cA L hB;obtain⟨s,G,hp,rp,gn⟩:=id hvW;have dN:=cC hp;obtain⟨-,-,-,z9,y9,f9⟩:=hp.cells;obtain⟨W1,wq⟩:=al (W.setCell (aj (E.A 26) 9) (U 0));have h1:Hv W1 C E c ws N x:=by rw[←wq];exact⟨s,G,hp.work L 0,rp,gn⟩
 have k1:cu (Om E Hl) W W1:=by rw[←wq];exact(qJ 9 _).up (mx (by decide))
 have SJ:=bO.bY k1 (iF L h (av _));have Qb:=bS.bY k1 (iF L h (by omega));have DD:=qs L hS h1 q hq hN;generalize iD C x q=p at *;obtain⟨p1,p2⟩:=p;simp only[] at *;have D4:ak 76 #[af (aj (E.A 26)),.agg #[ab q.code,aa q.h,U q.a,U q.b,aa q.x]] W1 fun e w2=>e=ae (.agg #[U p2.e,aa p2.h,aa p2.w,U p2.addr,U p2.used,U p2.since,U p2.gY,.bool p2.ac])/\Hid (∀W3,w2.alloc (.cells #[U p2.e,aa p2.h,aa p2.w,U p2.addr,U p2.used,U p2.since,U p2.gY,.bool p2.ac] 38)=W3→Dr w W3 C E c ws N p1 2 q p2 w2.heap.size):=by
  refine DD.mono ?_;rintro e w2 ⟨rfl,jG,a⟩;refine⟨rfl,bU (fun W3 h3=>?_)⟩;subst h3;have r2:Rr w w2 C E c ws N p1 2 q:=⟨⟨jG,a.hv,a.rg,((cu.cD hB).trans k1).trans a.ch⟩,SJ.bY a.ch (iF L h (av _)),Qb.bY a.ch (iF L h (by omega)),by have:=bS.lt;have:=k1.size;have:=a.ch.size;omega⟩;exact Dr.new L h r2 p2
 have HE:Hid (∀W3 b,Dr w W3 C E c ws N p1 2 q p2 b→W3.cell? (aj b)=some (U p2.e)):=bU (fun W3 b d=>d.b8.cell 0);have HT:=bU (fun w1 z=>fD w1 z);have H5:Hid (∀W3 w4 b,Dr w W3 C E c ws N p1 2 q p2 b→Below W3.heap.size W3 w4→cj w4 b (cX p2) 38/\Hid (Dr w (w4.setRow b (cX (Sn.told p2.e))) C E c ws N p1 2 q (Sn.told p2.e) b)):=bU (fun W3 w4 b d hb=>by
  obtain⟨t1,t2⟩:=Dr.told L h d hb (Sn.told p2.e);exact⟨t1,bU t2⟩)
 generalize JZ:(if p2.e=0 then p2 else Sn.told p2.e)=s0 at *;have E0:Hid (p2.e=0→p2=s0):=bU (fun e=>by rw[←JZ,if_pos e]);have E1:Hid (p2.e≠0→Sn.told p2.e=s0):=bU (fun e=>by rw[←JZ,if_neg e]);have HR:Hid (∀wx b,Dr w wx C E c ws N p1 2 q s0 b→(wx.cell? (aj (E.A 26) 7)=some (af (aj (E.A 25)))/\wx.cell? (aj b 4)=some (U s0.used)/\wx.frozen? (aj b 4)=false)/\(ak 77 #[af (aj (E.A 25))] wx fun e w'=>e=ae (af (aj (E.A 3)))/\wx=w')/\(ak 78 #[af (aj (E.A 3))] wx fun e w'=>e=ae (U p1.v.used)/\wx=w')/\∃W5,wx.setCell (aj b 4) (U p1.v.used)=W5/\Hid (Dr w W5 C E c ws N p1 2 q {s0 with used:=p1.v.used} b)):=bU (fun wx b d=>by
  obtain⟨cR,a⟩:=d.r.yw;obtain⟨s',G',LP,Qc,UK⟩:=a.hv;have dU:=Ar.zE LP.cp.co.ar;rw[←Qc.used] at dU;exact⟨⟨LP.cells.2.1,d.b8.cell 4,d.b8.cE 4⟩,oZ LP.cp,dU,_,rfl,bU (Dr.one L h d 4 _ rfl)⟩)
 have H8:Hid (∀W5 b,Dr w W5 C E c ws N p1 2 q {s0 with used:=p1.v.used} b→(W5.cell? (aj (E.A 26) 8)=some (af (aj (E.A 27)))/\(W5.cell? (aj b 5)=some (U s0.since)/\W5.frozen? (aj b 5)=false)/\(W5.cell? (aj b 6)=some (U s0.gY)/\W5.frozen? (aj b 6)=false)/\(W5.cell? (aj b 7)=some (.bool s0.ac)/\W5.frozen? (aj b 7)=false)/\b≠E.A 26/\E.A 26≠b)/\(ak 79 #[af (aj (E.A 27))] W5.drew fun e w'=>e=ae (U p1.si)/\W5.drew=w')/\(ak 80 #[af (aj (E.A 27))] W5.drew fun e w'=>e=ae (U p1.cy)/\W5.drew=w')/\(ak 81 #[af (aj (E.A 27))] W5.drew fun e w'=>e=ae (.bool p1.v.act)/\W5.drew=w')/\(0<=p1.si/\p1.si<=4611686018427387904)/\(0<=p1.cy/\p1.cy<=4611686018427387904)):=bU (fun W5 b d=>by
  have d':=Dr.drew L h d;obtain⟨cR,a⟩:=d'.r.yw;obtain⟨s',G',LP,Qc,UK⟩:=a.hv;obtain⟨pp,Rn,Qd⟩:=LP.pc;have t1:=Qd.g.GD;have dS:=yj W5.drew (E.A 27) pp Rn t1;have dC:=v8 W5.drew (E.A 27) pp Rn t1;have dA:=wb W5.drew (E.A 27) pp Rn t1;rw[Qd.si] at dS;rw[Qd.cy] at dC;rw[Qd.ac] at dA;exact⟨⟨LP.cells.2.2.1,⟨d.b8.cell 5,d.b8.cE 5⟩,⟨d.b8.cell 6,d.b8.cE 6⟩,⟨d.b8.cell 7,d.b8.cE 7⟩,Dr.ne L h d⟩,dS,dC,dA,Qc.ok.si,Qc.ok.cy⟩)
 have H9:Hid (∀W5 b,Dr w W5 C E c ws N p1 2 q {s0 with used:=p1.v.used} b→Dr w (((W5.setCell (aj b 5) (U (min p1.si 2147483647))).setCell (aj b 6) (U (min p1.cy 2147483647))).setCell (aj b 7) (.bool p1.v.act)).drew C E c ws N p1 2 q (Aj p1 s0) b):=bU (fun W5 b d=>by
  rw[←Ai,←Ai];exact Dr.drew L h (Dr.one L h (s:={s0 with used:=p1.v.used,since:=j3 p1.si,gY:=j3 p1.cy}) (Dr.one L h (s:={s0 with used:=p1.v.used,since:=j3 p1.si}) (Dr.one L h d 5 _ rfl) 6 _ rfl) 7 _ rfl))
 have HF:=bU (fun wx b (d:Dr w wx C E c ws N p1 2 q (Aj p1 s0) b)=>Dr.end L h d);clear h L bO bS hB hvW hp rp gn h1 k1 Qb DD hq hN JZ hS eD;generalize Aj p1 s0=sf at *;go_enter func52,ntmps52
 go_upto_if 17 with(first
  | (go_at_call 73;(with_reducible refine dN.mono ?_);rintro e w1 ⟨rfl,rfl⟩)
  | (refine wpList_load_row rfl _ _ rfl w.heap.size rfl 54 #[ab q.code,aa q.h,U q.a,U q.b,aa q.x] (0,0) _ SJ underlying54 rfl (by kernel_rfl) ?_)
  | (go_at_call 76;(with_reducible refine D4.mono ?_);rintro e w2 ⟨rfl,hD⟩;obtain⟨W3,tP⟩:=al (w2.alloc (.cells #[U p2.e,aa p2.h,aa p2.w,U p2.addr,U p2.used,U p2.since,U p2.gY,.bool p2.ac] 38));have d3:=bU (hD.out W3 tP);have y0:=HE.out W3 _ d3.out))
 go_cut [] (fun wx=>Hid (Dr w wx C E c ws N p1 2 q s0 w2.heap.size))
 case first=>
  by_cases he:p2.e=0
  .have hc:(p2.e != 0)=false:=by rw[he];rfl
   have e0:=bU (E0.out he);clear he;go_wp2_with fail
   go_meet
   exact bU (by rw[←e0.out];exact d3.out)
  .have hc:(p2.e != 0)=true:=by rw[bne_iff_ne];exact he
   have e0:=bU (E1.out he);clear he;go_wp2_with (first
    | (go_at_call 75;(with_reducible refine(HT.out _ _).mono ?_);rintro e w4 ⟨rfl,hb⟩;obtain⟨bz,hZ⟩:=H5.out W3 w4 _ d3.out hb;clear hb)
    | (refine wpList_store_row rfl _ _ _ rfl w2.heap.size (cX (Sn.told p2.e)) rfl rfl 38 (cX p2) bz cG rfl (eE _) ?_))
   go_meet
   exact bU (by rw[←e0.out];exact hZ.out)
 case rest=>
 obtain⟨⟨y7,y4,f4⟩,dA,dU,W5,OD,h5⟩:=HR.out wc _ hcut.out;clear y0 E0 E1 H5 HE;go_wp2_with (first
  | (go_at_call 77;(with_reducible refine dA.mono ?_);rintro e w5 ⟨rfl,rfl⟩)
  | (go_at_call 78;(with_reducible refine dU.mono ?_);rintro e w5 ⟨rfl,rfl⟩))
 obtain⟨⟨z8,⟨z5,g5⟩,⟨z6,g6⟩,⟨z7,g7⟩,n1,n2⟩,dS,dC,dT,⟨i1,i2⟩,⟨j1,j2⟩⟩:=H8.out W5 _ h5.out
 go_cut [] (fun wx=>Hid (Dr w wx C E c ws N p1 2 q sf w2.heap.size))
 case first=>
  go_region_held3 (fun w'=>w'.cell? (aj (E.A 26) 8)=some (af (aj (E.A 27)))) (first|(with_reducible exact z8)|go_keep)
   ((first
    | (go_at_call 79;refine dS.mono ?_;rintro e w6 ⟨rfl,rfl⟩)
    | (go_at_call 80;refine dC.mono ?_;rintro e w6 ⟨rfl,rfl⟩)
    | (go_at_call 81;refine dT.mono ?_;rintro e w6 ⟨rfl,rfl⟩)))
  all_goals
   go_wp2_with fail
   go_meet
   exact bU (H9.out W5 _ h5.out)
 case rest=>
 obtain⟨bv,bz,hZ⟩:=HF.out wc _ hcut.out;clear z5 z6 z7 z8 g5 g6 g7 n1 n2 dS dC dT i1 i2 j1 j2;go_wp2_with (first
  | (refine wpList_load_row rfl _ _ rfl w2.heap.size rfl 38 (cX sf) (0,0) _ bv underlying38 rfl cG ?_)
  | (refine wpList_store_row rfl _ _ _ rfl (w.heap.size+1) (cX sf) rfl rfl 38 eY bz cG rfl (eE _) ?_))
 refine bodyPost_ret (results_cell_row rfl _ _ (w.heap.size+1) 38 (cX sf) (0,0) _ rfl (hZ.out _).1 underlying38 rfl cG) rfl ?_;exact⟨rfl,(hZ.out _).2⟩
end Hp
namespace Hp
open Go.RowKit Go.bZ Go.Gc Go.Cf Cn Go.Proofs.YtgblmelijlgimaaGreatDoor.Fd Sl Bd Ca Hd Tb Mm Mk Sw Cy
theorem Hr{w:World}{C:cV}{E:Env}{c:cF}{ws:List Int}{N:Int}{x:V}(L:Lk C E c)(h:Hv w C E c ws N x)(i:Int){z:Int}(iX:0<=z)(jm:z<256):ak 50 #[af (aj (E.A 26)),U i,ab z] w fun e w'=>∃b,e=ae (.bool b)/\∃cR,fF w w' C E c ws N x 0 cR:=by
 obtain⟨s,G,hp,r,gn⟩:=id h;have dN:=cC hp;have H0:=bU (fF.none L h (bV _ _));obtain⟨zz,b⟩:=hp.b;have c3:w.cell? (aj (E.A 26) 3)=some (U c.wk):=b.cell 3;have c7:=hp.cells.2.1;by_cases h0:i<0
 .clear h hp r gn b
  have e0:decide ((0:Int)<=i)=false:=az (by omega);go_enter func50,ntmps50;go_wp2_with (go_at_call 73;(with_reducible refine dN.mono ?_);rintro e w1 ⟨rfl,rfl⟩)
  go_ret;exact⟨_,rfl,ws,H0.out⟩
 have e0:decide ((0:Int)<=i)=true:=aw (by omega);by_cases h1:i<(c.wk:Int)
 .have e1:decide (i<(c.wk:Int))=true:=aw h1
  have hK:C.K.Ok:=by rw[L.cK];exact L.e.K
  have hd:ny E.K s G:=by rw[←L.cK];exact Rp.hd hK r
  obtain⟨n,rfl⟩:∃n:Nat,i=n:=⟨i.toNat,by omega⟩;have dS:ak 74 #[af (aj (E.A 25)),U n,ab z] w fun e w'=>∃b,e=ae (.bool b)/\Hid (∃cR,fF w w' C E c ws N x 0 cR):=by
   refine(qm L.e hp.cp (Rp.uP L r) hd (i:=n) (by rw[L.hn];omega) iX jm).mono ?_;rintro e w1 ⟨b1,fS,s1,rfl,m,-⟩;exact⟨b1,rfl,bU ⟨fS,⟨s1,G,by rw[Int.add_zero];exact hp.gY L m.ch (by decide) m.cy,r.same (by rw[L.cK];exact m.inv) (by rw[L.cK];exact m.vs),gn⟩,m.rg,m.ch.up (Om.up (by decide))⟩⟩
  clear h hp r gn b hK hd;go_enter func50,ntmps50;go_wp2_with (first
   | (go_at_call 73;(with_reducible refine dN.mono ?_);rintro e w1 ⟨rfl,rfl⟩)
   | (go_at_call 74;(with_reducible refine dS.mono ?_);rintro e w1 ⟨b1,rfl,hZ⟩))
  go_ret;exact⟨_,rfl,hZ.out⟩
 .have e1:decide (i<(c.wk:Int))=false:=az h1
  clear h hp r gn b;go_enter func50,ntmps50;go_wp2_with (go_at_call 73;(with_reducible refine dN.mono ?_);rintro e w1 ⟨rfl,rfl⟩)
  go_ret;exact⟨_,rfl,ws,H0.out⟩
end Hp
end Go.Proofs.YtgblmelijlgimaaGreatDoor
