import Derived.Test.YtbplobpobnagkaaGreatDoorSH
noncomputable section
namespace Go.Proofs.Vd
open Go.Ab Go.Ab.Lf
set_option maxRecDepth 100000
theorem Py:(aay ([-1],20,())).val=aS (oB B6 kO pe ([-1,0,0,0,0,0,0,0,0,0,0,0,0,0,0,0,0,0,0,0],1,())) (some (aA Eg (gH B6 kO pe ([-1,0,0,0,0,0,0,0,0,0,0,0,0,0,0,0,0,0,0,0],1,())))):=by kernel_rfl
theorem Cc:Ke ([-1],20,())=true/\Kf ([-1],20,())=(List.replicate 20 (-1),()):=by
 have R:gQ B6 (aA kO ([-1,0,0,0,0,0,0,0,0,0,0,0,0,0,0,0,0,0,0,0],1,())) 0 (aA pe (List.replicate 20 (-1),())):=by
  refine .more (pl':=aA kO ([-1,-1,0,0,0,0,0,0,0,0,0,0,0,0,0,0,0,0,0,0],2,())) (by kernel_rfl) (.more (pl':=aA kO ([-1,-1,-1,-1,0,0,0,0,0,0,0,0,0,0,0,0,0,0,0,0],4,())) (by kernel_rfl) (.more (pl':=aA kO ([-1,-1,-1,-1,-1,-1,-1,-1,0,0,0,0,0,0,0,0,0,0,0,0],8,())) (by kernel_rfl) (.more (pl':=aA kO ([-1,-1,-1,-1,-1,-1,-1,-1,-1,-1,-1,-1,-1,-1,-1,-1,0,0,0,0],16,())) (by kernel_rfl) (.more (pl':=aA kO ([-1,-1,-1,-1,-1,-1,-1,-1,-1,-1,-1,-1,-1,-1,-1,-1,-1,-1,-1,-1],20,())) (by kernel_rfl) (.last (by kernel_rfl))))))
 obtain⟨q1,q2⟩:=jN R
 refine uV (bW _) (bW _) ?_
 rw[Py,q1,q2]
 rfl
section
variable (V:ByteArray->Bool){E:List (den aD)}{a:Int}
theorem mbT(hl:E.length<=500)(hE: ∀ e,e∈E->eT e):MB ([([],[])]) ([]) ([0,0,0]) ([((20:Int),(-1:Int))]) ([((1:Int),(-1:Int))]) (dg) ([]) (-1) (E) (iu) ([(eC 65 a 0,[5])]):=by
 refine⟨by show 1<=1099511627776;decide,by show 0<=1099511627776;decide,by show 3<=1099511627776;decide,by show 1<=1099511627776;decide,by show 1<=1099511627776;decide,by show 3<=1099511627776;decide,by show 0<=1099511627776;decide,by omega,by show 3<=1099511627776;decide,by show 1<=1099511627776;decide,fun x hx=>?_,fun x hx=>?_,fun x hx=>?_,fun x hx=>?_,fun x hx=>?_⟩
 ·rw[show x=([],[]) by simpa using hx];exact⟨Nat.zero_le _,Nat.zero_le _⟩
 ·obtain⟨_,o,lo,hi,h⟩:=tx x hx
  exact h.wr.2.2.2.2.2
 ·obtain⟨⟨lo,h,_⟩,h2,_⟩:=hE x hx
  rw[h];exact⟨Wq _ _ _,Nat.le_trans h2 (by decide)⟩
 ·rw[show x=([],[iC 11 0 0]) by simpa using hx];exact⟨Nat.zero_le _,aaJ⟩
 ·rw[show x=(eC 65 a 0,[5]) by simpa using hx];exact⟨Wq _ _ _,(show 1<=1099511627776 by decide)⟩
theorem aaR(hE: ∀ e,e∈E->eT e): ∀ g:den aD,g∈E->Seg g.1 g.2.length:=fun g hg=>by
 obtain⟨⟨lo,h,h0,h1⟩,h2,_⟩:=hE g hg
 rw[h]
 exact Ph h0 h1 (Nat.le_trans h2 (by decide))
theorem ae'(a0:0<=a)(a1:a<4294967296): ∀ g:den aH,g∈([(eC 65 a 0,[5])]:List (den aH))->Seg g.1 g.2.length:=fun g hg=>by
 rw[show g=(eC 65 a 0,[5]) by simpa using hg]
 exact Ph a0 a1 (show 1<=1099511627776 by decide)
theorem aaS(hl:E.length<=500)(hE: ∀ e,e∈E->eT e)(a0:0<=a)(a1:a<4294967296)(h4:gP V (yT E a)=4):ky8 V (yT E a)=true/\my8 V (yT E a)=(4,()):=by
 obtain⟨k1,_⟩:=Pj V hl hE a0 a1
 refine uV (bW _) (bW _) ?_
 refine(aaG V ([([],[])]) ([]) ([0,0,0]) ([((20:Int),(-1:Int))]) ([((1:Int),(-1:Int))]) (dg) ([]) (-1) (E) (iu) ([(eC 65 a 0,[5])]) _ rfl _ rfl _ rfl _ rfl).trans ?_
 rw[k1,h4]
 rfl
theorem UE(hl:E.length<=500)(hE: ∀ e,e∈E->eT e)(a0:0<=a)(a1:a<4294967296)(h0:gP V (yT E a)=0)(hL:layAll (List.replicate 20 (-1)) (E.map fun g=>(Cb g.1,g.2))=none):ky8 V (yT E a)=true/\my8 V (yT E a)=(13,()):=by
 obtain⟨k1,_⟩:=Pj V hl hE a0 a1
 obtain⟨c1,c2⟩:=aax ([([],[])]) ([]) ([0,0,0]) ([((20:Int),(-1:Int))]) ([((1:Int),(-1:Int))]) (dg) ([]) (-1) (E) (iu) ([(eC 65 a 0,[5])]) (mbT hl hE)
 have q0:=jN (Pe ([([],[])]) ([]) ([0,0,0]) ([((20:Int),(-1:Int))]) ([((1:Int),(-1:Int))]) (dg) ([]) (-1) (E) (iu) ([(eC 65 a 0,[5])]) ([([],[])]) ([]) ([0,0,0]) ([((20:Int),(-1:Int))]) ([((1:Int),(-1:Int))]) (dg) ([]) (-1) (E) (iu) ([(eC 65 a 0,[5])]) dg (by decide) (fun g hg=>GL (tx g hg)))
 obtain⟨t1,t2⟩:=Cc
 obtain⟨Z,hZ⟩: ∃ Z,Z=List.replicate 65536 (0:Int):=⟨_,rfl⟩
 have hz:Z.length=65536:=by rw[hZ];exact List.length_replicate ..
 have r2:=Pf ([([],[])]) ([]) ([0,0,0]) ([((20:Int),(-1:Int))]) ([((1:Int),(-1:Int))]) (dg) ([]) (-1) (E) (iu) ([(eC 65 a 0,[5])]) ([([],[])]) ([]) ([0,0,0]) ([((20:Int),(-1:Int))]) ([((1:Int),(-1:Int))]) (dg) ([]) (-1) (E) (iu) ([(eC 65 a 0,[5])]) (fR dg).1 (fR dg).2.1 (fR dg).2.2 Z (-1) E (by omega) (aaR hE) E.length 0 (List.replicate 20 (-1)) (by omega) (by rw[List.length_replicate];decide)
 rw[List.drop_zero,hL]at r2
 obtain⟨X2,Av⟩: ∃ X2:ak cN,X2=([([],[])],[],[0,0,0],[((20:Int),(-1:Int))],[((1:Int),(-1:Int))],dg,[],-1,E,iu,[(eC 65 a 0,[5])],(fR dg).1,(fR dg).2.1,(fR dg).2.2,List.replicate 20 (-1),[([],[])],[],[0,0,0],[((20:Int),(-1:Int))],[((1:Int),(-1:Int))],dg,[],-1,E,iu,[(eC 65 a 0,[5])],Z,-1,E,(E.length:Int),0,()):=⟨_,rfl⟩
 obtain⟨p1,p2,p3⟩:=Bz (f:=fH) (ti:=cN) (t0:=dD) (t1:=ey) r2
 have p1:rG fH cN dD ey X2=true:=by rw[Av];exact p1
 have p2:qw fH cN X2=false:=by rw[Av];exact p2
 have p3:gH fH cN ey X2=(13,()):=by rw[Av];exact p3
 have E1:=aaG V ([([],[])]) ([]) ([0,0,0]) ([((20:Int),(-1:Int))]) ([((1:Int),(-1:Int))]) (dg) ([]) (-1) (E) (iu) ([(eC 65 a 0,[5])]) _ c2.symm _ rfl _ q0.2.symm ((1:Int),(-1:Int)) rfl
 rw[k1,h0,c1,show oB sC gz fx ([([],[])],[],[0,0,0],[((20:Int),(-1:Int))],[((1:Int),(-1:Int))],dg,[],-1,E,iu,[(eC 65 a 0,[5])],[],[],[],[([],[])],[],[0,0,0],[((20:Int),(-1:Int))],[((1:Int),(-1:Int))],dg,[],-1,E,iu,[(eC 65 a 0,[5])],dg,(dg.length:Int),0,())=true from q0.1]at E1
 rw[kt rfl,show(!decide ((0:Int)=0))=false from rfl,cond_false,kt rfl,kt rfl]at E1
 have E1:=E1.trans (aaK (fun tab=>yQ V ([([],[])]) ([]) ([0,0,0]) ([((20:Int),(-1:Int))]) ([((1:Int),(-1:Int))]) (dg) ([]) (-1) (E) (iu) ([(eC 65 a 0,[5])]) ([([],[])],[],[0,0,0],[((20:Int),(-1:Int))],[((1:Int),(-1:Int))],dg,[],-1,E,iu,[(eC 65 a 0,[5])],(fR dg).1,(fR dg).2.1,(fR dg).2.2,[([],[])],[],[0,0,0],[((20:Int),(-1:Int))],[((1:Int),(-1:Int))],dg,[],-1,E,iu,[(eC 65 a 0,[5])],()) (1,-1) tab) 20)
 rw[t1,t2,kt rfl]at E1
 refine uV (bW _) (bW _) ?_
 refine E1.trans ?_
 have R:=Er V ([([],[])]) ([]) ([0,0,0]) ([((20:Int),(-1:Int))]) ([((1:Int),(-1:Int))]) (dg) ([]) (-1) (E) (iu) ([(eC 65 a 0,[5])]) ([([],[])]) ([]) ([0,0,0]) ([((20:Int),(-1:Int))]) (dg) ([]) (-1) (E) (iu) ([(eC 65 a 0,[5])]) ([([],[])]) ([]) ([0,0,0]) ([((20:Int),(-1:Int))]) ([((1:Int),(-1:Int))]) (dg) ([]) (-1) (E) (iu) ([(eC 65 a 0,[5])]) (fR dg).1 (fR dg).2.1 (fR dg).2.2 (List.replicate 20 (-1)) X2 (by rw[Av,hZ]) _ rfl _ rfl _ rfl
 rw[p1,p2,p3]at R
 exact R
theorem UG(hl:E.length<=500)(hE: ∀ e,e∈E->eT e)(a0:0<=a)(a1:a<4294967296)(ha:65536<=a)(h0:gP V (yT E a)=0){t:List Int}(hL:layAll (List.replicate 20 (-1)) (E.map fun g=>(Cb g.1,g.2))=some t):ky8 V (yT E a)=true/\my8 V (yT E a)=(14,()):=by
 obtain⟨k1,_⟩:=Pj V hl hE a0 a1
 obtain⟨c1,c2⟩:=aax ([([],[])]) ([]) ([0,0,0]) ([((20:Int),(-1:Int))]) ([((1:Int),(-1:Int))]) (dg) ([]) (-1) (E) (iu) ([(eC 65 a 0,[5])]) (mbT hl hE)
 have q0:=jN (Pe ([([],[])]) ([]) ([0,0,0]) ([((20:Int),(-1:Int))]) ([((1:Int),(-1:Int))]) (dg) ([]) (-1) (E) (iu) ([(eC 65 a 0,[5])]) ([([],[])]) ([]) ([0,0,0]) ([((20:Int),(-1:Int))]) ([((1:Int),(-1:Int))]) (dg) ([]) (-1) (E) (iu) ([(eC 65 a 0,[5])]) dg (by decide) (fun g hg=>GL (tx g hg)))
 obtain⟨t1,t2⟩:=Cc
 obtain⟨Z,hZ⟩: ∃ Z,Z=List.replicate 65536 (0:Int):=⟨_,rfl⟩
 have hz:Z.length=65536:=by rw[hZ];exact List.length_replicate ..
 have r2:=Pf ([([],[])]) ([]) ([0,0,0]) ([((20:Int),(-1:Int))]) ([((1:Int),(-1:Int))]) (dg) ([]) (-1) (E) (iu) ([(eC 65 a 0,[5])]) ([([],[])]) ([]) ([0,0,0]) ([((20:Int),(-1:Int))]) ([((1:Int),(-1:Int))]) (dg) ([]) (-1) (E) (iu) ([(eC 65 a 0,[5])]) (fR dg).1 (fR dg).2.1 (fR dg).2.2 Z (-1) E (by omega) (aaR hE) E.length 0 (List.replicate 20 (-1)) (by omega) (by rw[List.length_replicate];decide)
 rw[List.drop_zero,hL]at r2
 obtain⟨X2,Av⟩: ∃ X2:ak cN,X2=([([],[])],[],[0,0,0],[((20:Int),(-1:Int))],[((1:Int),(-1:Int))],dg,[],-1,E,iu,[(eC 65 a 0,[5])],(fR dg).1,(fR dg).2.1,(fR dg).2.2,List.replicate 20 (-1),[([],[])],[],[0,0,0],[((20:Int),(-1:Int))],[((1:Int),(-1:Int))],dg,[],-1,E,iu,[(eC 65 a 0,[5])],Z,-1,E,(E.length:Int),0,()):=⟨_,rfl⟩
 obtain⟨p1,p2,p3⟩:=sW (f:=fH) (ti:=cN) (t0:=dD) (t1:=ey) r2
 have p1:rG fH cN dD ey X2=true:=by rw[Av];exact p1
 have p2:qw fH cN X2=true:=by rw[Av];exact p2
 have p3:gH fH cN dD X2=([([],[])],[],[0,0,0],[((20:Int),(-1:Int))],[((1:Int),(-1:Int))],dg,[],-1,E,iu,[(eC 65 a 0,[5])],(fR dg).1,(fR dg).2.1,(fR dg).2.2,t,[([],[])],[],[0,0,0],[((20:Int),(-1:Int))],[((1:Int),(-1:Int))],dg,[],-1,E,iu,[(eC 65 a 0,[5])],Z,-1,()):=by rw[Av];exact p3
 have r4:=Wp ([([],[])]) ([]) ([0,0,0]) ([((20:Int),(-1:Int))]) ([((1:Int),(-1:Int))]) (dg) ([]) (-1) (E) (iu) ([(eC 65 a 0,[5])]) (fR dg).1 (fR dg).2.1 (fR dg).2.2 t (-1) [(eC 65 a 0,[5])] (by show 1<=1000000;decide) (ae' a0 a1) 1 0 Z rfl (by omega)
 obtain⟨X4,GG⟩: ∃ X4:ak dz,X4=((fR dg).1,(fR dg).2.1,(fR dg).2.2,t,[([],[])],[],[0,0,0],[((20:Int),(-1:Int))],[((1:Int),(-1:Int))],dg,[],-1,E,iu,[(eC 65 a 0,[5])],Z,-1,[(eC 65 a 0,[5])],(([(eC 65 a 0,[5])]:List (den aH)).length:Int),0,()):=⟨_,rfl⟩
 have e4:layAll Z ((([(eC 65 a 0,[5])]:List (den aH)).drop 0).map fun g=>(Cb g.1,g.2))=(n4 Z a [5]).bind fun t=>some t:=by
  show layAll Z [(a,[(5:Int)])]=_
  rw[nF]
  rfl
 have e5:n4 Z a [5]=none:=by
  unfold n4
  rw[dt (show(Z.length:Int)<a+(([5]:List Int).length:Int) by rw[hz];show((65536:Nat):Int)<a+((1:Nat):Int);omega)]
  rfl
 rw[e4,e5]at r4
 obtain⟨u1,u2,u3⟩:=Bz (f:=gJ) (ti:=dz) (t0:=dV) (t1:=fy) r4
 have u1:rG gJ dz dV fy X4=true:=by rw[GG];exact u1
 have u2:qw gJ dz X4=false:=by rw[GG];exact u2
 have u3:gH gJ dz fy X4=(14,()):=by rw[GG];exact u3
 have E1:=aaG V ([([],[])]) ([]) ([0,0,0]) ([((20:Int),(-1:Int))]) ([((1:Int),(-1:Int))]) (dg) ([]) (-1) (E) (iu) ([(eC 65 a 0,[5])]) _ c2.symm _ rfl _ q0.2.symm ((1:Int),(-1:Int)) rfl
 rw[k1,h0,c1,show oB sC gz fx ([([],[])],[],[0,0,0],[((20:Int),(-1:Int))],[((1:Int),(-1:Int))],dg,[],-1,E,iu,[(eC 65 a 0,[5])],[],[],[],[([],[])],[],[0,0,0],[((20:Int),(-1:Int))],[((1:Int),(-1:Int))],dg,[],-1,E,iu,[(eC 65 a 0,[5])],dg,(dg.length:Int),0,())=true from q0.1]at E1
 rw[kt rfl,show(!decide ((0:Int)=0))=false from rfl,cond_false,kt rfl,kt rfl]at E1
 have E1:=E1.trans (aaK (fun tab=>yQ V ([([],[])]) ([]) ([0,0,0]) ([((20:Int),(-1:Int))]) ([((1:Int),(-1:Int))]) (dg) ([]) (-1) (E) (iu) ([(eC 65 a 0,[5])]) ([([],[])],[],[0,0,0],[((20:Int),(-1:Int))],[((1:Int),(-1:Int))],dg,[],-1,E,iu,[(eC 65 a 0,[5])],(fR dg).1,(fR dg).2.1,(fR dg).2.2,[([],[])],[],[0,0,0],[((20:Int),(-1:Int))],[((1:Int),(-1:Int))],dg,[],-1,E,iu,[(eC 65 a 0,[5])],()) (1,-1) tab) 20)
 rw[t1,t2,kt rfl]at E1
 refine uV (bW _) (bW _) ?_
 refine E1.trans ?_
 have R:=Er V ([([],[])]) ([]) ([0,0,0]) ([((20:Int),(-1:Int))]) ([((1:Int),(-1:Int))]) (dg) ([]) (-1) (E) (iu) ([(eC 65 a 0,[5])]) ([([],[])]) ([]) ([0,0,0]) ([((20:Int),(-1:Int))]) (dg) ([]) (-1) (E) (iu) ([(eC 65 a 0,[5])]) ([([],[])]) ([]) ([0,0,0]) ([((20:Int),(-1:Int))]) ([((1:Int),(-1:Int))]) (dg) ([]) (-1) (E) (iu) ([(eC 65 a 0,[5])]) (fR dg).1 (fR dg).2.1 (fR dg).2.2 (List.replicate 20 (-1)) X2 (by rw[Av,hZ]) _ p3.symm X4 (by rw[GG]) _ rfl
 rw[p1,p2,u1,u2,u3]at R
 exact R
theorem UH(hl:E.length<=500)(hE: ∀ e,e∈E->eT e)(a0:0<=a)(a1:a<4294967296)(ha:a<65536)(h0:gP V (yT E a)=0){t:List Int}(hL:layAll (List.replicate 20 (-1)) (E.map fun g=>(Cb g.1,g.2))=some t): ∃ bs:List Int,kz8 V (yT E a)=true/\mz8 V (yT E a)=((fR dg).1,(fR dg).2.1,(fR dg).2.2,t,[([],[])],[],[0,0,0],[((20:Int),(-1:Int))],[((1:Int),(-1:Int))],dg,[],-1,E,iu,[(eC 65 a 0,[5])],bs,-1,0,()):=by
 obtain⟨k1,_⟩:=Pj V hl hE a0 a1
 obtain⟨c1,c2⟩:=aax ([([],[])]) ([]) ([0,0,0]) ([((20:Int),(-1:Int))]) ([((1:Int),(-1:Int))]) (dg) ([]) (-1) (E) (iu) ([(eC 65 a 0,[5])]) (mbT hl hE)
 have q0:=jN (Pe ([([],[])]) ([]) ([0,0,0]) ([((20:Int),(-1:Int))]) ([((1:Int),(-1:Int))]) (dg) ([]) (-1) (E) (iu) ([(eC 65 a 0,[5])]) ([([],[])]) ([]) ([0,0,0]) ([((20:Int),(-1:Int))]) ([((1:Int),(-1:Int))]) (dg) ([]) (-1) (E) (iu) ([(eC 65 a 0,[5])]) dg (by decide) (fun g hg=>GL (tx g hg)))
 obtain⟨t1,t2⟩:=Cc
 obtain⟨Z,hZ⟩: ∃ Z,Z=List.replicate 65536 (0:Int):=⟨_,rfl⟩
 have hz:Z.length=65536:=by rw[hZ];exact List.length_replicate ..
 have r2:=Pf ([([],[])]) ([]) ([0,0,0]) ([((20:Int),(-1:Int))]) ([((1:Int),(-1:Int))]) (dg) ([]) (-1) (E) (iu) ([(eC 65 a 0,[5])]) ([([],[])]) ([]) ([0,0,0]) ([((20:Int),(-1:Int))]) ([((1:Int),(-1:Int))]) (dg) ([]) (-1) (E) (iu) ([(eC 65 a 0,[5])]) (fR dg).1 (fR dg).2.1 (fR dg).2.2 Z (-1) E (by omega) (aaR hE) E.length 0 (List.replicate 20 (-1)) (by omega) (by rw[List.length_replicate];decide)
 rw[List.drop_zero,hL]at r2
 obtain⟨X2,Av⟩: ∃ X2:ak cN,X2=([([],[])],[],[0,0,0],[((20:Int),(-1:Int))],[((1:Int),(-1:Int))],dg,[],-1,E,iu,[(eC 65 a 0,[5])],(fR dg).1,(fR dg).2.1,(fR dg).2.2,List.replicate 20 (-1),[([],[])],[],[0,0,0],[((20:Int),(-1:Int))],[((1:Int),(-1:Int))],dg,[],-1,E,iu,[(eC 65 a 0,[5])],Z,-1,E,(E.length:Int),0,()):=⟨_,rfl⟩
 obtain⟨p1,p2,p3⟩:=sW (f:=fH) (ti:=cN) (t0:=dD) (t1:=ey) r2
 have p1:rG fH cN dD ey X2=true:=by rw[Av];exact p1
 have p2:qw fH cN X2=true:=by rw[Av];exact p2
 have p3:gH fH cN dD X2=([([],[])],[],[0,0,0],[((20:Int),(-1:Int))],[((1:Int),(-1:Int))],dg,[],-1,E,iu,[(eC 65 a 0,[5])],(fR dg).1,(fR dg).2.1,(fR dg).2.2,t,[([],[])],[],[0,0,0],[((20:Int),(-1:Int))],[((1:Int),(-1:Int))],dg,[],-1,E,iu,[(eC 65 a 0,[5])],Z,-1,()):=by rw[Av];exact p3
 have r4:=Wp ([([],[])]) ([]) ([0,0,0]) ([((20:Int),(-1:Int))]) ([((1:Int),(-1:Int))]) (dg) ([]) (-1) (E) (iu) ([(eC 65 a 0,[5])]) (fR dg).1 (fR dg).2.1 (fR dg).2.2 t (-1) [(eC 65 a 0,[5])] (by show 1<=1000000;decide) (ae' a0 a1) 1 0 Z rfl (by omega)
 obtain⟨X4,GG⟩: ∃ X4:ak dz,X4=((fR dg).1,(fR dg).2.1,(fR dg).2.2,t,[([],[])],[],[0,0,0],[((20:Int),(-1:Int))],[((1:Int),(-1:Int))],dg,[],-1,E,iu,[(eC 65 a 0,[5])],Z,-1,[(eC 65 a 0,[5])],(([(eC 65 a 0,[5])]:List (den aH)).length:Int),0,()):=⟨_,rfl⟩
 have e4:layAll Z ((([(eC 65 a 0,[5])]:List (den aH)).drop 0).map fun g=>(Cb g.1,g.2))=(n4 Z a [5]).bind fun t=>some t:=by
  show layAll Z [(a,[(5:Int)])]=_
  rw[nF]
  rfl
 have e5:n4 Z a [5]=some (B8 Z a.toNat (Z.length - a.toNat) [5]):=by
  unfold n4
  rw[df (show ¬ (Z.length:Int)<a+(([5]:List Int).length:Int) by rw[hz];show ¬ ((65536:Nat):Int)<a+((1:Nat):Int);omega)]
  rfl
 rw[e4,e5]at r4
 obtain⟨bs,hbs⟩: ∃ bs,bs=B8 Z a.toNat (Z.length - a.toNat) [5]:=⟨_,rfl⟩
 rw[<-hbs]at r4
 obtain⟨u1,u2,u3⟩:=sW (f:=gJ) (ti:=dz) (t0:=dV) (t1:=fy) r4
 have u1:rG gJ dz dV fy X4=true:=by rw[GG];exact u1
 have u2:qw gJ dz X4=true:=by rw[GG];exact u2
 have u3:gH gJ dz dV X4=((fR dg).1,(fR dg).2.1,(fR dg).2.2,t,[([],[])],[],[0,0,0],[((20:Int),(-1:Int))],[((1:Int),(-1:Int))],dg,[],-1,E,iu,[(eC 65 a 0,[5])],bs,-1,()):=by rw[GG];exact u3
 refine⟨bs,?_⟩
 have E1:=ajV V ([([],[])]) ([]) ([0,0,0]) ([((20:Int),(-1:Int))]) ([((1:Int),(-1:Int))]) (dg) ([]) (-1) (E) (iu) ([(eC 65 a 0,[5])]) _ c2.symm _ rfl _ q0.2.symm ((1:Int),(-1:Int)) rfl
 rw[k1,h0,c1,show oB sC gz fx ([([],[])],[],[0,0,0],[((20:Int),(-1:Int))],[((1:Int),(-1:Int))],dg,[],-1,E,iu,[(eC 65 a 0,[5])],[],[],[],[([],[])],[],[0,0,0],[((20:Int),(-1:Int))],[((1:Int),(-1:Int))],dg,[],-1,E,iu,[(eC 65 a 0,[5])],dg,(dg.length:Int),0,())=true from q0.1]at E1
 rw[kt rfl,show(!decide ((0:Int)=0))=false from rfl,cond_false,kt rfl,kt rfl]at E1
 have E1:=E1.trans (aaK (fun tab=>B9 V ([([],[])]) ([]) ([0,0,0]) ([((20:Int),(-1:Int))]) ([((1:Int),(-1:Int))]) (dg) ([]) (-1) (E) (iu) ([(eC 65 a 0,[5])]) ([([],[])],[],[0,0,0],[((20:Int),(-1:Int))],[((1:Int),(-1:Int))],dg,[],-1,E,iu,[(eC 65 a 0,[5])],(fR dg).1,(fR dg).2.1,(fR dg).2.2,[([],[])],[],[0,0,0],[((20:Int),(-1:Int))],[((1:Int),(-1:Int))],dg,[],-1,E,iu,[(eC 65 a 0,[5])],()) (1,-1) tab) 20)
 rw[t1,t2,kt rfl]at E1
 refine uV (bW _) (bW _) ?_
 refine E1.trans ?_
 have R:=Pg V ([([],[])]) ([]) ([0,0,0]) ([((20:Int),(-1:Int))]) ([((1:Int),(-1:Int))]) (dg) ([]) (-1) (E) (iu) ([(eC 65 a 0,[5])]) ([([],[])]) ([]) ([0,0,0]) ([((20:Int),(-1:Int))]) (dg) ([]) (-1) (E) (iu) ([(eC 65 a 0,[5])]) ([([],[])]) ([]) ([0,0,0]) ([((20:Int),(-1:Int))]) ([((1:Int),(-1:Int))]) (dg) ([]) (-1) (E) (iu) ([(eC 65 a 0,[5])]) (fR dg).1 (fR dg).2.1 (fR dg).2.2 (List.replicate 20 (-1)) X2 (by rw[Av,hZ]) _ p3.symm X4 (by rw[GG]) _ u3.symm
 rw[p1,p2,u1,u2]at R
 exact R
end
end Go.Proofs.Vd

noncomputable section
namespace Go.Proofs.Vd
open Go.Ab Go.Ab.Lf
set_option maxRecDepth 100000
theorem afa{j:Nat}(h:j<4294967296):aV .u32 (j:Int)=(j:Int):=by
 have:aV .u32 (j:Int)=(j:Int) % 4294967296:=rfl
 rw[this];omega
theorem afb(m1:List (den aI))(m2:List (den aP))(m3:List Int)(m4:List (den aj))(m5:List (den aj))(m6:List (den aC))(m7:List (den aO))(m8:Int)(m9:List (den aD))(bK:List (den aK))(bL:List (den aH))(v a b bs:List Int)(mo:Int){t w:List Int}(I:TbI t w):gQ rk (aA iP (w,v,a,b,t,m1,m2,m3,m4,m5,m6,m7,m8,m9,bK,bL,bs,mo,((0:Nat):Int),())) 0 (aA ju (v,a,b,t,m1,m2,m3,m4,m5,m6,m7,m8,m9,bK,bL,bs,mo,())):=by
 refine mX 20 (fun j=>aA iP (w,v,a,b,t,m1,m2,m3,m4,m5,m6,m7,m8,m9,bK,bL,bs,mo,(j:Int),())) _ (fun j hj=>?_) ?_
 ·refine(Pu m1 m2 m3 m4 m5 m6 m7 m8 m9 bK bL w v a b t bs mo (j:Int)).trans ?_
  have hw:=I.w j hj
  have hb:=I.b j hj
  have c2:bg (j:Int) (t.length:Int)=true:=bZ (by rw[I.tl];exact hj)
  have c3:bg (j:Int) (w.length:Int)=true:=bZ (by rw[I.wl];exact hj)
  rw[dt (show(j:Int)<20 by omega),afa (by omega),zG (k:=t.length) (by rw[I.tl];decide),zG (k:=j) (by omega),df (show ¬ (t.length:Int)<=(j:Int) by rw[I.tl];omega),c2,c3,Int.toNat_natCast,JX (by omega)]
  rw[show t.getD j (ao (Ty.int .i64))=t.getD j 0 from rfl,show w.getD j (ao (Ty.int .i64))=w.getD j 0 from rfl]
  rw[hw]
  generalize t.getD j 0=x at hb
  by_cases q:x<0
  ·rw[dt q,df (show ¬ 0<x+1 by omega)]
   rfl
  ·have e:EqI (bO .i64 (x+1) 1) x:=by
    unfold EqI
    exact(wrap_i64 (by omega) (by omega)).trans (by omega)
   rw[df q,dt (show 0<x+1 by omega),show bO .i64 (x+1) 1=x from e,dt (rfl:x=x)]
   rfl
 ·refine(Pu m1 m2 m3 m4 m5 m6 m7 m8 m9 bK bL w v a b t bs mo ((20:Nat):Int)).trans ?_
  rfl
theorem afc(V:ByteArray->Bool)(l:List (den cP))(h: ∀ g,g∈l->Ey g)(a:Int)(a0:0<=a)(a1:a<4294967296):(ty3 V (l,a,())).val=some (aA tA (true,()))∨(tz3 V (l,a,())).val=some (aA tz (true,())):=by
 have hca:aV .u64 a=a:=by
  obtain⟨n,rfl⟩:=Int.eq_ofNat_of_zero_le a0
  exact zG (by omega)
 obtain⟨n,hn⟩: ∃ n,n=min l.length 500:=⟨_,rfl⟩
 obtain⟨E,hEe⟩: ∃ E,E=(l.take n).map eS:=⟨_,rfl⟩
 have hl:E.length<=500:=by rw[hEe,List.length_map,List.length_take];omega
 have hE: ∀ e,e∈E->eT e:=fun e he=>by
  rw[hEe]at he
  obtain⟨g,hg,rfl⟩:=List.mem_map.1 he
  exact ae5 (h g (List.mem_of_mem_take hg))
 have sl:=(GO l h n (by omega)).2
 have q0:=jN (f:=sD) (ti:=iO) (to:=gA) (ae9 l h a ([([],[])]) ([]) ([0,0,0]) ([((20:Int),(-1:Int))]) ([((1:Int),(-1:Int))]) (dg) ([]) (-1) (iu) ([(eC 65 a 0,[5])]) n hn)
 rw[<-hEe]at q0
 have hP:prT (l.take n)=E.map fun g=>(Cb g.1,g.2):=by rw[hEe]
 rw[hP]at sl
 generalize Cp (l.take n)=s at sl q0
 obtain⟨f,w⟩:=s
 have x0:WB l a=(l,a,[([],[])],[],[0,0,0],[((20:Int),(-1:Int))],[((1:Int),(-1:Int))],dg,[],-1,[],iu,[(eC 65 a 0,[5])],true,List.replicate 20 0,((0:Nat):Int),()):=by
  unfold WB
  rw[hca]
  rfl
 have z1:oB sD iO gA (WB l a)=true:=by rw[x0];exact q0.1
 have z2:gH sD iO gA (WB l a)=(a,[([],[])],[],[0,0,0],[((20:Int),(-1:Int))],[((1:Int),(-1:Int))],dg,[],-1,E,iu,[(eC 65 a 0,[5])],f,w,()):=by rw[x0];exact q0.2
 obtain⟨k1,hc⟩:=Pj V hl hE a0 a1
 have mk:aaP=true:=by decide
 rcases hc with h0|h4
 ·cases hL:layAll (List.replicate 20 (-1)) (E.map fun g=>(Cb g.1,g.2))with
  |none=>
   rw[hL]at sl
   have hf:f=false:=sl
   obtain⟨n1,n2⟩:=UE V hl hE a0 a1 h0 hL
   refine .inl ((aaQ V l a _ z2.symm (yT E a) rfl).trans ?_)
   rw[mk,z1,n1,k1,h0,n2,hf]
   rfl
  |some t=>
   rw[hL]at sl
   obtain⟨hf,I⟩:=sl
   have hf:f=true:=hf
   by_cases ha:65536<=a
   ·obtain⟨n1,n2⟩:=UG V hl hE a0 a1 ha h0 hL
    refine .inl ((aaQ V l a _ z2.symm (yT E a) rfl).trans ?_)
    dsimp only
    rw[mk,z1,n1,k1,h0,n2,hf,dt ha]
    rfl
   ·obtain⟨bs,n1,n2⟩:=UH V hl hE a0 a1 (by omega) h0 hL
    obtain⟨u1,u2,u3⟩:=sW (f:=rk) (ti:=iP) (t0:=ju) (t1:=lh) (afb ([([],[])]) ([]) ([0,0,0]) ([((20:Int),(-1:Int))]) ([((1:Int),(-1:Int))]) (dg) ([]) (-1) (E) (iu) ([(eC 65 a 0,[5])]) (fR dg).1 (fR dg).2.1 (fR dg).2.2 bs (-1) I)
    obtain⟨X,hX⟩: ∃ X:ak iP,X=(w,(fR dg).1,(fR dg).2.1,(fR dg).2.2,t,[([],[])],[],[0,0,0],[((20:Int),(-1:Int))],[((1:Int),(-1:Int))],dg,[],-1,E,iu,[(eC 65 a 0,[5])],bs,-1,0,()):=⟨_,rfl⟩
    have u1:rG rk iP ju lh X=true:=by rw[hX];exact u1
    have u2:qw rk iP X=true:=by rw[hX];exact u2
    have u3:gH rk iP ju X=((fR dg).1,(fR dg).2.1,(fR dg).2.2,t,[([],[])],[],[0,0,0],[((20:Int),(-1:Int))],[((1:Int),(-1:Int))],dg,[],-1,E,iu,[(eC 65 a 0,[5])],bs,-1,()):=by rw[hX];exact u3
    refine .inr ((aj8 V l a _ z2.symm (yT E a) rfl _ n2.symm X (by rw[hX]) _ u3.symm).trans ?_)
    dsimp only
    have t20:aV .u64 (List.length t:Int)=20:=by rw[I.tl];rfl
    rw[mk,z1,n1,k1,h0,hf,df ha,u1,u2,t20,dt (show(20:Int)<=20 by decide),dt (show(20:Int)<=4294967295 by decide)]
    rfl
 ·obtain⟨n1,n2⟩:=aaS V hl hE a0 a1 h4
  refine .inl ((aaQ V l a _ z2.symm (yT E a) rfl).trans ?_)
  rw[mk,z1,n1,k1,h4,n2]
  rfl
end Go.Proofs.Vd
