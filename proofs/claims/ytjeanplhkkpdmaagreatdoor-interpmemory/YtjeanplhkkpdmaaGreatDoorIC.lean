import Derived.Test.YtjeanplhkkpdmaaGreatDoorVdU2
noncomputable section
namespace Go.Proofs.Vd
open Go.Ab Go.Ab.Lf
set_option maxRecDepth 100000
abbrev u32:Ty:=.int .u32
abbrev Bj:lV:=Ps [.n .u8,.n .u8,.n .u8,.n .u8,.n .u8,.n .u8,.n .u8,.n .u8,.n .u8,.n .u8,.n .u8,.n .u8,.n .u8,.n .u8,.n .u8,.n .u8]
abbrev t16(l:List Ty):List Ty:=u8::u8::u8::u8::u8::u8::u8::u8::u8::u8::u8::u8::u8::u8::u8::u8::l
abbrev nJ(a:Nat):lV:=.pt a (Ps [.ow u8,.n .i64])
abbrev pIo(op Lo:Int):lV:=.ag (Ps [.li .i64 op,.li .i64 0,.n .i64,.li .u64 Lo,.li .u64 0,.im i64])
abbrev X6:lV:=.ag (Ps [.n .i64,.n .i64,.n .i64,.n .u64,.n .u64,.im i64])
abbrev nM:List Ty:=.ca u8::i64::i64::.ca i64::u32::t16 []
abbrev lP:List Ty:=.ca u8::i64::i64::i64::i64::u64::u64::.ca i64::u32::t16 []
def Ei(x:cb lP):cb nM:=(x.1,x.2.1,x.2.2.2.2.1,x.2.2.2.2.2.2.2.1,x.2.2.2.2.2.2.2.2.1,x.2.2.2.2.2.2.2.2.2)
theorem X7{E:En}{N:Nat}{k:IntKind}{n:Int}{a:AV}(h:V E N (.c 0 (.int k) n) a):V E N (.i k n) a:=by
 rw[kX h rfl]
 exact .i
theorem liN{ptr:List Nat}{Q:lV}{to:List Ty}{g:Int->Int->cb nM->Lf.T (cb to)}{f:Nat}{cf:cg}(H: ∀ op Lo,(kf (Ps [nJ 0,pIo op Lo,.n .u32,.ag Bj]) ptr Q nM to (g op Lo)).Ok f cf)
 {g':cb lP->Lf.T (cb to)}(hg: ∀ x y,(g' x).val=some y->(x.2.2.2.1:Int)=0/\(x.2.2.2.2.2.2.1:Int)=0/\(g x.2.2.1 x.2.2.2.2.2.1 (Ei x)).val=some y):(kf (Ps [nJ 0,X6,.n .u32,.ag Bj]) ptr Q lP to g').Ok f cf:=by
 intro pl q args H0 E0 h as hf hP hV hS
 obtain⟨x,y,rfl,h1,rfl⟩:=vN hf
 obtain⟨h2,h3,h4⟩:=hg x y h1
 obtain⟨b,mo,op,A,B,Lo,Hi,L,ad,a0,a1,a2,a3,a4,a5,a6,a7,a8,a9,aa,ab,ac,ae,af,ag,⟨⟩⟩:=x
 have h2:A=0:=h2
 have h3:Hi=0:=h3
 subst h2;subst h3
 let x':cb nM:=(b,mo,B,L,ad,a0,a1,a2,a3,a4,a5,a6,a7,a8,a9,aa,ab,ac,ae,af,ag,())
 have hf':((kf (Ps [nJ 0,pIo op Lo,.n .u32,.ag Bj]) ptr Q nM to (g op Lo)).f (cp nM x')).val=some (cp to y):=by
  show(match toT nM (cp nM x')with|some x=>(g op Lo x).map (cp to)|none=>.bad:Lf.T (List Pl)).val=_
  rw[qc]
  show((g op Lo x').map (cp to)).val=_
  show(((g op Lo x').bd fun a=>.ok (cp to a)):Lf.T (List Pl)).val=_
  rw[Lf.T.Dv,show(g op Lo x').val=some y from h4]
  rfl
 obtain⟨aqW,H1,e0⟩: ∃ (u w:Sv) (v:List Sv) (H1:Hq),j5 (Ps [nJ 0,pIo op Lo,.n .u32,.ag Bj]) (cp nM x') e1=some (u::.ag [.i .i64 op,.i .i64 0,.c 0 (.int .i64) B,.i .u64 Lo,.i .u64 0,w]::v,[],H1)/\j5 (Ps [nJ 0,X6,.n .u32,.ag Bj]) (cp lP (b,mo,op,0,B,Lo,0,L,ad,a0,a1,a2,a3,a4,a5,a6,a7,a8,a9,aa,ab,ac,ae,af,ag,())) e1=some (u::.ag [.c 0 (.int .i64) op,.c 0 (.int .i64) 0,.c 0 (.int .i64) B,.c 0 (.int .u64) Lo,.c 0 (.int .u64) 0,w]::v,[],H1):=⟨_,_,_,_,rfl,rfl⟩
 obtain⟨v,H1,p1,p2⟩:=e0
 have hP:j5 (Ps [nJ 0,X6,.n .u32,.ag Bj]) (cp lP (b,mo,op,0,B,Lo,0,L,ad,a0,a1,a2,a3,a4,a5,a6,a7,a8,a9,aa,ab,ac,ae,af,ag,())) e1=some (args,[],H0):=hP
 rw[p2]at hP
 cases hP
 cases hV with
 |cons v1 hV=>
  cases hV with
  |cons v2 hV=>
   cases v2 with
   |ag w=>
    cases w with
    |cons w1 w=>
     cases w with
     |cons w2 w=>
      cases w with
      |cons w3 w=>
       cases w with
       |cons w4 w=>
        cases w with
        |cons w5 w=>
         exact H op Lo (cp nM x') (cp to y) _ _ E0 h _ hf' p1 (.cons v1 (.cons (.ag (.cons (X7 w1) (.cons (X7 w2) (.cons w3 (.cons (X7 w4) (.cons (X7 w5) w)))))) hV)) hS
abbrev yr:List Ty:=t16 [i64,.ca u8,i64]
def aog:List (Nat×iK):=[(38,ai0)]
def IV(op Lo:Int)(x:cb nM):Lf.T (List Pl):=kO (Ps [nJ 0,pIo op Lo,.n .u32,.ag Bj]) [2] (Ps [.tu (Ps [.ag Bj,.n .i64]),nJ 2]) (fun _=>none) Tryz.x19 40 (je aog 40) (cp nM x)
def RT(op Lo:Int)(x:cb nM):Bool:=rN (nA yr (IV op Lo x))
def IW(op Lo:Int)(x:cb nM):cb yr:=rN (jP yr (IV op Lo x))
def RU(x:cb lP):Bool:=(decide ((x.2.2.2.1:Int)=0)&&decide ((x.2.2.2.2.2.2.1:Int)=0))&&RT x.2.2.1 x.2.2.2.2.2.1 (Ei x)
def j1(x:cb lP):cb yr:=IW x.2.2.1 x.2.2.2.2.2.1 (Ei x)
def aoh:iK:=kf (Ps [nJ 0,X6,.n .u32,.ag Bj]) [2] (Ps [.tu (Ps [.ag Bj,.n .i64]),nJ 2]) lP yr fun x=>.ck (RU x) (.ok (j1 x))
abbrev sY:List Ty:=[i64,.ca u8,i64]
def aoi:List (Nat×iK):=[(16,ai2)]
def RW(op Lo:Int)(x:cb nM):Lf.T (List Pl):=kO (Ps [nJ 0,pIo op Lo,.n .u32,.ag Bj]) [2] (Ps [.n .i64,nJ 2]) (fun _=>none) Tryz.x18 40 (je aoi 40) (cp nM x)
def RX(op Lo:Int)(x:cb nM):Bool:=rN (nA sY (RW op Lo x))
def X8(op Lo:Int)(x:cb nM):cb sY:=rN (jP sY (RW op Lo x))
def RY(x:cb lP):Bool:=(decide ((x.2.2.2.1:Int)=0)&&decide ((x.2.2.2.2.2.2.1:Int)=0))&&RX x.2.2.1 x.2.2.2.2.2.1 (Ei x)
def Bk(x:cb lP):cb sY:=X8 x.2.2.1 x.2.2.2.2.2.1 (Ei x)
def aoj:iK:=kf (Ps [nJ 0,X6,.n .u32,.ag Bj]) [2] (Ps [.n .i64,nJ 2]) lP sY fun x=>.ck (RY x) (.ok (Bk x))
theorem X9{V:ByteArray->Bool}{cf:cg}(W:WorldS V cf):aoh.Ok 19 cf:=by
 refine liN (g:=fun op Lo x=>.ck (RT op Lo x) (.ok (IW op Lo x))) (fun op Lo=>j4 (W.toWorld.in (.cons (XY W) .nil) 40) (W.toWorld.st 19 _ rfl) rfl (cu _) (m:=40) rfl (fun _=>iM _) (fun _=>iM _)) fun x y h=>?_
 obtain⟨h1,h⟩:=Lf.T.cy h
 unfold RU at h1
 simp only[Bool.and_eq_true,decide_eq_true_eq]at h1
 refine⟨h1.1.1,h1.1.2,?_⟩
 show(Lf.T.ck (RT x.2.2.1 x.2.2.2.2.2.1 (Ei x)) (.ok (IW x.2.2.1 x.2.2.2.2.2.1 (Ei x)))).val=_
 rw[h1.2]
 exact h
theorem Ya{V:ByteArray->Bool}{cf:cg}(W:WorldS V cf):aoj.Ok 18 cf:=by
 refine liN (g:=fun op Lo x=>.ck (RX op Lo x) (.ok (X8 op Lo x))) (fun op Lo=>j4 (W.toWorld.in (.cons (Kq W) .nil) 40) (W.toWorld.st 18 _ rfl) rfl (cu _) (m:=40) rfl (fun _=>iM _) (fun _=>iM _)) fun x y h=>?_
 obtain⟨h1,h⟩:=Lf.T.cy h
 unfold RY at h1
 simp only[Bool.and_eq_true,decide_eq_true_eq]at h1
 refine⟨h1.1.1,h1.1.2,?_⟩
 show(Lf.T.ck (RX x.2.2.1 x.2.2.2.2.2.1 (Ei x)) (.ok (X8 x.2.2.1 x.2.2.2.2.2.1 (Ei x)))).val=_
 rw[h1.2]
 exact h
end Go.Proofs.Vd

noncomputable section
namespace Go.Proofs.Vd
open Go.Ab Go.Ab.Lf
set_option maxRecDepth 100000
theorem uG{P:lV}{ptr:List Nat}{Q:lV}{ti to:List Ty}{g g':cb ti->Lf.T (cb to)}{k:Nat}{cf:cg}(h:(kf P ptr Q ti to g).Ok k cf)(e: ∀ x y,(g' x).val=some y->(g x).val=some y):(kf P ptr Q ti to g').Ok k cf:=by
 intro pl q args H0 E0 h0 az hf hP hv hS
 obtain⟨x,y,hx,h1,h2⟩:=vN hf
 subst hx;subst h2
 refine h (cp ti x) (cp to y) args H0 E0 h0 az ?_ hP hv hS
 show(match toT ti (cp ti x)with|some x=>(g x).map (cp to)|none=>.bad:Lf.T (List Pl)).val=some (cp to y)
 rw[qc]
 show((g x).map (cp to)).val=_
 show(((g x).bd fun a=>.ok (cp to a)):Lf.T (List Pl)).val=_
 rw[Lf.T.Dv,e x y h1]
 rfl
def ai8(V:ByteArray->Bool):iK:=kf (Ps [pM]) [] (Ps [.n .i64]) tM [i64] fun y=>.ck (kCk V y&&decide (ue V y=0)) (.ok (0,()))
theorem Yb{V:ByteArray->Bool}{cf:cg}(W:WorldN V cf):(ai8 V).Ok 50 cf:=by
 refine uG (aeD W) fun x y h=>?_
 obtain⟨h1,h⟩:=Lf.T.cy h
 cases h
 simp only[Bool.and_eq_true,decide_eq_true_eq]at h1
 show(Lf.T.ck (kCk V x) (.ok (ue V x,()))).val=_
 rw[h1.1,h1.2]
 rfl
def mbB(x:cb Bi):Bool:= @decide (MB x.1 x.2.1 x.2.2.1 x.2.2.2.1 x.2.2.2.2.1 x.2.2.2.2.2.1 x.2.2.2.2.2.2.1 x.2.2.2.2.2.2.2.1 x.2.2.2.2.2.2.2.2.1 x.2.2.2.2.2.2.2.2.2.1 x.2.2.2.2.2.2.2.2.2.2.1) (Classical.propDecidable _)
def ai9:iK:=kf (Ps [.ag (Ps [.im cF,.im cR,.im i64,.im cq,.im cq,.im cI,.im cQ,.n .i64,.im cJ,.im cK,.im cN])]) [] (Ps [.ag (Ps [.im cF,.im cR,.im i64,.im cq,.im cq,.im cI,.im cQ,.n .i64,.im cJ,.im cK,.im cN])]) Bi CM fun x=>.ck (mbB x) (.ok x)
theorem Yc{V:ByteArray->Bool}{cf:cg}(W:WorldS V cf):ai9.Ok 51 cf:=by
 refine uG (XU W) fun x y h=>?_
 obtain⟨h1,h⟩:=Lf.T.cy h
 cases h
 obtain⟨m1,m2,m3,m4,m5,m6,m7,m8,m9,jr,js,⟨⟩⟩:=x
 have H:= @of_decide_eq_true _ (Classical.propDecidable _) h1
 obtain⟨c1,c2⟩:=an' m1 m2 m3 m4 m5 m6 m7 m8 m9 jr js H
 show(Lf.T.ck (aeu (m1,m2,m3,m4,m5,m6,m7,m8,m9,jr,js,())) (.ok (aev (m1,m2,m3,m4,m5,m6,m7,m8,m9,jr,js,())))).val=_
 rw[c1,c2]
 rfl
def ai'(Z:List Int):iK:=kf (Ps [.n .i64,.n .i64]) [] (Ps [.tu (Ps [nJ 0,.n .i64])]) [i64,i64] [.ca u8,i64,i64] fun x=>.ck (decide (x.1=1)&&(decide (x.2.1=1)&&decide (Z=List.replicate 65536 (0:Int)))) (.ok (Z,1,0,()))
theorem Yd{V:ByteArray->Bool}{cf:cg}(W:WorldS V cf)(Z:List Int):(ai' Z).Ok 54 cf:=by
 refine iI (W.toWorld.in .nil 3) (W.toWorld.st 54 _ rfl) rfl (cu _) (m:=3) rfl ?_
 rintro⟨a,b,⟨⟩⟩ y h
 obtain⟨h1,h⟩:=Lf.T.cy h
 cases h
 simp only[Bool.and_eq_true,decide_eq_true_eq]at h1
 obtain⟨rfl,rfl,rfl⟩:=h1
 kernel_rfl
abbrev nR:Ty:=.pair i64 (.pair i64 (.pair .bool (.pair (.ca i64) (.ca i64))))
abbrev o25:List Ty:=[i64,i64,.bool,.ca i64,.ca i64,.bool]
def IX(I:den nR)(x:Int):den nR:=bif decide (x=32)then(5,0,false,[],[])else bif decide (x=11)then(1,0,false,[],[])else I
def mP(I:den nR)(x:Int):Bool:= @decide (A0 x=true/\(kM x).1=(IX I x).1/\(kM x).2.1=(IX I x).2.1/\(kM x).2.2.1=(IX I x).2.2.1/\(kM x).2.2.2.1=(IX I x).2.2.2.1/\(kM x).2.2.2.2.1=(IX I x).2.2.2.2) (Classical.propDecidable _)
def aja(I:den nR):iK:=kf (Ps [.n .i64]) [] (Ps [.tu (Ps [.ag (Ps [.n .i64,.n .i64,.bo,.im i64,.im i64]),.bo])]) [i64] o25 fun x=>.ck (mP I x.1) (.ok ((IX I x.1).1,(IX I x.1).2.1,(IX I x.1).2.2.1,(IX I x.1).2.2.2.1,(IX I x.1).2.2.2.2,true,()))
theorem Ye{cf:cg}(W:World cf)(I:den nR):(aja I).Ok 25 cf:=by
 refine uG (Ii W) fun x y h=>?_
 obtain⟨h1,h⟩:=Lf.T.cy h
 cases h
 obtain⟨a,b,c,d,e,f⟩:= @of_decide_eq_true _ (Classical.propDecidable _) h1
 show some ((kM x.1).1,(kM x.1).2.1,(kM x.1).2.2.1,(kM x.1).2.2.2.1,(kM x.1).2.2.2.2.1,A0 x.1,())=_
 rw[a,b,c,d,e,f]
def s5a:iK:=kf (Ps []) [] (Ps [.bo]) [] [.bool] fun _=>.ok (true,())
structure WI(V:ByteArray->Bool)(cf:cg):Prop extends WorldS V cf where
 aw:s5a.Ok 5 cf
 c59:(mu u64).Ok 59 cf
abbrev RZ:List Ty:=[.ca u8,i64,i64,i64]
abbrev Kt:List Ty:=[.ca u8,i64,.ca u8,i64]
def aok(x:cb RZ):Lf.T (List Pl):=kO (Ps [nJ 0,.n .i64,.n .i64]) [2] (Ps [.tu (Ps [.ow u8,.n .i64]),nJ 2]) (fun _=>none) Tryz.x49 9 (je [] 9) (cp RZ x)
def ajc:iK:=kf (Ps [nJ 0]) [2] (Ps [.n .i64,nJ 2]) [.ca u8,i64] [i64,.ca u8,i64] fun x=>.ck (decide (x.1.length=65536)) (.ok (1,x.1,x.2.1,()))
theorem Yf{V:ByteArray->Bool}{cf:cg}(W:WorldS V cf):ajc.Ok 44 cf:=by
 refine iI (W.toWorld.in .nil 9) (W.toWorld.st 44 _ rfl) rfl (cu _) (m:=9) rfl ?_
 rintro⟨b,mo,⟨⟩⟩ y h
 obtain⟨h1,h⟩:=Lf.T.cy h
 cases h
 have h1:b.length=65536:=of_decide_eq_true h1
 have e:(kO (Ps [nJ 0]) [2] (Ps [.n .i64,nJ 2]) (fun _=>none) Tryz.x44 9 (je [] 9) (cp [.ca u8,i64] (b,mo,()))).val=some (cp [i64,.ca u8,i64] (Vj .i64 (b.length:Int) 65536,b,mo,())):=by kernel_rfl
 refine e.trans ?_
 rw[h1]
 exact congrArg some (show cp [i64,.ca u8,i64] (Vj .i64 ((65536:Nat):Int) 65536,b,mo,())=cp [i64,.ca u8,i64] (1,b,mo,()) by rw[show Vj .i64 ((65536:Nat):Int) 65536=1 by kernel_rfl])
abbrev Ej:List Ty:=i64::i64::u64::u64::.ca i64::u32::t16 []
end Go.Proofs.Vd

noncomputable section
namespace Go.Proofs.Vd
open Go.Ab Go.Ab.Lf
set_option maxRecDepth 100000
def yB(a b c d e f g h:Int):Int:=
 let t:=fun(x c:Int) (n:Int)=>xG .u64 x (BJ .u64 (cE .u64 c) n)
 t (t (t (t (t (t (t (t 0 a 0) b 8) c 16) d 24) e 32) f 40) g 48) h 56
def jb(x k:Int):Int:=cE .u8 (pX .u64 x k)
def aol(x:cb (t16 [])):Lf.T (List Pl):=kO (Ps [.ag Bj]) [] (Ps [.ag (Ps [.n .u64,.n .u64])]) (fun _=>none) Tryz.x17 40 (je [] 40) (cp (t16 []) x)
theorem aom(a0 a1 a2 a3 a4 a5 a6 a7 b0 b1 b2 b3 b4 b5 b6 b7:Int):(aol (a0,a1,a2,a3,a4,a5,a6,a7,b0,b1,b2,b3,b4,b5,b6,b7,())).val=some (cp [u64,u64] (yB a0 a1 a2 a3 a4 a5 a6 a7,yB b0 b1 b2 b3 b4 b5 b6 b7,())):=by kernel_rfl
def ajd:iK:=kf (Ps [.ag Bj]) [] (Ps [.ag (Ps [.n .u64,.n .u64])]) (t16 []) [u64,u64] fun(a0,a1,a2,a3,a4,a5,a6,a7,b0,b1,b2,b3,b4,b5,b6,b7,_)=>.ok (yB a0 a1 a2 a3 a4 a5 a6 a7,yB b0 b1 b2 b3 b4 b5 b6 b7,())
theorem Yg{V:ByteArray->Bool}{cf:cg}(W:WorldS V cf):ajd.Ok 17 cf:=by
 refine iI (W.toWorld.in .nil 40) (W.toWorld.st 17 _ rfl) rfl (cu _) (m:=40) rfl ?_
 rintro⟨a0,a1,a2,a3,a4,a5,a6,a7,b0,b1,b2,b3,b4,b5,b6,b7,⟨⟩⟩ y h
 cases h
 exact aom _ _ _ _ _ _ _ _ _ _ _ _ _ _ _ _
def aon(x:cb [u64,u64]):Lf.T (List Pl):=kO (Ps [.ag (Ps [.n .u64,.n .u64])]) [] (Ps [.ag Bj]) (fun _=>none) Tryz.x39 40 (je [] 40) (cp [u64,u64] x)
theorem aoo(x y:Int):(aon (x,y,())).val=some (cp (t16 []) (jb x 0,jb x 8,jb x 16,jb x 24,jb x 32,jb x 40,jb x 48,jb x 56,jb y 0,jb y 8,jb y 16,jb y 24,jb y 32,jb y 40,jb y 48,jb y 56,())):=by kernel_rfl
def aje:iK:=kf (Ps [.ag (Ps [.n .u64,.n .u64])]) [] (Ps [.ag Bj]) [u64,u64] (t16 []) fun(x,y,_)=>.ok (jb x 0,jb x 8,jb x 16,jb x 24,jb x 32,jb x 40,jb x 48,jb x 56,jb y 0,jb y 8,jb y 16,jb y 24,jb y 32,jb y 40,jb y 48,jb y 56,())
theorem Yh{V:ByteArray->Bool}{cf:cg}(W:WorldS V cf):aje.Ok 39 cf:=by
 refine iI (W.toWorld.in .nil 40) (W.toWorld.st 39 _ rfl) rfl (cu _) (m:=40) rfl ?_
 rintro⟨x,y,⟨⟩⟩ z h
 cases h
 exact aoo _ _
def aeG(b:List Int)(a x:Int):Int:=(yU (b,1,a,8,x,())).1
def Mr(b:List Int)(a x:Int):List Int:=(yU (b,1,a,8,x,())).2.1
def Z6(b:List Int)(mo a n:Int):Bool:=decide (b.length=65536)&&(decide (mo=1)&&(decide (0<=a)&&(decide (a<=65528)&&decide (n=8))))
def ajf:iK:=kf (Ps [.pt 0 (Ps [.ow u8,.n .i64]),.n .u64,.n .i64,.n .u64]) [2] (Ps [.n .i64,.pt 2 (Ps [.ow u8,.n .i64])]) CN ug fun x=>.ck (Z6 x.1 x.2.1 x.2.2.1 x.2.2.2.1) (.ok (aeG x.1 x.2.2.1 x.2.2.2.2.1,Mr x.1 x.2.2.1 x.2.2.2.2.1,1,()))
theorem Z7{b:List Int}{a x:Int}(hb:b.length=65536)(h0:0<=a)(_:a<=65528):Eh (b,1,a,8,x,())=true/\yU (b,1,a,8,x,())=(aeG b a x,Mr b a x,1,())/\(Mr b a x).length=65536:=by
 obtain⟨n,rfl⟩: ∃ n:Nat,a=n:=⟨a.toNat,by omega⟩
 obtain⟨h1,e,b',h2,h3,_⟩:=ai6 b 1 n 8 x (by omega) (by omega)
 have h2:yU (b,1,(n:Int),8,x,())=(e,b',1,()):=h2
 refine⟨h1,?_,?_⟩
 ·unfold aeG Mr
  rw[h2]
 ·unfold Mr
  rw[h2]
  exact h3.trans hb
theorem Yi{V:ByteArray->Bool}{cf:cg}(W:WorldS V cf):ajf.Ok 16 cf:=by
 refine uG (Kq W) ?_
 rintro⟨b,mo,a,n,x,⟨⟩⟩ y h
 obtain⟨h1,h⟩:=Lf.T.cy h
 cases h
 unfold Z6 at h1
 simp only[Bool.and_eq_true,decide_eq_true_eq]at h1
 obtain⟨q1,q2,q3,q4,q5⟩:=h1
 subst q2;subst q5
 obtain⟨k1,k2,_⟩:=Z7 (x:=x) q1 q3 q4
 show(Lf.T.ck (Eh (b,1,a,8,x,())) (.ok (yU (b,1,a,8,x,())))).val=_
 rw[k1,k2]
 rfl
end Go.Proofs.Vd

noncomputable section
namespace Go.Proofs.Vd
open Go.Ab Go.Ab.Lf
set_option maxRecDepth 100000
def Z8(b:List Int)(mo a n:Int):Bool:=decide (b.length=65536)&&(decide (mo=1)&&(decide (0<=a)&&(decide (a<=61440)&&decide (n=4096))))
def pk(b:List Int)(a:Int):List Int:=List.take 4096 (List.drop a.toNat b)
def ajg:iK:=kf (Ps [nJ 0,.n .i64,.n .i64]) [2] (Ps [.tu (Ps [.ow u8,.n .i64]),nJ 2]) RZ Kt fun x=>.ck (Z8 x.1 x.2.1 x.2.2.1 x.2.2.2.1) (.ok (pk x.1 x.2.2.1,0,x.1,1,()))
theorem aop(b:List Int)(a:Int):(aok (b,1,a,4096,())).val=bif (bif decide (a<0)then true else bif decide ((4096:Int)<0)then true else decide ((4096:Int)<4096))then some (cp Kt ([],1,b,1,()))else bif !(bif decide (cE .u64 4096<=cE .u64 (b.length:Int))then decide (cE .u64 a<=il .u64 (cE .u64 (b.length:Int)) (cE .u64 4096))else false)then some (cp Kt ([],23,b,1,()))else cz (jy a (iA .i64 a 4096) (b.length:Int)) (cz (roomy 1 (0+(List.take ((iA .i64 a 4096).toNat - a.toNat) (List.drop a.toNat b)).length)) (some (cp Kt (List.take ((iA .i64 a 4096).toNat - a.toNat) (List.drop a.toNat b),0,b,1,())))):=by kernel_rfl
theorem Yj{V:ByteArray->Bool}{cf:cg}(W:WorldS V cf):ajg.Ok 49 cf:=by
 refine iI (W.toWorld.in .nil 9) (W.toWorld.st 49 _ rfl) rfl (cu _) (m:=9) rfl ?_
 rintro⟨b,mo,a,n,⟨⟩⟩ y h
 obtain⟨h1,h⟩:=Lf.T.cy h
 cases h
 unfold Z8 at h1
 simp only[Bool.and_eq_true,decide_eq_true_eq]at h1
 obtain⟨q1,q2,q3,q4,q5⟩:=h1
 subst q2;subst q5
 obtain⟨k,rfl⟩: ∃ k:Nat,a=k:=⟨Int.toNat a,(Int.toNat_of_nonneg q3).symm⟩
 refine(aop b k).trans ?_
 rw[q1,df (show ¬ (k:Int)<0 by omega),show cE .u64 (k:Int)=(k:Int)from GJ (by omega),show iA .i64 (k:Int) 4096=((k+4096:Nat):Int)from(wrap_i64 (by omega) (by omega)).trans (by omega)]
 rw[show cE .u64 ((65536:Nat):Int)=((65536:Nat):Int)from GJ (by omega),show cE .u64 4096=((4096:Nat):Int)from GJ (k:=4096) (by omega),ai4 (by omega) (by omega)]
 rw[show decide (((4096:Nat):Int)<=((65536:Nat):Int))=true from rfl,dt (show(k:Int)<=((65536 - 4096:Nat):Int) by omega)]
 rw[show jy (k:Int) ((k+4096:Nat):Int) ((65536:Nat):Int)=true by unfold jy;simp;omega]
 rw[show((k+4096:Nat):Int).toNat - (k:Int).toNat=4096 by omega]
 have e:roomy 1 (0+(List.take 4096 (List.drop (k:Int).toNat b)).length)=true:=iE (by decide) (by rw[List.length_take];omega)
 rw[e]
 rfl
abbrev Yk(a b:Nat):lV:=.pt b (Ps [.ow u64,.im i64,.im i64,.ow i64,.im cF,.im cR,.im i64,.im cq,.im cq,.im cI,.im cQ,.n .i64,.im cJ,.im cK,.im cN,nJ a])
abbrev ajh(c:Nat):lV:=.pt c (Ps [.ow u64,.av (.sc (.slice none 0 0)),.n .u32])
abbrev aji(l:List Ty):List Ty:=.ca u64::.ca i64::.ca i64::.ca i64::.ca cF::.ca cR::.ca i64::.ca cq::.ca cq::.ca cI::.ca cQ::i64::.ca cJ::.ca cK::.ca cN::.ca u8::i64::l
abbrev Ku:List Ty:=aji (aji [.ca u64,u32])
def ajj:List (Nat×iK):=[(44,ajc),(49,ajg)]
theorem Yl{V:ByteArray->Bool}{cf:cg}(W:WorldS V cf):jd cf ajj:=.cons (Yf W) (.cons (Yj W) .nil)
def aoq(x:cb Ku):Lf.T (List Pl):=kO (Ps [Yk 0 0,Yk 0 0,ajh 0,.rp 36 0]) [] (Ps [.bo]) (fun _=>none) Tryz.x20 40 (je ajj 40) (cp Ku x)
def R1(b:List Int):Nat->Int->Option (List Pl)
 |0,_=>none
 |k+1,a=>cz (decide (b.length=65536)) (bif decide (a<65536)then cz (Z8 b 1 a 4096) (cz (Z8 b 1 a 4096) (bif !(eqStr (yy (pk b a)) (yy (pk b a)))then some (cp [.bool] (false,()))else R1 b k (iA .i64 a 4096)))else some (cp [.bool] (true,())))
theorem ajk(b p1 p2 p3 q1 q2 q3:List Int)(m1:List (den cF))(m2:List (den cR))(m3:List Int)(m4 m5:List (den cq))(m6:List (den cI))(m7:List (den cQ))(m8:Int)(m9:List (den cJ))(ma:List (den cK))(mb:List (den cN))(n1:List (den cF))(n2:List (den cR))(n3:List Int)(n4 n5:List (den cq))(n6:List (den cI))(n7:List (den cQ))(n8:Int)(n9:List (den cJ))(na:List (den cK))(nb:List (den cN))(r:List Int)(w:Int):(aoq ([0,0,0,0],p1,p2,p3,m1,m2,m3,m4,m5,m6,m7,m8,m9,ma,mb,b,1,[0,0,0,0],q1,q2,q3,n1,n2,n3,n4,n5,n6,n7,n8,n9,na,nb,b,1,r,w,())).val=
 cz (decide (b.length=65536)) (cz (decide (b.length=65536)) (bif !decide ((r.length:Int)=(r.length:Int))then some (cp [.bool] (false,()))else R1 b 17 0)):=by kernel_rfl
theorem ajl{b:List Int}{a:Int}(hb:b.length=65536)(h0:0<=a)(h1:a<=61440):Z8 b 1 a 4096=true:=by
 unfold Z8
 rw[dt hb,dt h0,dt h1]
 rfl
theorem IY(s:ByteArray):eqStr s s=true:=by
 unfold eqStr
 exact beq_self_eq_true _
theorem Kv{b:List Int}(hb:b.length=65536): ∀ (k:Nat) (i:Nat),i+k=17->R1 b k ((4096*i:Nat):Int)=bif decide (k=0)then none else some (cp [.bool] (true,()))
 |0,i,_=>rfl
 |k+1,i,hk=>by
  show cz (decide (b.length=65536)) (bif decide (((4096*i:Nat):Int)<65536)then cz (Z8 b 1 ((4096*i:Nat):Int) 4096) (cz (Z8 b 1 ((4096*i:Nat):Int) 4096) (bif !(eqStr (yy (pk b ((4096*i:Nat):Int))) (yy (pk b ((4096*i:Nat):Int))))then some (cp [.bool] (false,()))else R1 b k (iA .i64 ((4096*i:Nat):Int) 4096)))else some (cp [.bool] (true,())))=some (cp [.bool] (true,()))
  rw[dt hb,qy rfl]
  by_cases h:i<16
  ·rw[dt (show((4096*i:Nat):Int)<65536 by omega),ajl hb (by omega) (by omega),IY,qy rfl,qy rfl]
   have e:iA .i64 ((4096*i:Nat):Int) 4096=((4096*(i+1):Nat):Int):=(wrap_i64 (by omega) (by omega)).trans (by omega)
   rw[e]
   show R1 b k ((4096*(i+1):Nat):Int)=_
   rw[Kv hb k (i+1) (by omega),df (show ¬ k=0 by omega)]
   rfl
  ·rw[df (show ¬ ((4096*i:Nat):Int)<65536 by omega)]
   rfl
def g20(x:cb Ku):Bool:=match x with
 |(S1,_,_,_,_,_,_,_,_,_,_,_,_,_,_,b1,o1,S2,_,_,_,_,_,_,_,_,_,_,_,_,_,_,b2,o2,_,_,_)=>
  decide ((S1:List Int)=[0,0,0,0])&&(decide ((S2:List Int)=[0,0,0,0])&&(decide ((o1:Int)=1)&&(decide ((o2:Int)=1)&&(decide ((b1:List Int).length=65536)&&decide ((b1:List Int)=b2)))))
def ajm:iK:=kf (Ps [Yk 0 0,Yk 0 0,ajh 0,.rp 36 0]) [] (Ps [.bo]) Ku [.bool] fun x=>.ck (g20 x) (.ok (true,()))
theorem Ym{V:ByteArray->Bool}{cf:cg}(W:WorldS V cf):ajm.Ok 20 cf:=by
 refine iI (W.toWorld.in (Yl W) 40) (W.toWorld.st 20 _ rfl) rfl (cu _) (m:=40) rfl ?_
 rintro⟨S1,p1,p2,p3,m1,m2,m3,m4,m5,m6,m7,m8,m9,ma,mb,b1,o1,S2,q1,q2,q3,n1,n2,n3,n4,n5,n6,n7,n8,n9,na,nb,b2,o2,r,w,⟨⟩⟩ y h
 obtain⟨h1,h⟩:=Lf.T.cy h
 cases h
 have h1:(decide ((S1:List Int)=[0,0,0,0])&&(decide ((S2:List Int)=[0,0,0,0])&&(decide ((o1:Int)=1)&&(decide ((o2:Int)=1)&&(decide ((b1:List Int).length=65536)&&decide ((b1:List Int)=b2))))))=true:=h1
 simp only[Bool.and_eq_true,decide_eq_true_eq]at h1
 obtain⟨h2,h3,h4,h5,h6,h7⟩:=h1
 subst h2;subst h3;subst h4;subst h5;subst h7
 refine(ajk b1 p1 p2 p3 q1 q2 q3 m1 m2 m3 m4 m5 m6 m7 m8 m9 ma mb n1 n2 n3 n4 n5 n6 n7 n8 n9 na nb r w).trans ?_
 rw[dt h6,dt (rfl:(List.length r:Int)=List.length r),qy rfl,qy rfl]
 exact Kv h6 17 0 rfl
end Go.Proofs.Vd

noncomputable section
namespace Go.Proofs.Vd
open Go.Ab Go.Ab.Lf
set_option maxRecDepth 100000
def TN(x:cb lP):Bool:=RY x&&((decide ((Bk x).1=0)||decide ((Bk x).1=23))&&decide ((Bk x).2.2.1=1))
def Z9(x:cb lP):Bool:=decide ((Bk x).1=0)
def Kw(x:cb lP):List Int:=(Bk x).2.1
def ajn:iK:=kf (Ps [nJ 0,X6,.n .u32,.ag Bj]) [2] (Ps [.n .i64,nJ 2]) lP sY fun x=>.ck (TN x) (.br (Z9 x) (.ok (0,Kw x,1,())) (.ok (23,Kw x,1,())))
theorem Yn{V:ByteArray->Bool}{cf:cg}(W:WorldS V cf):ajn.Ok 18 cf:=by
 refine uG (Ya W) fun x y h=>?_
 obtain⟨h1,h⟩:=Lf.T.cy h
 unfold TN at h1
 simp only[Bool.and_eq_true,decide_eq_true_eq]at h1
 obtain⟨q1,q2,q3⟩:=h1
 show(Lf.T.ck (RY x) (.ok (Bk x))).val=_
 rw[q1]
 show some (Bk x)=_
 have h:(bif Z9 x then some (0,Kw x,1,())else some (23,Kw x,1,()))=some y:=h
 have e:Bk x=((Bk x).1,Kw x,(1:Int),()):=by rw[show(1:Int)=_ from q3.symm];rfl
 rw[e]
 cases ho:Z9 x with
 |true=>
  rw[ho]at h
  have:=of_decide_eq_true ho
  rw[this];exact h
 |false=>
  rw[ho]at h
  unfold Z9 at ho
  rw[ho,Bool.false_or]at q2
  rw[of_decide_eq_true q2];exact h
def Ek(x:cb lP):Int:=(j1 x).2.2.2.2.2.2.2.2.2.2.2.2.2.2.2.2.1
def R2(x:cb lP):Bool:=RU x&&((decide (Ek x=0)||decide (Ek x=23))&&(decide ((j1 x).2.2.2.2.2.2.2.2.2.2.2.2.2.2.2.2.2.1=x.1)&&decide ((j1 x).2.2.2.2.2.2.2.2.2.2.2.2.2.2.2.2.2.2.1=1)))
def R3(x:cb lP):Bool:=decide (Ek x=0)
def a19(x:cb lP)(e:Int):cb yr:=((j1 x).1,(j1 x).2.1,(j1 x).2.2.1,(j1 x).2.2.2.1,(j1 x).2.2.2.2.1,(j1 x).2.2.2.2.2.1,(j1 x).2.2.2.2.2.2.1,(j1 x).2.2.2.2.2.2.2.1,(j1 x).2.2.2.2.2.2.2.2.1,(j1 x).2.2.2.2.2.2.2.2.2.1,(j1 x).2.2.2.2.2.2.2.2.2.2.1,(j1 x).2.2.2.2.2.2.2.2.2.2.2.1,(j1 x).2.2.2.2.2.2.2.2.2.2.2.2.1,(j1 x).2.2.2.2.2.2.2.2.2.2.2.2.2.1,(j1 x).2.2.2.2.2.2.2.2.2.2.2.2.2.2.1,(j1 x).2.2.2.2.2.2.2.2.2.2.2.2.2.2.2.1,e,x.1,1,())
def ajo:iK:=kf (Ps [nJ 0,X6,.n .u32,.ag Bj]) [2] (Ps [.tu (Ps [.ag Bj,.n .i64]),nJ 2]) lP yr fun x=>.ck (R2 x) (.br (R3 x) (.ok (a19 x 0)) (.ok (a19 x 23)))
theorem Yo{V:ByteArray->Bool}{cf:cg}(W:WorldS V cf):ajo.Ok 19 cf:=by
 refine uG (X9 W) fun x y h=>?_
 obtain⟨h1,h⟩:=Lf.T.cy h
 unfold R2 at h1
 simp only[Bool.and_eq_true,decide_eq_true_eq]at h1
 obtain⟨q1,q2,q3,q4⟩:=h1
 show(Lf.T.ck (RU x) (.ok (j1 x))).val=_
 rw[q1]
 show some (j1 x)=_
 have h:(bif R3 x then some (a19 x 0)else some (a19 x 23))=some y:=h
 have e:j1 x=a19 x (Ek x):=by unfold a19;rw[show x.1=_ from q3.symm,show(1:Int)=_ from q4.symm];rfl
 rw[e]
 cases ho:R3 x with
 |true=>
  rw[ho]at h
  have:=of_decide_eq_true ho
  rw[this];exact h
 |false=>
  rw[ho]at h
  unfold R3 at ho
  rw[ho,Bool.false_or]at q2
  rw[of_decide_eq_true q2];exact h
def e4w(V:ByteArray->Bool)(Z:List Int)(I:den nR):List (Nat×iK):=[(5,s5a),(50,ai8 V),(51,ai9),(54,ai' Z),(59,mu u64),(29,s10),(25,aja I),(16,ajf),(17,ajd),(39,aje),(18,ajn),(19,ajo),(20,ajm)]
theorem aeH{V:ByteArray->Bool}{cf:cg}(W:WI V cf)(Z:List Int)(I:den nR):jd cf (e4w V Z I):=.cons W.aw (.cons (Yb W.toWorldN) (.cons (Yc W.toWorldS) (.cons (Yd W.toWorldS Z) (.cons W.c59 (.cons (A9 W.toWorldC) (.cons (Ye W.toWorld I) (.cons (Yi W.toWorldS) (.cons (Yg W.toWorldS) (.cons (Yh W.toWorldS) (.cons (Yn W.toWorldS) (.cons (Yo W.toWorldS) (.cons (Ym W.toWorldS) .nil))))))))))))
def t4w(V:ByteArray->Bool)(Z:List Int)(I:den nR)(op:Int)(x:cb Ej):Lf.T (List Pl):=kO (Ps [.ag (Ps [.li .i64 op,.n .i64,.n .i64,.n .u64,.n .u64,.im i64]),.n .u32,.ag Bj]) [] (Ps [.bo]) (fun _=>none) Tryz.x4 80 (je (e4w V Z I) 80) (cp Ej x)
end Go.Proofs.Vd

noncomputable section
namespace Go.Proofs.Vd
open Go.Ab Go.Ab.Lf
set_option maxRecDepth 100000
def rj(x:Int):Int:=yB (jb x 0) (jb x 8) (jb x 16) (jb x 24) (jb x 32) (jb x 40) (jb x 48) (jb x 56)
def yt(Z:List Int):Nat->List Int
 |0=>Z
 |k+1=>Mr (yt Z k) (8*k:Int) (vt .u64 (8*k:Int) 81985529216486895)
def zOk(Z:List Int):Bool:=decide ((1:Int)=1)&&(decide ((1:Int)=1)&&decide (Z=List.replicate 65536 (0:Int)))
def frI(V:ByteArray->Bool)(Z:List Int)(I:den nR)(y:cb tM)(two:Bool)(op:Int)(K:Option (List Pl)):Option (List Pl):=
 cz (kCk V y&&decide (ue V y=0)) (cz (mbB y) (cz (zOk Z) (cz (mbB y) (cz (mP I 32) (bif two then cz (mP I 32) (cz (mP I op) (cz (mP I 11) K))else cz (mP I op) (cz (mP I 11) K))))))
def stI(Z:List Int)(K:Option (List Pl)):Nat->Nat->Option (List Pl)
 |0,_=>K
 |f+1,k=>cz (Z6 (yt Z k) 1 (8*k:Int) 8) (cz (Z6 (yt Z k) 1 (8*k:Int) 8) (stI Z K f (k+1)))
def Bl(B Lo:Int)(w:Option Int):Bool:=bif decide (B<0)then true else bif decide (4294967296<=B)then true else match w with
 |none=>false
 |some w=>decide (cE .u64 w<=Lo)
def xI(b:List Int)(op B Lo:Int)(ad:Int)(v:cb (t16 [])):cb lP:=(b,1,op,0,B,Lo,0,[],ad,v)
def vJ(h l:Int):cb (t16 []):=(jb h 0,jb h 8,jb h 16,jb h 24,jb h 32,jb h 40,jb h 48,jb h 56,jb l 0,jb l 8,jb l 16,jb l 24,jb l 32,jb l 40,jb l 48,jb l 56,())
def Ms(ad:Int):Int:=rj (FD .u64 (cE .u64 ad) 4294967295)
def uh(v:cb (t16 [])):Bool:=match v with
 |(a0,a1,a2,a3,a4,a5,a6,a7,a8,a9,aa,ab,ac,ae,af,ag,_)=>decide (a0=a0)&&(decide (a1=a1)&&(decide (a2=a2)&&(decide (a3=a3)&&(decide (a4=a4)&&(decide (a5=a5)&&(decide (a6=a6)&&(decide (a7=a7)&&(decide (a8=a8)&&(decide (a9=a9)&&(decide (aa=aa)&&(decide (ab=ab)&&(decide (ac=ac)&&(decide (ae=ae)&&(decide (af=af)&&decide (ag=ag)))))))))))))))
def b20(b b':List Int):Bool:=decide ([0,0,0,0]=[(0:Int),0,0,0])&&(decide ([0,0,0,0]=[(0:Int),0,0,0])&&(decide ((1:Int)=1)&&(decide ((1:Int)=1)&&(decide (b.length=65536)&&decide (b=b')))))
abbrev yes:Option (List Pl):=some (cp [.bool] (true,()))
abbrev nay:Option (List Pl):=some (cp [.bool] (false,()))
def n1I(B Lo:Int)(lane:Bool):Bool:=bif lane then decide (B=B)&&decide (Lo=Lo)else decide (B=B)
def inS(op B Lo:Int):Bool:=decide (op=op)&&(decide ((0:Int)=0)&&(decide (B=B)&&(decide (Lo=Lo)&&decide ((0:Int)=0))))
def Kz(V:ByteArray->Bool)(Z:List Int)(I:den nR)(op:Int)(w:Option Int)(B Lo ad:Int)(v:cb (t16 []))(h l:Int):Option (List Pl):=
 let y:=yI op B Lo true []
 let X:=xI (yt Z 8) op B Lo (cE .u32 (Ms ad)) (vJ (rj h) (rj l))
 let Y:=xI (yt Z 8) op B Lo ad v
 frI V Z I y true op (frI V Z I y true op (stI Z (cz (mP I op) (cz (inS op B Lo) (cz (decide (Ms ad=Ms ad)) (cz (uh (vJ (rj h) (rj l))) (cz (TN X) (bif Z9 X then
  cz (n1I B Lo w.isSome) (cz (uh v) (cz (TN Y) (bif Z9 Y then cz (b20 (Kw X) (Kw Y)) yes else nay)))
 else
  cz (n1I B Lo w.isSome) (cz (uh v) (cz (TN Y) (bif Z9 Y then nay else cz (b20 (Kw X) (Kw Y)) yes)))
 )))))) 8 0))
def Mt(x:cb lP):Int:=yB (j1 x).1 (j1 x).2.1 (j1 x).2.2.1 (j1 x).2.2.2.1 (j1 x).2.2.2.2.1 (j1 x).2.2.2.2.2.1 (j1 x).2.2.2.2.2.2.1 (j1 x).2.2.2.2.2.2.2.1
def Mu(x:cb lP):Int:=yB (j1 x).2.2.2.2.2.2.2.2.1 (j1 x).2.2.2.2.2.2.2.2.2.1 (j1 x).2.2.2.2.2.2.2.2.2.2.1 (j1 x).2.2.2.2.2.2.2.2.2.2.2.1 (j1 x).2.2.2.2.2.2.2.2.2.2.2.2.1 (j1 x).2.2.2.2.2.2.2.2.2.2.2.2.2.1 (j1 x).2.2.2.2.2.2.2.2.2.2.2.2.2.2.1 (j1 x).2.2.2.2.2.2.2.2.2.2.2.2.2.2.2.1
abbrev v0I:cb (t16 []):=(0,0,0,0,0,0,0,0,0,0,0,0,0,0,0,0,())
def eqL(V:ByteArray->Bool)(Z:List Int)(I:den nR)(op:Int)(w:Option Int)(B Lo ad:Int)(v:cb (t16 []))(h l:Int):Option (List Pl):=
 let y:=yI op B Lo w.isSome [123]
 let X:=xI (yt Z 8) op B Lo (cE .u32 (Ms ad)) (bif w.isSome then vJ (rj h) (rj l)else v0I)
 let Y:=xI (yt Z 8) op B Lo ad v
 frI V Z I y w.isSome op (frI V Z I y w.isSome op (stI Z (cz (mP I op) (cz (inS op B Lo) (cz (decide (Ms ad=Ms ad)) ((bif w.isSome then cz (uh (vJ (rj h) (rj l)))else id) (cz (R2 X) (bif R3 X then
  cz (n1I B Lo w.isSome) (cz (uh v) (cz (R2 Y) (bif R3 Y then bif !decide (Mt X=Mt Y)then nay else bif !decide (Mu X=Mu Y)then nay else cz (b20 (yt Z 8) (yt Z 8)) yes else nay)))
 else
  cz (n1I B Lo w.isSome) (cz (uh v) (cz (R2 Y) (bif R3 Y then nay else cz (b20 (yt Z 8) (yt Z 8)) yes)))
 )))))) 8 0))
end Go.Proofs.Vd

noncomputable section
namespace Go.Proofs.Vd
open Go.Ab Go.Ab.Lf
set_option maxRecDepth 100000
def EE(ad B:Int):Int:=iA .u64 (cE .u64 ad) (cE .u64 B)
def hfN:List Int->Int->Int->Int
 | [],x,_=>x
 |a::l,x,k=>hfN l (xG .u64 x (BJ .u64 (cE .u64 a) k)) (k+8)
def vLI(v:cb (t16 [])):List Int:=[v.1,v.2.1,v.2.2.1,v.2.2.2.1,v.2.2.2.2.1,v.2.2.2.2.2.1,v.2.2.2.2.2.2.1,v.2.2.2.2.2.2.2.1,v.2.2.2.2.2.2.2.2.1,v.2.2.2.2.2.2.2.2.2.1,v.2.2.2.2.2.2.2.2.2.2.1,v.2.2.2.2.2.2.2.2.2.2.2.1,v.2.2.2.2.2.2.2.2.2.2.2.2.1,v.2.2.2.2.2.2.2.2.2.2.2.2.2.1,v.2.2.2.2.2.2.2.2.2.2.2.2.2.2.1,v.2.2.2.2.2.2.2.2.2.2.2.2.2.2.2.1]
def p19(pl:List Pl):Option (Int×List Int×Int):=match toT yr pl with
 |some y=>some (y.2.2.2.2.2.2.2.2.2.2.2.2.2.2.2.2.1,y.2.2.2.2.2.2.2.2.2.2.2.2.2.2.2.2.2.1,y.2.2.2.2.2.2.2.2.2.2.2.2.2.2.2.2.2.2.1)
 |none=>none
def ipI(B:Int){α:Type}(a b:α):α:=bif decide (B<0)then a else bif decide (4294967296<=B)then a else b
def StP(op Lo n:Int)(k m:Nat):Prop:= ∀ (b:List Int) (B:Int) (L:List Int) (ad:Int) (v:cb (t16 [])),(RW op Lo (b,1,B,L,ad,v)).val=ipI B (some (cp sY (1,b,1,()))) (cz (Eh (b,1,EE ad B,n,hfN (((vLI v).drop k).take m) 0 0,())) (some (cp sY (yU (b,1,EE ad B,n,hfN (((vLI v).drop k).take m) 0 0,())))))
def StQ(op:Int):Prop:= ∀ (b:List Int) (B:Int) (L:List Int) (ad:Int) (v:cb (t16 [])),∃ x1 x2:Int,(RW op 0 (b,1,B,L,ad,v)).val=ipI B (some (cp sY (1,b,1,()))) (let r:=yU (b,1,iA .u64 (EE ad B) 8,8,x1,())
 cz (Eh (b,1,iA .u64 (EE ad B) 8,8,x1,())) (bif !decide (r.1=0)then some (cp sY r)else cz (Eh (r.2.1,r.2.2.1,EE ad B,8,x2,())) (some (cp sY (yU (r.2.1,r.2.2.1,EE ad B,8,x2,()))))))
def CO(op Lo n:Int):Prop:= ∀ (b:List Int) (B:Int) (L:List Int) (ad:Int) (v:cb (t16 [])),((IV op Lo (b,1,B,L,ad,v)).map p19).val=ipI B (some (some (1,b,1))) (let r:=IU (b,1,EE ad B,n,())
 cz (IQ (b,1,EE ad B,n,())) (bif !decide (r.2.1=0)then some (some (r.2.1,r.2.2.1,r.2.2.2.1))else some (some (0,r.2.2.1,r.2.2.2.1))))
def LdQ(op:Int):Prop:= ∀ (b:List Int) (B:Int) (L:List Int) (ad:Int) (v:cb (t16 [])),((IV op 0 (b,1,B,L,ad,v)).map p19).val=ipI B (some (some (1,b,1))) (let r:=IU (b,1,iA .u64 (EE ad B) 8,8,())
 cz (IQ (b,1,iA .u64 (EE ad B) 8,8,())) (bif !decide (r.2.1=0)then some (some (r.2.1,r.2.2.1,r.2.2.2.1))else(let q:=IU (r.2.2.1,r.2.2.2.1,EE ad B,8,());cz (IQ (r.2.2.1,r.2.2.2.1,EE ad B,8,())) (some (some (q.2.1,q.2.2.1,q.2.2.2.1))))))
def GP(op:Int):Prop:= ∀ (b:List Int) (B:Int) (L:List Int) (ad:Int) (v w:cb (t16 [])),(IV op 0 (b,1,B,L,ad,v)).val=(IV op 0 (b,1,B,L,ad,w)).val
theorem Kx{α:Type}{B:Int}(h0:0<=B)(h1:B<4294967296)(a b:α):ipI B a b=b:=by
 unfold ipI
 rw[df (show ¬ B<0 by omega),df (show ¬ 4294967296<=B by omega)]
 rfl
theorem uH(ad B k:Int):(∃ n:Nat,EE ad B=n)/\ ∃ n:Nat,iA .u64 (EE ad B) k=n:=by
 have h1:U (EE ad B):=aeF _
 have h2:U (iA .u64 (EE ad B) k):=aeF _
 have h1:=h1.1
 have h2:=h2.1
 exact⟨⟨(EE ad B).toNat,(Int.toNat_of_nonneg h1).symm⟩,⟨(iA .u64 (EE ad B) k).toNat,(Int.toNat_of_nonneg h2).symm⟩⟩
theorem El{b:List Int}{a n x:Int}(hb:b.length=65536)(ha: ∃ k:Nat,a=k)(hn:n=1∨n=2∨n=4∨n=8):Eh (b,1,a,n,x,())=true/\ ∃ e b',yU (b,1,a,n,x,())=(e,b',1,())/\b'.length=65536/\(e=0∨e=23):=by
 obtain⟨a,rfl⟩:=ha
 obtain⟨n,rfl⟩: ∃ k:Nat,n=k:=⟨n.toNat,(Int.toNat_of_nonneg (by rcases hn with h|h|h|h<;>(rw[h];decide))).symm⟩
 obtain⟨h1,e,b',h2,h3,h4⟩:=ai6 b 1 a n x (by omega) (by omega)
 exact⟨h1,e,b',h2,h3.trans hb,h4.elim .inl fun h=>h.elim (fun h=>absurd h.2 (by omega)) .inr⟩
theorem Em{b:List Int}{a n:Int}(hb:b.length=65536)(ha: ∃ k:Nat,a=k)(hn:n=1∨n=2∨n=4∨n=8):IQ (b,1,a,n,())=true/\ ∃ x e,IU (b,1,a,n,())=(x,e,b,1,())/\(e=0∨e=23):=by
 obtain⟨a,rfl⟩:=ha
 obtain⟨n,rfl⟩: ∃ k:Nat,n=k:=⟨n.toNat,(Int.toNat_of_nonneg (by rcases hn with h|h|h|h<;>(rw[h];decide))).symm⟩
 obtain⟨h1,x,e,h2,_,h4⟩:=aoe b 1 a n (by omega) (by omega)
 exact⟨h1,x,e,h2,h4.elim .inl fun h=>h.elim (fun h=>absurd h.2 (by omega)) .inr⟩
theorem IZ{b:List Int}{op B Lo ad:Int}{v:cb (t16 [])}{e:Int}{b':List Int}(h:(RW op Lo (b,1,B,[],ad,v)).val=some (cp sY (e,b',1,())))(he:e=0∨e=23)(hb:b'.length=65536):TN (xI b op B Lo ad v)=true/\(Kw (xI b op B Lo ad v)).length=65536:=by
 obtain⟨q1,q2⟩:=CK (iM _) (iM _) (k:=RX op Lo (b,1,B,[],ad,v)) (m:=X8 op Lo (b,1,B,[],ad,v)) h
 have e1:RY (xI b op B Lo ad v)=true:=by
  show((decide ((0:Int)=0)&&decide ((0:Int)=0))&&RX op Lo (b,1,B,[],ad,v))=true
  rw[q1];rfl
 have e2:Bk (xI b op B Lo ad v)=(e,b',1,()):=q2
 refine⟨?_,?_⟩
 ·unfold TN
  rw[e1,e2]
  rcases he with rfl|rfl<;>rfl
 ·unfold Kw
  rw[e2]
  exact hb
theorem StP.g{op Lo n:Int}{k m:Nat}(H:StP op Lo n k m)(hn:n=1∨n=2∨n=4∨n=8){b:List Int}(hb:b.length=65536){B:Int}(h0:0<=B)(h1:B<4294967296)(ad:Int)(v:cb (t16 [])):TN (xI b op B Lo ad v)=true/\(Kw (xI b op B Lo ad v)).length=65536:=by
 have e:=H b B [] ad v
 obtain⟨q1,er,b',q2,q3,q4⟩:=El (x:=hfN (((vLI v).drop k).take m) 0 0) hb (uH ad B 8).1 hn
 rw[Kx h0 h1,q1,q2,qy rfl]at e
 exact IZ e q4 q3
theorem StQ.g{op:Int}(H:StQ op){b:List Int}(hb:b.length=65536){B:Int}(h0:0<=B)(h1:B<4294967296)(ad:Int)(v:cb (t16 [])):TN (xI b op B 0 ad v)=true/\(Kw (xI b op B 0 ad v)).length=65536:=by
 obtain⟨x1,x2,e⟩:=H b B [] ad v
 obtain⟨q1,er,b',q2,q3,q4⟩:=El (x:=x1) hb (uH ad B 8).2 (.inr (.inr (.inr rfl)))
 rw[Kx h0 h1,q1,q2,qy rfl]at e
 dsimp only at e
 rcases q4 with rfl|rfl
 ·rw[show(!decide ((0:Int)=0))=false from rfl,cond_false]at e
  obtain⟨r1,er2,b2,r2,r3,r4⟩:=El (x:=x2) q3 (uH ad B 8).1 (.inr (.inr (.inr rfl)))
  rw[r1,r2,qy rfl]at e
  exact IZ e r4 r3
 ·rw[show(!decide ((23:Int)=0))=true from rfl,cond_true]at e
  exact IZ e (.inr rfl) q3
theorem Eo{b:List Int}{op B Lo ad:Int}{v:cb (t16 [])}{e:Int}(h:((IV op Lo (b,1,B,[],ad,v)).map p19).val=some (some (e,b,1)))(he:e=0∨e=23):R2 (xI b op B Lo ad v)=true:=by
 obtain⟨pl,h1,h2⟩:=Lf.T.DJ h
 unfold p19 at h2
 split at h2
 ·rename_i y hy
  injection h2 with h2
  have:=sj hy
  subst this
  obtain⟨q1,q2⟩:=CK (iM _) (iM _) (k:=RT op Lo (b,1,B,[],ad,v)) (m:=IW op Lo (b,1,B,[],ad,v)) h1
  have e1:RU (xI b op B Lo ad v)=true:=by
   show((decide ((0:Int)=0)&&decide ((0:Int)=0))&&RT op Lo (b,1,B,[],ad,v))=true
   rw[q1];rfl
  have e2:j1 (xI b op B Lo ad v)=y:=q2
  have f1:Ek (xI b op B Lo ad v)=e:=by
   unfold Ek
   rw[e2]
   exact(congrArg (fun z:Int×List Int×Int=>z.1) h2).symm
  unfold R2
  rw[e1,f1,e2]
  have f2:y.2.2.2.2.2.2.2.2.2.2.2.2.2.2.2.2.2.1=b:=(congrArg (fun z:Int×List Int×Int=>z.2.1) h2).symm
  have f3:y.2.2.2.2.2.2.2.2.2.2.2.2.2.2.2.2.2.2.1=1:=(congrArg (fun z:Int×List Int×Int=>z.2.2) h2).symm
  rw[f3]
  have f2:decide (y.2.2.2.2.2.2.2.2.2.2.2.2.2.2.2.2.2.1=(xI b op B Lo ad v).1)=true:=decide_eq_true f2
  rw[f2]
  rcases he with rfl|rfl<;>rfl
 ·cases h2
theorem CO.g{op Lo n:Int}(H:CO op Lo n)(hn:n=1∨n=2∨n=4∨n=8){b:List Int}(hb:b.length=65536){B:Int}(h0:0<=B)(h1:B<4294967296)(ad:Int)(v:cb (t16 [])):R2 (xI b op B Lo ad v)=true:=by
 have e:=H b B [] ad v
 obtain⟨q1,x,er,q2,q4⟩:=Em hb (uH ad B 8).1 hn
 rw[Kx h0 h1,q1,q2,qy rfl]at e
 dsimp only at e
 rcases q4 with rfl|rfl
 ·exact Eo e (.inl rfl)
 ·exact Eo e (.inr rfl)
theorem LdQ.g{op:Int}(H:LdQ op){b:List Int}(hb:b.length=65536){B:Int}(h0:0<=B)(h1:B<4294967296)(ad:Int)(v:cb (t16 [])):R2 (xI b op B 0 ad v)=true:=by
 have e:=H b B [] ad v
 obtain⟨q1,x,er,q2,q4⟩:=Em hb (uH ad B 8).2 (.inr (.inr (.inr rfl)))
 rw[Kx h0 h1,q1,q2,qy rfl]at e
 dsimp only at e
 rcases q4 with rfl|rfl
 ·rw[show(!decide ((0:Int)=0))=false from rfl,cond_false]at e
  obtain⟨r1,x2,er2,r2,r4⟩:=Em hb (uH ad B 8).1 (.inr (.inr (.inr rfl)))
  rw[r1,r2,qy rfl]at e
  exact Eo e r4
 ·exact Eo e (.inr rfl)
theorem GP.m{op:Int}(H:GP op)(b:List Int)(B ad:Int)(v w:cb (t16 [])):j1 (xI b op B 0 ad v)=j1 (xI b op B 0 ad w):=by
 show IW op 0 (b,1,B,[],ad,v)=IW op 0 (b,1,B,[],ad,w)
 unfold IW
 rw[iM,iM]
 unfold jP
 rw[H b B [] ad v w]
end Go.Proofs.Vd

noncomputable section
namespace Go.Proofs.Vd
open Go.Ab Go.Ab.Lf
set_option maxRecDepth 100000
theorem aeJ{a b:Nat}(ha:a<18446744073709551616)(hb:b<18446744073709551616):xG .u64 (a:Int) (b:Int)=((a ||| b:Nat):Int):=by
 show intOf (bif Nat.blt a 18446744073709551616&&Nat.blt b 18446744073709551616 then some (.int .u64 (.ofNat (Nat.lor a b)))else _)=_
 rw[show(Nat.blt a 18446744073709551616)=true by simpa using ha,show(Nat.blt b 18446744073709551616)=true by simpa using hb]
 rfl
theorem aeK(x c n:Nat)(hx:x<2 ^ n):x ||| c*2 ^ n=x+c*2 ^ n:=by
 rw[Nat.or_comm,Nat.mul_comm,<-Nat.two_pow_add_eq_or_of_lt hx,Nat.add_comm]
theorem yu{x c n:Nat}(hn:n<=56)(hx:x<2 ^ n)(hc:c<256):xG .u64 (x:Int) (ja .u64 (cE .u64 (c:Int)*(2 ^ n:Nat)))=((x+c*2 ^ n:Nat):Int)/\x+c*2 ^ n<2 ^ (n+8):=by
 have h1:2 ^ n<=2 ^ 56:=Nat.pow_le_pow_right (by decide) hn
 have h2:c*2 ^ n<=255*2 ^ n:=Nat.mul_le_mul_right _ (by omega)
 have h3:2 ^ (n+8)=256*2 ^ n:=by rw[Nat.pow_add];omega
 refine⟨?_,by omega⟩
 have e:ja .u64 (cE .u64 (c:Int)*(2 ^ n:Nat))=((c*2 ^ n:Nat):Int):=by
  show(((c:Int) % 18446744073709551616)*(2 ^ n:Nat)) % 18446744073709551616=_
  rw[show(c:Int) % 18446744073709551616=c by omega]
  have:((c*2 ^ n:Nat):Int)=(c:Int)*((2 ^ n:Nat):Int):=Int.natCast_mul _ _
  rw[<-this]
  exact Int.emod_eq_of_lt (by omega) (by omega)
 rw[e,aeJ (by omega) (by omega),aeK _ _ _ hx]
theorem Ep(a b c d e f g h:Nat)(ha:a<256)(hb:b<256)(hc:c<256)(hd:d<256)(he:e<256)(hf:f<256)(hg:g<256)(hh:h<256):
 yB a b c d e f g h=((a+b*256+c*65536+d*16777216+e*4294967296+f*1099511627776+g*281474976710656+h*72057594037927936:Nat):Int):=by
 have q:yB a b c d e f g h=xG .u64 (xG .u64 (xG .u64 (xG .u64 (xG .u64 (xG .u64 (xG .u64 (xG .u64 ((0:Nat):Int) (ja .u64 (cE .u64 (a:Int)*(2 ^ 0:Nat)))) (ja .u64 (cE .u64 (b:Int)*(2 ^ 8:Nat)))) (ja .u64 (cE .u64 (c:Int)*(2 ^ 16:Nat)))) (ja .u64 (cE .u64 (d:Int)*(2 ^ 24:Nat)))) (ja .u64 (cE .u64 (e:Int)*(2 ^ 32:Nat)))) (ja .u64 (cE .u64 (f:Int)*(2 ^ 40:Nat)))) (ja .u64 (cE .u64 (g:Int)*(2 ^ 48:Nat)))) (ja .u64 (cE .u64 (h:Int)*(2 ^ 56:Nat))):=by kernel_rfl
 obtain⟨p1,q1⟩:=yu (x:=0) (n:=0) (by decide) (by decide) ha
 obtain⟨p2,q2⟩:=yu (n:=8) (by decide) q1 hb
 obtain⟨p3,q3⟩:=yu (n:=16) (by decide) q2 hc
 obtain⟨p4,q4⟩:=yu (n:=24) (by decide) q3 hd
 obtain⟨p5,q5⟩:=yu (n:=32) (by decide) q4 he
 obtain⟨p6,q6⟩:=yu (n:=40) (by decide) q5 hf
 obtain⟨p7,q7⟩:=yu (n:=48) (by decide) q6 hg
 obtain⟨p8,q8⟩:=yu (n:=56) (by decide) q7 hh
 rw[q,p1,p2,p3,p4,p5,p6,p7,p8]
 refine congrArg _ ?_
 omega
theorem ajr(x k d:Int)(_:pX .u64 x k=x.fdiv d):jb x k=(x.fdiv d) % 256:=by
 unfold jb
 rw[‹pX .u64 x k=x.fdiv d›]
 rfl
theorem mz(x k d:Nat)(_:pX .u64 (x:Int) (k:Int)=(x:Int).fdiv (d:Int)):jb (x:Int) (k:Int)=((x / d % 256:Nat):Int):=by
 rw[ajr _ _ _ ‹_›,Int.fdiv_eq_ediv_of_nonneg _ (by omega)]
 omega
theorem R4{x:Int}(h:U x):rj x=x:=by
 obtain⟨n,rfl,hn⟩:=RO h
 unfold rj
 rw[show jb (n:Int) 0=((n / 1 % 256:Nat):Int)from mz n 0 1 rfl,show jb (n:Int) 8=((n / 256 % 256:Nat):Int)from mz n 8 256 rfl,show jb (n:Int) 16=((n / 65536 % 256:Nat):Int)from mz n 16 65536 rfl,show jb (n:Int) 24=((n / 16777216 % 256:Nat):Int)from mz n 24 16777216 rfl,show jb (n:Int) 32=((n / 4294967296 % 256:Nat):Int)from mz n 32 4294967296 rfl,show jb (n:Int) 40=((n / 1099511627776 % 256:Nat):Int)from mz n 40 1099511627776 rfl,show jb (n:Int) 48=((n / 281474976710656 % 256:Nat):Int)from mz n 48 281474976710656 rfl,show jb (n:Int) 56=((n / 72057594037927936 % 256:Nat):Int)from mz n 56 72057594037927936 rfl]
 rw[Ep _ _ _ _ _ _ _ _ (Nat.mod_lt _ (by decide)) (Nat.mod_lt _ (by decide)) (Nat.mod_lt _ (by decide)) (Nat.mod_lt _ (by decide)) (Nat.mod_lt _ (by decide)) (Nat.mod_lt _ (by decide)) (Nat.mod_lt _ (by decide)) (Nat.mod_lt _ (by decide))]
 refine congrArg _ ?_
 omega
def By(x:Int):Prop:=0<=x/\x<256
theorem mA{x:Int}(h:By x): ∃ n:Nat,x=n/\n<256:=⟨x.toNat,by have:=h.1;omega,by have:=h.1;have:=h.2;omega⟩
theorem Z'{a b c d e f g h:Int}(ha:By a)(hb:By b)(hc:By c)(hd:By d)(he:By e)(hf:By f)(hg:By g)(hh:By h):U (yB a b c d e f g h):=by
 obtain⟨a,rfl,ga⟩:=mA ha
 obtain⟨b,rfl,gb⟩:=mA hb
 obtain⟨c,rfl,gc⟩:=mA hc
 obtain⟨d,rfl,gd⟩:=mA hd
 obtain⟨e,rfl,ge⟩:=mA he
 obtain⟨f,rfl,gf⟩:=mA hf
 obtain⟨g,rfl,gg⟩:=mA hg
 obtain⟨h,rfl,gh⟩:=mA hh
 rw[Ep a b c d e f g h ga gb gc gd ge gf gg gh]
 unfold U
 omega
theorem R5{a b c d e f g h:Int}(ha:By a)(hb:By b)(hc:By c)(hd:By d)(he:By e)(hf:By f)(hg:By g)(hh:By h):
 jb (yB a b c d e f g h) 0=a/\jb (yB a b c d e f g h) 8=b/\jb (yB a b c d e f g h) 16=c/\jb (yB a b c d e f g h) 24=d/\jb (yB a b c d e f g h) 32=e/\jb (yB a b c d e f g h) 40=f/\jb (yB a b c d e f g h) 48=g/\jb (yB a b c d e f g h) 56=h:=by
 obtain⟨a,rfl,ga⟩:=mA ha
 obtain⟨b,rfl,gb⟩:=mA hb
 obtain⟨c,rfl,gc⟩:=mA hc
 obtain⟨d,rfl,gd⟩:=mA hd
 obtain⟨e,rfl,ge⟩:=mA he
 obtain⟨f,rfl,gf⟩:=mA hf
 obtain⟨g,rfl,gg⟩:=mA hg
 obtain⟨h,rfl,gh⟩:=mA hh
 rw[Ep a b c d e f g h ga gb gc gd ge gf gg gh]
 have r: ∀ x r:Nat,x<256->(x+256*r) % 256=x/\(x+256*r) / 256=r:=fun x r hx=>by omega
 obtain⟨n,hN⟩: ∃ n:Nat,n=a+256*(b+256*(c+256*(d+256*(e+256*(f+256*(g+256*h)))))):=⟨_,rfl⟩
 rw[show a+b*256+c*65536+d*16777216+e*4294967296+f*1099511627776+g*281474976710656+h*72057594037927936=n by rw[hN];omega]
 have e0:n / 1=a+256*(b+256*(c+256*(d+256*(e+256*(f+256*(g+256*(h))))))):=by rw[Nat.div_one];exact hN
 have e1:n / 256=b+256*(c+256*(d+256*(e+256*(f+256*(g+256*(h)))))):=by rw[show n / 256=n / 1 / 256 from(Nat.div_div_eq_div_mul n 1 256).symm,e0];exact(r _ _ ga).2
 have e2:n / 65536=c+256*(d+256*(e+256*(f+256*(g+256*(h))))):=by rw[show n / 65536=n / 256 / 256 from(Nat.div_div_eq_div_mul n 256 256).symm,e1];exact(r _ _ gb).2
 have e3:n / 16777216=d+256*(e+256*(f+256*(g+256*(h)))):=by rw[show n / 16777216=n / 65536 / 256 from(Nat.div_div_eq_div_mul n 65536 256).symm,e2];exact(r _ _ gc).2
 have e4:n / 4294967296=e+256*(f+256*(g+256*(h))):=by rw[show n / 4294967296=n / 16777216 / 256 from(Nat.div_div_eq_div_mul n 16777216 256).symm,e3];exact(r _ _ gd).2
 have e5:n / 1099511627776=f+256*(g+256*(h)):=by rw[show n / 1099511627776=n / 4294967296 / 256 from(Nat.div_div_eq_div_mul n 4294967296 256).symm,e4];exact(r _ _ ge).2
 have e6:n / 281474976710656=g+256*(h):=by rw[show n / 281474976710656=n / 1099511627776 / 256 from(Nat.div_div_eq_div_mul n 1099511627776 256).symm,e5];exact(r _ _ gf).2
 have e7:n / 72057594037927936=h:=by rw[show n / 72057594037927936=n / 281474976710656 / 256 from(Nat.div_div_eq_div_mul n 281474976710656 256).symm,e6];exact(r _ _ gg).2
 refine⟨?_,?_,?_,?_,?_,?_,?_,?_⟩
 ·rw[show jb (n:Int) 0=((n / 1 % 256:Nat):Int)from mz n 0 1 rfl,e0];exact congrArg _ ((r _ _ ga).1)
 ·rw[show jb (n:Int) 8=((n / 256 % 256:Nat):Int)from mz n 8 256 rfl,e1];exact congrArg _ ((r _ _ gb).1)
 ·rw[show jb (n:Int) 16=((n / 65536 % 256:Nat):Int)from mz n 16 65536 rfl,e2];exact congrArg _ ((r _ _ gc).1)
 ·rw[show jb (n:Int) 24=((n / 16777216 % 256:Nat):Int)from mz n 24 16777216 rfl,e3];exact congrArg _ ((r _ _ gd).1)
 ·rw[show jb (n:Int) 32=((n / 4294967296 % 256:Nat):Int)from mz n 32 4294967296 rfl,e4];exact congrArg _ ((r _ _ ge).1)
 ·rw[show jb (n:Int) 40=((n / 1099511627776 % 256:Nat):Int)from mz n 40 1099511627776 rfl,e5];exact congrArg _ ((r _ _ gf).1)
 ·rw[show jb (n:Int) 48=((n / 281474976710656 % 256:Nat):Int)from mz n 48 281474976710656 rfl,e6];exact congrArg _ ((r _ _ gg).1)
 ·rw[show jb (n:Int) 56=((n / 72057594037927936 % 256:Nat):Int)from mz n 56 72057594037927936 rfl,e7];exact congrArg _ (Nat.mod_eq_of_lt gh)
end Go.Proofs.Vd

noncomputable section
namespace Go.Proofs.Vd
open Go.Ab Go.Ab.Lf
set_option maxRecDepth 100000
def hvI(v:cb (t16 [])):Int:=match v with
 |(a0,a1,a2,a3,a4,a5,a6,a7,_)=>yB a0 a1 a2 a3 a4 a5 a6 a7
def lvI(v:cb (t16 [])):Int:=match v with
 |(_,_,_,_,_,_,_,_,a8,a9,aa,ab,ac,ae,af,ag,_)=>yB a8 a9 aa ab ac ae af ag
def I0(I:den nR)(op:Int)(w:Option Int):Prop:= ∀ (V:ByteArray->Bool) (Z:List Int) (A B Lo Hi:Int) (L:List Int) (ad:Int) (v:cb (t16 [])),
 (t4w V Z I op (A,B,Lo,Hi,L,ad,v)).val=bif Bl B Lo w then yes else Kz V Z I op w B (bif w.isSome then Lo else 0) ad v (hvI v) (lvI v)
def rQ(I:den nR)(op:Int)(w:Option Int):Prop:= ∀ (V:ByteArray->Bool) (Z:List Int) (A B Lo Hi:Int) (L:List Int) (ad:Int) (v:cb (t16 [])),
 (t4w V Z I op (A,B,Lo,Hi,L,ad,v)).val=bif Bl B Lo w then yes else eqL V Z I op w B (bif w.isSome then Lo else 0) ad v (hvI v) (lvI v)
end Go.Proofs.Vd

noncomputable section
namespace Go.Proofs.Vd
open Go.Ab Go.Ab.Lf
set_option maxRecDepth 100000
theorem zA{Z:List Int}(hZ:Z.length=65536): ∀ k:Nat,k<=8->(yt Z k).length=65536
 |0,_=>hZ
 |k+1,h=>(Z7 (x:=vt .u64 (8*k:Int) 81985529216486895) (zA hZ k (by omega)) (show(0:Int)<=8*(k:Int) by omega) (show(8*(k:Int))<=65528 by omega)).2.2
theorem ajs{b:List Int}{a:Int}(hb:b.length=65536)(h0:0<=a)(h1:a<=65528):Z6 b 1 a 8=true:=by
 unfold Z6
 rw[dt hb,dt h0,dt h1]
 rfl
theorem I1{Z:List Int}(hZ:Z.length=65536)(K:Option (List Pl)): ∀ f k:Nat,f+k=8->stI Z K f k=K
 |0,_,_=>rfl
 |f+1,k,h=>by
  show cz (Z6 (yt Z k) 1 (8*k:Int) 8) (cz (Z6 (yt Z k) 1 (8*k:Int) 8) (stI Z K f (k+1)))=K
  rw[ajs (zA hZ k (by omega)) (by omega) (by omega),qy rfl,qy rfl]
  exact I1 hZ K f (k+1) (by omega)
theorem lr{I:den nR}{x:Int}(h:A0 x=true)(h1:(kM x).1=(IX I x).1)(h2:(kM x).2.1=(IX I x).2.1)(h3:(kM x).2.2.1=(IX I x).2.2.1)(h4:(kM x).2.2.2.1=(IX I x).2.2.2.1)(h5:(kM x).2.2.2.2.1=(IX I x).2.2.2.2):mP I x=true:=
 @decide_eq_true _ (Classical.propDecidable _) ⟨h,h1,h2,h3,h4,h5⟩
theorem aeN(I:den nR):mP I 32=true:=lr (by kernel_rfl) (by kernel_rfl) (by kernel_rfl) (by kernel_rfl) (by kernel_rfl) (by kernel_rfl)
theorem aeO(I:den nR):mP I 11=true:=lr (by kernel_rfl) (by kernel_rfl) (by kernel_rfl) (by kernel_rfl) (by kernel_rfl) (by kernel_rfl)
theorem mbI(op B Lo:Int)(two:Bool)(out:List Int)(ho:out.length<=1):mbB (yI op B Lo two out)=true:=by
 refine @decide_eq_true _ (Classical.propDecidable _) ?_
 have hb:LI (bL op B Lo two):=by
  refine⟨?_,fun x hx=>?_⟩
  ·cases two
   ·show 3<=1099511627776;decide
   ·show 4<=1099511627776;decide
  ·have:x=(32,0,0,0,0,[])∨x=(32,1,0,0,0,[])∨x=iG op B Lo∨x=iC 11 0 0:=by
    cases two with
    |true=>
     have hx:x∈[((32:Int),(0:Int),(0:Int),(0:Int),(0:Int),([]:List Int)),(32,1,0,0,0,[]),iG op B Lo,iC 11 0 0]:=hx
     simpa using hx
    |false=>
     have hx:x∈[((32:Int),(0:Int),(0:Int),(0:Int),(0:Int),([]:List Int)),iG op B Lo,iC 11 0 0]:=hx
     simp only[List.mem_cons,List.not_mem_nil,or_false]at hx
     rcases hx with h|h|h
     ·exact .inl h
     ·exact .inr (.inr (.inl h))
     ·exact .inr (.inr (.inr h))
   rcases this with h|h|h|h<;>(rw[h];exact Nat.zero_le _)
 refine⟨by show 1<=1099511627776;decide,by show 0<=1099511627776;decide,by show 1<=1099511627776;decide,by show 0<=1099511627776;decide,by show 1<=1099511627776;decide,by show 3<=1099511627776;decide,by show 0<=1099511627776;decide,by show 0<=1099511627776;decide,by show 1<=1099511627776;decide,by show 0<=1099511627776;decide,fun x hx=>?_,fun x hx=>?_,fun x hx=>?_,fun x hx=>?_,fun x hx=>?_⟩
 ·rw[show x=([127,123],out) by simpa using hx];exact⟨show 2<=1099511627776 by decide,show out.length<=1099511627776 by omega⟩
 ·have hx:x∈gI:=hx
  simp only[gI,List.mem_cons,List.not_mem_nil,or_false]at hx
  rcases hx with h|h|h
  ·rw[h];exact RL 65 0 0
  ·rw[h];exact RL 66 0 0
  ·rw[h];exact RL 64780 0 0
 ·cases hx
 ·rw[show x=([],bL op B Lo two) by simpa using hx];exact⟨Nat.zero_le _,hb⟩
 ·cases hx
theorem Er{V:ByteArray->Bool}{Z:List Int}{I:den nR}{op B Lo:Int}{two:Bool}{out:List Int}(hZ:Z=List.replicate 65536 (0:Int))(hI:mP I op=true)(C:CI op Lo two out)(h0:0<=B)(h1:B<4294967296)(ho:out.length<=1)(K:Option (List Pl)):frI V Z I (yI op B Lo two out) two op K=K:=by
 obtain⟨c1,c2⟩:=OL V C h0 h1
 unfold frI zOk
 rw[c1,dt c2,mbI op B Lo two out ho,dt hZ,aeN,aeO,hI]
 cases two<;>rfl
theorem I2{ad:Int}(h0:0<=ad)(h1:ad<4294967296):cE .u32 (Ms ad)=ad:=by
 obtain⟨n,rfl⟩: ∃ n:Nat,ad=n:=⟨ad.toNat,by omega⟩
 unfold Ms
 have e:FD .u64 (cE .u64 (n:Int)) 4294967295=(n:Int):=by
  rw[show cE .u64 (n:Int)=(n:Int)from GJ (by omega)]
  have:=Kp n 4294967295 (by omega) (by decide)
  rw[show((4294967295:Nat):Int)=4294967295 from rfl]at this
  rw[this,show(4294967295:Nat)=2 ^ 32 - 1 from rfl,Nat.and_two_pow_sub_one_eq_mod]
  refine congrArg _ ?_
  omega
 rw[e,R4 ⟨by omega,by omega⟩]
 show(n:Int) % 4294967296=n
 omega
def ByV(v:cb (t16 [])):Prop:=match v with
 |(a0,a1,a2,a3,a4,a5,a6,a7,a8,a9,aa,ab,ac,ae,af,ag,_)=>By a0/\By a1/\By a2/\By a3/\By a4/\By a5/\By a6/\By a7/\By a8/\By a9/\By aa/\By ab/\By ac/\By ae/\By af/\By ag
theorem aaa{v:cb (t16 [])}(h:ByV v):vJ (rj (hvI v)) (rj (lvI v))=v:=by
 obtain⟨a0,a1,a2,a3,a4,a5,a6,a7,a8,a9,aa,ab,ac,ae,af,ag,⟨⟩⟩:=v
 obtain⟨h0,h1,h2,h3,h4,h5,h6,h7,h8,h9,ha,hb,hc,he,hf,hg⟩:=h
 show vJ (rj (yB a0 a1 a2 a3 a4 a5 a6 a7)) (rj (yB a8 a9 aa ab ac ae af ag))=_
 rw[R4 (Z' h0 h1 h2 h3 h4 h5 h6 h7),R4 (Z' h8 h9 ha hb hc he hf hg)]
 obtain⟨p0,p1,p2,p3,p4,p5,p6,p7⟩:=R5 h0 h1 h2 h3 h4 h5 h6 h7
 obtain⟨q0,q1,q2,q3,q4,q5,q6,q7⟩:=R5 h8 h9 ha hb hc he hf hg
 unfold vJ
 rw[p0,p1,p2,p3,p4,p5,p6,p7,q0,q1,q2,q3,q4,q5,q6,q7]
theorem Bm(v:cb (t16 [])):uh v=true:=by
 obtain⟨a0,a1,a2,a3,a4,a5,a6,a7,a8,a9,aa,ab,ac,ae,af,ag,⟨⟩⟩:=v
 unfold uh
 simp only[decide_true,Bool.and_self]
theorem aab(B Lo:Int)(l:Bool):n1I B Lo l=true:=by
 unfold n1I
 cases l<;>simp
theorem aac(op B Lo:Int):inS op B Lo=true:=by
 unfold inS
 simp
theorem aad{b:List Int}(hb:b.length=65536):b20 b b=true:=by
 unfold b20
 simp[hb]
theorem ajt{V:ByteArray->Bool}{Z:List Int}{I:den nR}{op:Int}{w:Option Int}{B Lo ad:Int}{v:cb (t16 [])}(hZ:Z=List.replicate 65536 (0:Int))(hI:mP I op=true)(C:CI op Lo true [])(h0:0<=B)(h1:B<4294967296)(a0:0<=ad)(a1:ad<4294967296)(hv:ByV v)
 (hg: ∀ b:List Int,b.length=65536->TN (xI b op B Lo ad v)=true/\(Kw (xI b op B Lo ad v)).length=65536):Kz V Z I op w B Lo ad v (hvI v) (lvI v)=yes:=by
 have hl:Z.length=65536:=by rw[hZ];exact List.length_replicate ..
 obtain⟨g1,g2⟩:=hg (yt Z 8) (zA hl 8 (Nat.le_refl _))
 unfold Kz
 dsimp only
 rw[Er hZ hI C h0 h1 (by decide),Er hZ hI C h0 h1 (by decide),I1 hl _ 8 0 rfl,hI,aac,dt (rfl:Ms ad=Ms ad),aaa hv,I2 a0 a1,Bm,aab,g1,aad g2]
 cases Z9 (xI (yt Z 8) op B Lo ad v)<;>rfl
theorem aeQ{V:ByteArray->Bool}{Z:List Int}{I:den nR}{op:Int}{w:Option Int}{B Lo ad:Int}{v:cb (t16 [])}(hZ:Z=List.replicate 65536 (0:Int))(hI:mP I op=true)(C:CI op Lo w.isSome [123])(h0:0<=B)(h1:B<4294967296)(a0:0<=ad)(a1:ad<4294967296)(hv:ByV v)
 (hg: ∀ b:List Int,b.length=65536-> ∀ v,R2 (xI b op B Lo ad v)=true)(hi:w=none-> ∀ (b:List Int) v',j1 (xI b op B Lo ad v)=j1 (xI b op B Lo ad v')):eqL V Z I op w B Lo ad v (hvI v) (lvI v)=yes:=by
 have hl:Z.length=65536:=by rw[hZ];exact List.length_replicate ..
 have hl8:=zA hl 8 (Nat.le_refl _)
 obtain⟨X,hX⟩: ∃ X,X=xI (yt Z 8) op B Lo (cE .u32 (Ms ad)) (bif w.isSome then vJ (rj (hvI v)) (rj (lvI v))else v0I):=⟨_,rfl⟩
 have hX1:j1 X=j1 (xI (yt Z 8) op B Lo ad v):=by
  rw[hX,I2 a0 a1]
  cases w with
  |none=>exact(hi rfl _ _).symm
  |some w=>
   show j1 (xI (yt Z 8) op B Lo ad (vJ (rj (hvI v)) (rj (lvI v))))=_
   rw[aaa hv]
 have hX2:R2 X=true:=by rw[hX,I2 a0 a1];exact hg _ hl8 _
 have e1:Ek X=Ek (xI (yt Z 8) op B Lo ad v):=by unfold Ek;rw[hX1]
 have e2:R3 X=R3 (xI (yt Z 8) op B Lo ad v):=by unfold R3;rw[e1]
 have e3:Mt X=Mt (xI (yt Z 8) op B Lo ad v):=by unfold Mt;rw[hX1]
 have e4:Mu X=Mu (xI (yt Z 8) op B Lo ad v):=by unfold Mu;rw[hX1]
 unfold eqL
 dsimp only
 rw[<-hX,hX2,e2,e3,e4]
 rw[Er hZ hI C h0 h1 (by decide),Er hZ hI C h0 h1 (by decide),I1 hl _ 8 0 rfl,hI,aac,dt (rfl:Ms ad=Ms ad),dt (rfl:Mt (xI (yt Z 8) op B Lo ad v)=_),dt (rfl:Mu (xI (yt Z 8) op B Lo ad v)=_),Bm,Bm,aab,hg _ hl8 v,aad hl8]
 cases R3 (xI (yt Z 8) op B Lo ad v)<;>cases w<;>rfl
def Mv(P:Nat->Prop):Nat->Prop
 |0=>True
 |n+1=>Mv P n/\P n
theorem Mv.get{P:Nat->Prop}: ∀ {n:Nat},Mv P n-> ∀ k,k<n->P k
 |0,_,_,h=>absurd h (Nat.not_lt_zero _)
 |n+1,h,k,hk=>by
  by_cases e:k=n
  ·rw[e];exact h.2
  ·exact h.1.get k (by omega)
end Go.Proofs.Vd
