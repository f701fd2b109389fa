import Derived.Test.YtjeanplhkkpdmaaGreatDoorLfG
import Derived.Test.YtjeanplhkkpdmaaGreatDoorXbI
import Derived.KernelRfl
noncomputable section
namespace Go.Proofs
open Go.Ab Go.Ab.Lf
set_option maxRecDepth 100000
def Tryz.xs:Tr xF:=(.node (.node (.node (.node (.node (.node (.node (.node .nil (some Tryz.amz) .nil) none (.node .nil (some Tryz.ab9) .nil)) (some Tryz.x31) (.node (.node .nil (some Tryz.amN) .nil) (some Tryz.x95) .nil)) (some Tryz.x15) (.node (.node (.node .nil (some Tryz.ahe) .nil) (some Tryz.x79) (.node .nil (some Tryz.ahn) .nil)) (some Tryz.x47) (.node (.node .nil none .nil) (some Tryz.amr) .nil))) none (.node (.node (.node (.node .nil (some Tryz.amD) .nil) none (.node .nil none .nil)) (some Tryz.x39) (.node (.node .nil (some Tryz.ahf) .nil) none .nil)) (some Tryz.x23) (.node (.node (.node .nil none .nil) (some Tryz.x87) .nil) (some Tryz.x55) (.node (.node .nil none .nil) (some Tryz.amu) .nil)))) none (.node (.node (.node (.node (.node .nil (some Tryz.amC) .nil) none (.node .nil (some Tryz.ahl) .nil)) (some Tryz.x35) (.node (.node .nil none .nil) none .nil)) (some Tryz.x19) (.node (.node (.node .nil none .nil) (some Tryz.x83) .nil) (some Tryz.x51) (.node (.node .nil none .nil) (some Tryz.abW) .nil))) (some Tryz.DQ) (.node (.node (.node (.node .nil (some Tryz.P7) .nil) (some Tryz.x75) (.node .nil (some Tryz.am4) .nil)) (some Tryz.x43) (.node (.node .nil (some Tryz.ahi) .nil) (some Tryz.amo) .nil)) none (.node (.node (.node .nil none .nil) (some Tryz.x91) .nil) (some Tryz.x59) (.node (.node .nil (some Tryz.amY) .nil) (some Tryz.amx) .nil))))) none (.node (.node (.node (.node (.node (.node .nil (some Tryz.ab0) .nil) none (.node .nil (some Tryz.aca) .nil)) (some Tryz.x33) (.node (.node .nil (some Tryz.amP) .nil) none .nil)) (some Tryz.x17) (.node (.node (.node .nil (some Tryz.amF) .nil) (some Tryz.x81) .nil) (some Tryz.x49) (.node (.node .nil (some Tryz.amU) .nil) (some Tryz.abU) .nil))) (some Tryz.x9) (.node (.node (.node (.node .nil (some Tryz.ahc) .nil) none (.node .nil (some Tryz.am2) .nil)) (some Tryz.x41) (.node (.node .nil (some Tryz.ahg) .nil) none .nil)) (some Tryz.x25) (.node (.node (.node .nil none .nil) (some Tryz.x89) .nil) (some Tryz.x57) (.node (.node .nil (some Tryz.amW) .nil) (some Tryz.amv) .nil)))) (some Tryz.x5) (.node (.node (.node (.node (.node .nil (some Tryz.P6) .nil) none (.node .nil (some Tryz.ahm) .nil)) (some Tryz.x37) (.node (.node .nil (some Tryz.amQ) .nil) none .nil)) (some Tryz.x21) (.node (.node (.node .nil (some Tryz.amH) .nil) (some Tryz.x85) .nil) (some Tryz.x53) (.node (.node .nil none .nil) (some Tryz.amt) .nil))) none (.node (.node (.node (.node .nil (some Tryz.ahd) .nil) (some Tryz.x77) (.node .nil (some Tryz.ace) .nil)) (some Tryz.x45) (.node (.node .nil (some Tryz.amS) .nil) (some Tryz.amq) .nil)) (some Tryz.x29) (.node (.node (.node .nil (some Tryz.amL) .nil) (some Tryz.x93) .nil) (some Tryz.x61) (.node (.node .nil (some Tryz.am0) .nil) (some Tryz.amy) .nil)))))) none (.node (.node (.node (.node (.node (.node (.node .nil (some Tryz.amA) .nil) none (.node .nil (some Tryz.ab') .nil)) (some Tryz.x32) (.node (.node .nil (some Tryz.amO) .nil) none .nil)) (some Tryz.x16) (.node (.node (.node .nil (some Tryz.ab4) .nil) (some Tryz.x80) (.node .nil (some Tryz.am6) .nil)) (some Tryz.x48) (.node (.node .nil (some Tryz.amT) .nil) (some Tryz.ahb) .nil))) none (.node (.node (.node (.node .nil (some Tryz.Wl) .nil) none (.node .nil (some Tryz.am1) .nil)) (some Tryz.x40) (.node (.node .nil (some Tryz.ab7) .nil) none .nil)) (some Tryz.x24) (.node (.node (.node .nil (some Tryz.amJ) .nil) (some Tryz.x88) .nil) (some Tryz.x56) (.node (.node .nil (some Tryz.amV) .nil) (some Tryz.P5) .nil)))) (some Tryz.x4) (.node (.node (.node (.node (.node .nil (some Tryz.ab1) .nil) none (.node .nil (some Tryz.acb) .nil)) (some Tryz.x36) (.node (.node .nil (some Tryz.ab6) .nil) none .nil)) (some Tryz.x20) (.node (.node (.node .nil none .nil) (some Tryz.x84) .nil) (some Tryz.x52) (.node (.node .nil none .nil) (some Tryz.ams) .nil))) (some Tryz.x12) (.node (.node (.node (.node .nil (some Tryz.Wm) .nil) (some Tryz.x76) (.node .nil (some Tryz.acd) .nil)) (some Tryz.x44) (.node (.node .nil (some Tryz.ahj) .nil) (some Tryz.amp) .nil)) none (.node (.node (.node .nil (some Tryz.amK) .nil) (some Tryz.x92) .nil) (some Tryz.x60) (.node (.node .nil (some Tryz.amZ) .nil) (some Tryz.abY) .nil))))) none (.node (.node (.node (.node (.node (.node .nil (some Tryz.amB) .nil) none (.node .nil (some Tryz.ahk) .nil)) (some Tryz.x34) (.node (.node .nil (some Tryz.ab5) .nil) none .nil)) (some Tryz.x18) (.node (.node (.node .nil (some Tryz.amG) .nil) (some Tryz.x82) .nil) (some Tryz.x50) (.node (.node .nil none .nil) (some Tryz.abV) .nil))) (some Tryz.DP) (.node (.node (.node (.node .nil (some Tryz.ab3) .nil) none (.node .nil (some Tryz.am3) .nil)) (some Tryz.x42) (.node (.node .nil (some Tryz.ahh) .nil) (some Tryz.amn) .nil)) (some Tryz.x26) (.node (.node (.node .nil none .nil) (some Tryz.x90) .nil) (some Tryz.x58) (.node (.node .nil (some Tryz.amX) .nil) (some Tryz.amw) .nil)))) (some Tryz.x6) (.node (.node (.node (.node (.node .nil (some Tryz.ab2) .nil) none (.node .nil none .nil)) (some Tryz.x38) (.node (.node .nil (some Tryz.amR) .nil) none .nil)) (some Tryz.x22) (.node (.node (.node .nil (some Tryz.amI) .nil) (some Tryz.x86) .nil) (some Tryz.x54) (.node (.node .nil none .nil) (some Tryz.abX) .nil))) (some Tryz.x14) (.node (.node (.node (.node .nil (some Tryz.amE) .nil) (some Tryz.x78) (.node .nil (some Tryz.am5) .nil)) (some Tryz.x46) (.node (.node .nil (some Tryz.ab8) .nil) (some Tryz.abT) .nil)) (some Tryz.x30) (.node (.node (.node .nil (some Tryz.amM) .nil) (some Tryz.x94) .nil) none (.node (.node .nil none .nil) (some Tryz.abZ) .nil)))))))
end Go.Proofs

noncomputable section
namespace Go.Proofs
open Go.Ab Go.Ab.Lf
set_option maxRecDepth 100000
def bkD:FuncId->Option xF:=fun f=>bif (Nat.beq f 5||Nat.beq f 163)then none else Tryz.xs.get f
end Go.Proofs

noncomputable section
namespace Go.Proofs.Vd
open Go.Ab Go.Ab.Lf
set_option maxRecDepth 100000
abbrev i64:Ty:=.int .i64
abbrev u64:Ty:=.int .u64
abbrev u8:Ty:=.int .u8
abbrev tI:Ty:=.pair i64 (.pair i64 (.pair i64 (.pair u64 (.pair u64 (.ca i64)))))
abbrev Ps(l:List lV):lV:=l.foldr .cons .nil
abbrev kQ(g:Nat):lV:=.pt g (Ps [.ow u8,.bo])
def je(l:List (Nat×iK))(m:Nat):jH:=inl bkD (abJ l) m 12
structure World(cf:cg):Prop where
 st: ∀ f b,bkD f=some b->qa cf f b
theorem World.in{cf:cg}(W:World cf){l:List (Nat×iK)}(h:jd cf l)(m:Nat):rq (je l m) cf:=PX W.st h.ok 12
theorem iE{b n:Nat}(hb:b<=64)(h:n<=1099511627776):roomy b n=true:=by
 rw[pH]
 refine⟨?_,by omega⟩
 calc n*b<=1099511627776*64:=Nat.mul_le_mul h hb
  _<=70368744177664:=by decide
def Wn:iK:=kf (Ps [kQ 0,.bo]) [2] (Ps [.tu .nil,kQ 2]) [.ca u8,.bool,.bool] [.ca u8,.bool] fun x=>.ok (x.1,x.2.1|| !x.2.2.1,())
def s31:iK:=kf (Ps [kQ 0,.im u8]) [2] (Ps [.tu .nil,kQ 2]) [.ca u8,.bool,.ca u8] [.ca u8,.bool] fun x=>.ck (decide (x.1.length+x.2.2.1.length<=1099511627776)) (.ok (x.1++x.2.2.1,x.2.1,()))
theorem tT{cf:cg}(W:World cf):Wn.Ok 109 cf:=by
 refine iI (W.in .nil 3) (W.st 109 _ rfl) rfl (cu _) (m:=3) rfl ?_
 rintro⟨b,x,y,⟨⟩⟩ q h
 cases h
 cases x<;>kernel_rfl
theorem Ie{cf:cg}(W:World cf):s31.Ok 112 cf:=by
 refine iI (W.in .nil 3) (W.st 112 _ rfl) rfl (cu _) (m:=3) rfl ?_
 rintro⟨b,x,y,⟨⟩⟩ q h
 obtain⟨h1,h2⟩:=Lf.T.cy h
 cases h2
 have e:(kO (Ps [kQ 0,.im u8]) [2] (Ps [.tu .nil,kQ 2]) (fun _=>none) Tryz.ahb 3 (je [] 3) (cp [.ca u8,.bool,.ca u8] (b,x,y,()))).val=bif roomy 1 (b.length+y.length)then some (cp [.ca u8,.bool] (app b y,x,()))else none:=by kernel_rfl
 rw[e,iE (by omega) (by simpa using h1),cX]
 rfl
def qG:Nat->Int->List Int
 |0,_=>[]
 |k+1,n=>if 128<=n then xG .u8 (cE .u8 n) 128::qG k (pX .u64 n 7)else []
def wS:Nat->Int->Int
 |0,n=>n
 |k+1,n=>if 128<=n then wS k (pX .u64 n 7)else n
def mH(n:Int):List Int:=qG 9 n++[cE .u8 (wS 9 n)]
theorem AQ: ∀ (k:Nat) (n:Int),(qG k n).length<=k
 |0,_=>Nat.le_refl _
 |k+1,n=>by
  unfold qG
  split
  ·have:=AQ k (pX .u64 n 7);simp;omega
  ·simp
theorem nB(n:Int):(mH n).length<=10:=by have:=AQ 9 n;unfold mH;simp;omega
abbrev t65:List Ty:=[.ca u8,u64,.ca u64,i64,i64]
def l65:oF:=⟨2,kP Tryz.ab5.code 2,[3,5,6,7,8],Ps [.ow u8,.n .u64,.im u64,.n .i64,.n .i64],[⟨.qS,[3,5,6,7,8],Ps [.ow u8,.n .u64,.im u64,.n .i64,.n .i64]⟩]⟩
theorem AR(o:List Int)(n:Int)(l:List Int)(a i:Int):l65.step (fun _=>none) (je [] 3) 3 (cp t65 (o,n,l,a,i,()))=
 .br (decide (128<=n)) (.ck (roomy 1 (o.length+1)) (.ok (.next (cp t65 (app o [xG .u8 (cE .u8 n) 128],pX .u64 n 7,l,a,i,()))))) (.ok (.out 0 (cp t65 (o,n,l,a,i,())))):=by kernel_rfl
theorem am7(n:Int):pX .u64 n 7=n.fdiv 128:=rfl
theorem JY: ∀ (k:Nat) (o:List Int) (n:Int) (l:List Int) (a i:Int),0<=n->n<128 ^ (k+1)->o.length+k<=1099511627776->
 mm (l65.step (fun _=>none) (je [] 3) 3) (cp t65 (o,n,l,a,i,())) 0 (cp t65 (o++qG k n,wS k n,l,a,i,()))
 |0,o,n,l,a,i,h0,h1,h2=>by
  refine .last ?_
  rw[AR,Lf.T.jo]
  have:decide (128<=n)=false:=decide_eq_false (by omega)
  rw[this]
  simp[qG,wS,Lf.T.si]
 |k+1,o,n,l,a,i,h0,h1,h2=>by
  by_cases hn:128<=n
  ·have hs:pX .u64 n 7=n / 128:=by rw[am7,Int.fdiv_eq_ediv_of_nonneg _ (by omega)]
   have ih:=JY k (o++[xG .u8 (cE .u8 n) 128]) (n / 128) l a i (by omega) (by
    rw[Int.pow_succ]at h1
    exact Int.ediv_lt_of_lt_mul (by omega) h1) (by simp;omega)
   refine .more (pl':=cp t65 (o++[xG .u8 (cE .u8 n) 128],n / 128,l,a,i,())) ?_ ?_
   ·rw[AR,Lf.T.jo,decide_eq_true hn,cond_true,Lf.T.nv,iE (by omega) (by omega),cX,hs]
    rfl
   ·have e1:qG (k+1) n=xG .u8 (cE .u8 n) 128::qG k (n / 128):=by rw[<-hs];exact if_pos hn
    have e2:wS (k+1) n=wS k (n / 128):=by rw[<-hs];exact if_pos hn
    rw[e1,e2]
    simpa using ih
  ·refine .last ?_
   rw[AR,Lf.T.jo,decide_eq_false hn]
   have e1:qG (k+1) n=[]:=if_neg hn
   have e2:wS (k+1) n=n:=if_neg hn
   rw[e1,e2,List.append_nil]
   rfl
def g65:cb t65->T (Nat×List Pl):=fun x=>.ck ((decide (0<=x.2.1)&&decide (x.2.1<18446744073709551616))&&decide (x.1.length+10<=1099511627776)) (.ok (0,cp t65 (x.1++qG 9 x.2.1,wS 9 x.2.1,x.2.2.1,x.2.2.2.1,x.2.2.2.2.1,())))
def s65:iK:=kf (Ps [.im u64]) [] (Ps [.ow u8]) [.ca u64] [.ca u8] fun x=>match x.1 with
 | [n]=>.ck (decide (0<=n)&&decide (n<18446744073709551616)) (.ok (mH n,()))
 | _=>.bad
theorem P8{cf:cg}(W:World cf):s65.Ok 162 cf:=by
 have hl:jU Rx.w (so l65 t65 g65) (fun n d=>ly (cf n d) n (.bl 2 (.lp l65.body))):=by
  refine lK (W.in .nil 3) (cu _) (m:=3) ?_
  rintro⟨o,n,l,a,i,⟨⟩⟩ k q h
  obtain⟨h1,h2⟩:=Lf.T.cy h
  cases h2
  simp only[Bool.and_eq_true,decide_eq_true_eq]at h1
  exact JY 9 o n l a i h1.1.1 (Int.lt_trans h1.1.2 (by decide)) (by omega)
 refine iI (W.in .nil 3) (W.st 162 _ rfl) rfl (L:=tO [(2,so l65 t65 g65)]) (ku.nh (.cons (b:=l65.body) (by kernel_rfl) hl .nil)) (m:=3) rfl ?_
 rintro⟨l,⟨⟩⟩ q h
 change (match l with| [n]=>(.ck (decide (0<=n)&&decide (n<18446744073709551616)) (.ok (mH n,())):T (cb [.ca u8]))| _=>.bad).val=some q at h
 split at h
 ·rename_i n
  obtain⟨h1,h2⟩:=Lf.T.cy h
  cases h2
  have e:(kO (Ps [.im u64]) [] (Ps [.ow u8]) (tO [(2,so l65 t65 g65)]) Tryz.ab5 3 (je [] 3) (cp [.ca u64] ([n],()))).val=
   bif (decide (0<=n)&&decide (n<18446744073709551616))&&true then(bif roomy 1 ((qG 9 n).length+1)then some (cp [.ca u8] (app (qG 9 n) [cE .u8 (wS 9 n)],()))else none)else none:=by kernel_rfl
  rw[e,h1,iE (by omega) (by have:=AQ 9 n;omega),cX]
  rfl
 ·cases h
end Go.Proofs.Vd

noncomputable section
namespace Go.Proofs.Vd
open Go.Ab Go.Ab.Lf
set_option maxRecDepth 100000
def wU(s:List Int×Bool)(n:Int):List Int×Bool:=(s.1++mH (cE .u64 n),s.2|| !(decide (0<=n)&&decide (n<4294967296)))
def iH(s:List Int×Bool)(l:List Int):List Int×Bool:=l.foldl wU s
abbrev t32:List Ty:=[.ca u8,.bool,.ca i64,i64,i64]
abbrev P32:lV:=Ps [kQ 2,.im i64,.n .i64,.n .i64]
def Zv:oF:=⟨0,kP Tryz.abU.code 0,[0,6,7,8],P32,[⟨.qS,[0,6,7,8],P32⟩]⟩
def e32:List (Nat×iK):=[(109,Wn),(162,s65)]
theorem acg{cf:cg}(W:World cf):jd cf e32:=.cons (tT W) (.cons (P8 W) .nil)
theorem Ge(b:List Int)(bad:Bool)(l:List Int)(n i:Int):Zv.step (fun _=>none) (je e32 3) 3 (cp t32 (b,bad,l,n,i,()))=
 .br (decide (i<n)) (.ck (ij i (Int.ofNat l.length)) (let x:=l.getD i.toNat (cr i64)
  .br (decide (0<=x)) (.ck (decide (0<=cE .u64 x)&&decide (cE .u64 x<18446744073709551616)) (.ck (roomy 1 (b.length+(mH (cE .u64 x)).length)) (.ok (.next (cp t32 (app b (mH (cE .u64 x)),bad|| !decide (x<4294967296),l,n,iA .i64 i 1,()))))))
   (.ck (decide (0<=cE .u64 x)&&decide (cE .u64 x<18446744073709551616)) (.ck (roomy 1 (b.length+(mH (cE .u64 x)).length)) (.ok (.next (cp t32 (app b (mH (cE .u64 x)),bad|| !false,l,n,iA .i64 i 1,()))))))))
  (.ok (.out 0 (cp t32 (b,bad,l,n,i,())))):=by kernel_rfl
theorem Wo(l:List Int)(b:List Int)(bad:Bool)(hl:b.length+10*l.length<=1099511627776):
 mm (Zv.step (fun _=>none) (je e32 3) 3) (cp t32 (b,bad,l,(l.length:Int),0,())) 0 (cp t32 ((iH (b,bad) l).1,(iH (b,bad) l).2,l,(l.length:Int),(l.length:Int),())):=by
 have:=LP (f:=Zv.step (fun _=>none) (je e32 3) 3) (l:=l) (fun(s:List Int×Bool) j=>cp t32 (s.1,s.2,l,(l.length:Int),(j:Int),())) (fun s x=>.inl (wU s x)) (fun s=>(0,cp t32 (s.1,s.2,l,(l.length:Int),(l.length:Int),()))) (fun s r=>s.1.length+10*r.length<=1099511627776) (fun s j x r h hi=>by
  obtain⟨b,bad⟩:=s
  obtain⟨h1,h2⟩:=iT h (cr i64)
  have hp:=nB (cE .u64 x)
  simp only[List.length_cons]at hi
  refine⟨?_,fun s' e=>by cases e;simp only[wU,List.length_append];omega⟩
  have hj:j<4611686018427387904:=by omega
  rw[Ge,Lf.T.jo,jq h1,cond_true,Lf.T.nv,iX h1,cond_true,Int.toNat_natCast,h2,nQ hj]
  simp only[Lf.T.jo,Lf.T.nv,(qo x).1,(qo x).2,decide_true,Bool.and_true,cond_true,iE (b:=1) (n:=b.length+(mH (cE .u64 x)).length) (by omega) (by omega),cX]
  unfold wU
  by_cases hx:0<=x
  ·simp[hx,BN,Lf.T.si]
  ·simp[hx,BN,Lf.T.si]) (fun s j h hj hi=>by
  have:j=l.length:=by have:=List.drop_eq_nil_iff.1 h;omega
  subst this
  rw[Ge,Lf.T.jo,iQ (Nat.le_refl _)]
  rfl) l 0 (b,bad) rfl (by omega) hl
 rw[j8]at this
 exact this
def g32:cb t32->T (Nat×List Pl):=fun x=>.ck (decide (x.2.2.2.1=(x.2.2.1.length:Int))&&(decide (x.2.2.2.2.1=0)&&decide (x.1.length+10*x.2.2.1.length<=1099511627776)))
 (.ok (0,cp t32 ((iH (x.1,x.2.1) x.2.2.1).1,(iH (x.1,x.2.1) x.2.2.1).2,x.2.2.1,(x.2.2.1.length:Int),(x.2.2.1.length:Int),())))
def s32:iK:=kf (Ps [kQ 0,.im i64]) [2] (Ps [.tu .nil,kQ 2]) [.ca u8,.bool,.ca i64] [.ca u8,.bool] fun x=>.ck (decide (x.1.length+10*x.2.2.1.length<=1099511627776)) (.ok ((iH (x.1,x.2.1) x.2.2.1).1,(iH (x.1,x.2.1) x.2.2.1).2,()))
theorem AU{cf:cg}(W:World cf):s32.Ok 113 cf:=by
 have C:=W.in (acg W) 3
 have hl:jU Rx.w (so Zv t32 g32) (fun n d=>ly (cf n d) n (.bl 0 (.lp Zv.body))):=by
  refine lK C (cu _) (m:=3) ?_
  rintro⟨b,bad,l,n,i,⟨⟩⟩ k q h
  obtain⟨h1,h2⟩:=Lf.T.cy h
  cases h2
  simp only[Bool.and_eq_true,decide_eq_true_eq]at h1
  obtain⟨rfl,rfl,h3⟩:=h1
  exact Wo l b bad h3
 refine iI C (W.st 113 _ rfl) rfl (L:=tO [(0,so Zv t32 g32)]) (ku.nh (.cons (b:=Zv.body) (by kernel_rfl) hl .nil)) (m:=3) rfl ?_
 rintro⟨b,bad,l,⟨⟩⟩ q h
 obtain⟨h1,h2⟩:=Lf.T.cy h
 cases h2
 have e:(kO (Ps [kQ 0,.im i64]) [2] (Ps [.tu .nil,kQ 2]) (tO [(0,so Zv t32 g32)]) Tryz.abU 3 (je e32 3) (cp [.ca u8,.bool,.ca i64] (b,bad,l,()))).val=
  bif (decide ((l.length:Int)=(l.length:Int))&&(decide ((0:Int)=0)&&decide (b.length+10*l.length<=1099511627776)))then some (cp [.ca u8,.bool] ((iH (b,bad) l).1,(iH (b,bad) l).2,()))else none:=by kernel_rfl
 have qn:decide (b.length+10*l.length<=1099511627776)=true:=h1
 rw[e,qn]
 simp
end Go.Proofs.Vd

noncomputable section
namespace Go.Proofs.Vd
open Go.Ab Go.Ab.Lf
set_option maxRecDepth 100000
def sr(s:List Int×Bool)(t:Int):List Int×Bool:=(s.1++[cE .u8 t],s.2|| !(decide (t=127)||(decide (t=126)||decide (t=123))))
def jY(s:List Int×Bool)(l:List Int):List Int×Bool:=l.foldl sr s
def Zw:oF:=⟨0,kP Tryz.abV.code 0,[0,6,7,8],P32,[⟨.qS,[0,6,7,8],P32⟩]⟩
def e33:List (Nat×iK):=[(109,Wn),(112,s31)]
theorem ach{cf:cg}(W:World cf):jd cf e33:=.cons (tT W) (.cons (Ie W) .nil)
theorem Gf(b:List Int)(bad:Bool)(l:List Int)(n i:Int):Zw.step (fun _=>none) (je e33 3) 3 (cp t32 (b,bad,l,n,i,()))=
 .br (decide (i<n)) (.ck (ij i (Int.ofNat l.length)) (let x:=l.getD i.toNat (cr i64)
  let r:=fun c=>T.ck (decide (b.length+[cE .u8 x].length<=1099511627776)) (T.ok (Rs.next (cp t32 (b++[cE .u8 x],bad|| !c,l,n,iA .i64 i 1,()))))
  .br (decide (x=127)) (r true) (.br (decide (x=126)) (r true) (r (decide (x=123))))))
  (.ok (.out 0 (cp t32 (b,bad,l,n,i,())))):=by kernel_rfl
theorem Wp(l:List Int)(b:List Int)(bad:Bool)(hl:b.length+l.length<=1099511627776):
 mm (Zw.step (fun _=>none) (je e33 3) 3) (cp t32 (b,bad,l,(l.length:Int),0,())) 0 (cp t32 ((jY (b,bad) l).1,(jY (b,bad) l).2,l,(l.length:Int),(l.length:Int),())):=by
 have:=LP (f:=Zw.step (fun _=>none) (je e33 3) 3) (l:=l) (fun(s:List Int×Bool) j=>cp t32 (s.1,s.2,l,(l.length:Int),(j:Int),())) (fun s x=>.inl (sr s x)) (fun s=>(0,cp t32 (s.1,s.2,l,(l.length:Int),(l.length:Int),()))) (fun s r=>s.1.length+r.length<=1099511627776) (fun s j x r h hi=>by
  obtain⟨b,bad⟩:=s
  obtain⟨h1,h2⟩:=iT h (cr i64)
  simp only[List.length_cons]at hi
  refine⟨?_,fun s' e=>by cases e;simp[sr];omega⟩
  have hj:j<4611686018427387904:=by omega
  rw[Gf,Lf.T.jo,jq h1,cond_true,Lf.T.nv,iX h1,cond_true,Int.toNat_natCast,h2,nQ hj]
  have hb:b.length+1<=1099511627776:=by omega
  unfold sr
  by_cases h3:x=127
  ·simp[h3,BN,Lf.T.si,Lf.T.jo,Lf.T.nv,hb]
  ·by_cases h4:x=126
   ·simp[h4,BN,Lf.T.si,Lf.T.jo,Lf.T.nv,hb]
   ·simp[h3,h4,BN,Lf.T.si,Lf.T.jo,Lf.T.nv,hb]) (fun s j h hj hi=>by
  have:j=l.length:=by have:=List.drop_eq_nil_iff.1 h;omega
  subst this
  rw[Gf,Lf.T.jo,iQ (Nat.le_refl _)]
  rfl) l 0 (b,bad) rfl (by omega) hl
 rw[j8]at this
 exact this
def g33:cb t32->T (Nat×List Pl):=fun x=>.ck (decide (x.2.2.2.1=(x.2.2.1.length:Int))&&(decide (x.2.2.2.2.1=0)&&decide (x.1.length+x.2.2.1.length<=1099511627776)))
 (.ok (0,cp t32 ((jY (x.1,x.2.1) x.2.2.1).1,(jY (x.1,x.2.1) x.2.2.1).2,x.2.2.1,(x.2.2.1.length:Int),(x.2.2.1.length:Int),())))
def s33:iK:=kf (Ps [kQ 0,.im i64]) [2] (Ps [.tu .nil,kQ 2]) [.ca u8,.bool,.ca i64] [.ca u8,.bool] fun x=>.ck (decide (x.1.length+x.2.2.1.length<=1099511627776)) (.ok ((jY (x.1,x.2.1) x.2.2.1).1,(jY (x.1,x.2.1) x.2.2.1).2,()))
theorem P9{cf:cg}(W:World cf):s33.Ok 114 cf:=by
 have C:=W.in (ach W) 3
 have hl:jU Rx.w (so Zw t32 g33) (fun n d=>ly (cf n d) n (.bl 0 (.lp Zw.body))):=by
  refine lK C (cu _) (m:=3) ?_
  rintro⟨b,bad,l,n,i,⟨⟩⟩ k q h
  obtain⟨h1,h2⟩:=Lf.T.cy h
  cases h2
  simp only[Bool.and_eq_true,decide_eq_true_eq]at h1
  obtain⟨rfl,rfl,h3⟩:=h1
  exact Wp l b bad h3
 refine iI C (W.st 114 _ rfl) rfl (L:=tO [(0,so Zw t32 g33)]) (ku.nh (.cons (b:=Zw.body) (by kernel_rfl) hl .nil)) (m:=3) rfl ?_
 rintro⟨b,bad,l,⟨⟩⟩ q h
 obtain⟨h1,h2⟩:=Lf.T.cy h
 cases h2
 have e:(kO (Ps [kQ 0,.im i64]) [2] (Ps [.tu .nil,kQ 2]) (tO [(0,so Zw t32 g33)]) Tryz.abV 3 (je e33 3) (cp [.ca u8,.bool,.ca i64] (b,bad,l,()))).val=
  bif (decide ((l.length:Int)=(l.length:Int))&&(decide ((0:Int)=0)&&decide (b.length+l.length<=1099511627776)))then some (cp [.ca u8,.bool] ((jY (b,bad) l).1,(jY (b,bad) l).2,()))else none:=by kernel_rfl
 have qn:decide (b.length+l.length<=1099511627776)=true:=h1
 rw[e,qn]
 simp
def yJ:Nat->Int->List Int
 |0,_=>[]
 |k+1,n=>if n< -64∨63<n then xG .u8 (cE .u8 n) 128::yJ k (pX .i64 n 7)else []
def wV:Nat->Int->Int
 |0,n=>n
 |k+1,n=>if n< -64∨63<n then wV k (pX .i64 n 7)else n
def pe(n:Int):List Int:=yJ 9 n++[cE .u8 (FD .i64 (wV 9 n) 127)]
theorem AW: ∀ (k:Nat) (n:Int),(yJ k n).length<=k
 |0,_=>Nat.le_refl _
 |k+1,n=>by
  unfold yJ
  split
  ·have:=AW k (pX .i64 n 7);simp;omega
  ·simp
theorem tU(n:Int):(pe n).length<=10:=by have:=AW 9 n;unfold pe;simp;omega
abbrev t88:List Ty:=[.ca u8,i64,.ca i64,i64,i64]
abbrev P88:lV:=Ps [.ow u8,.n .i64,.im i64,.n .i64,.n .i64]
def l88:oF:=⟨2,kP Tryz.ace.code 2,[3,5,6,7,8],P88,[⟨.qS,[3,5,6,7,8],P88⟩]⟩
theorem AX(o:List Int)(n:Int)(l:List Int)(a i:Int):l88.step (fun _=>none) (je [] 3) 3 (cp t88 (o,n,l,a,i,()))=
 .br (bif decide (n< -64)then true else decide (63<n)) (.ck (roomy 1 (o.length+1)) (.ok (.next (cp t88 (app o [xG .u8 (cE .u8 n) 128],pX .i64 n 7,l,a,i,()))))) (.ok (.out 0 (cp t88 (o,n,l,a,i,())))):=by kernel_rfl
theorem ahq(n:Int):pX .i64 n 7=n.fdiv 128:=rfl
theorem JZ: ∀ (k:Nat) (o:List Int) (n:Int) (l:List Int) (a i:Int),-64*128 ^ k<=n->n<64*128 ^ k->o.length+k<=1099511627776->
 mm (l88.step (fun _=>none) (je [] 3) 3) (cp t88 (o,n,l,a,i,())) 0 (cp t88 (o++yJ k n,wV k n,l,a,i,()))
 |0,o,n,l,a,i,h0,h1,h2=>by
  refine .last ?_
  rw[AX,Lf.T.jo]
  have e1:decide (n< -64)=false:=decide_eq_false (by omega)
  have e2:decide (63<n)=false:=decide_eq_false (by omega)
  rw[e1,e2]
  simp[yJ,wV,Lf.T.si]
 |k+1,o,n,l,a,i,h0,h1,h2=>by
  by_cases hn:n< -64∨63<n
  ·have hs:pX .i64 n 7=n / 128:=by rw[ahq,Int.fdiv_eq_ediv_of_nonneg _ (by omega)]
   rw[Int.pow_succ]at h0 h1
   have ih:=JZ k (o++[xG .u8 (cE .u8 n) 128]) (n / 128) l a i (by omega) (by omega) (by simp;omega)
   refine .more (pl':=cp t88 (o++[xG .u8 (cE .u8 n) 128],n / 128,l,a,i,())) ?_ ?_
   ·have hc:(bif decide (n< -64)then true else decide (63<n))=true:=by
     rcases hn with h|h
     ·simp[h]
     ·by_cases q:n< -64<;>simp[q,h]
    rw[AX,Lf.T.jo,hc,cond_true,Lf.T.nv,iE (by omega) (by omega),cX,hs]
    rfl
   ·have e1:yJ (k+1) n=xG .u8 (cE .u8 n) 128::yJ k (n / 128):=by rw[<-hs];exact if_pos hn
    have e2:wV (k+1) n=wV k (n / 128):=by rw[<-hs];exact if_pos hn
    rw[e1,e2]
    simpa using ih
  ·refine .last ?_
   have e1:decide (n< -64)=false:=decide_eq_false (by omega)
   have e2:decide (63<n)=false:=decide_eq_false (by omega)
   rw[AX,Lf.T.jo,e1,e2]
   have e1:yJ (k+1) n=[]:=if_neg hn
   have e2:wV (k+1) n=n:=if_neg hn
   rw[e1,e2,List.append_nil]
   rfl
def g88:cb t88->T (Nat×List Pl):=fun x=>.ck ((decide (-9223372036854775808<=x.2.1)&&decide (x.2.1<9223372036854775808))&&decide (x.1.length+10<=1099511627776)) (.ok (0,cp t88 (x.1++yJ 9 x.2.1,wV 9 x.2.1,x.2.2.1,x.2.2.2.1,x.2.2.2.2.1,())))
def s88:iK:=kf (Ps [.im i64]) [] (Ps [.ow u8]) [.ca i64] [.ca u8] fun x=>match x.1 with
 | [n]=>.ck (decide (-9223372036854775808<=n)&&decide (n<9223372036854775808)) (.ok (pe n,()))
 | _=>.bad
theorem P'{cf:cg}(W:World cf):s88.Ok 205 cf:=by
 have hl:jU Rx.w (so l88 t88 g88) (fun n d=>ly (cf n d) n (.bl 2 (.lp l88.body))):=by
  refine lK (W.in .nil 3) (cu _) (m:=3) ?_
  rintro⟨o,n,l,a,i,⟨⟩⟩ k q h
  obtain⟨h1,h2⟩:=Lf.T.cy h
  cases h2
  simp only[Bool.and_eq_true,decide_eq_true_eq]at h1
  exact JZ 9 o n l a i (Int.le_trans (by decide) h1.1.1) (Int.lt_trans h1.1.2 (by decide)) (by omega)
 refine iI (W.in .nil 3) (W.st 205 _ rfl) rfl (L:=tO [(2,so l88 t88 g88)]) (ku.nh (.cons (b:=l88.body) (by kernel_rfl) hl .nil)) (m:=3) rfl ?_
 rintro⟨l,⟨⟩⟩ q h
 change (match l with| [n]=>(.ck (decide (-9223372036854775808<=n)&&decide (n<9223372036854775808)) (.ok (pe n,())):T (cb [.ca u8]))| _=>.bad).val=some q at h
 split at h
 ·rename_i n
  obtain⟨h1,h2⟩:=Lf.T.cy h
  cases h2
  have e:(kO (Ps [.im i64]) [] (Ps [.ow u8]) (tO [(2,so l88 t88 g88)]) Tryz.ace 3 (je [] 3) (cp [.ca i64] ([n],()))).val=
   bif (decide (-9223372036854775808<=n)&&decide (n<9223372036854775808))&&true then(bif roomy 1 ((yJ 9 n).length+1)then some (cp [.ca u8] (app (yJ 9 n) [cE .u8 (FD .i64 (wV 9 n) 127)],()))else none)else none:=by kernel_rfl
  rw[e,h1,iE (by omega) (by have:=AW 9 n;omega),cX]
  rfl
 ·cases h
end Go.Proofs.Vd

noncomputable section
namespace Go.Proofs.Vd
open Go.Ab Go.Ab.Lf
set_option maxRecDepth 100000
def AY(op:List Int)(x:den tI)(r:List (den tI)):List Int ⊕ Option Bool:=
 if x.1=2∨x.1=3∨x.1=4 then(if op.length=128 then .inr (some false)else .inl (op++[x.1]))
 else if x.1=5 then(if op.length=0∨ ¬ op.getD (op.length - 1) 0=4 then .inr (some false)else .inl (op.set (op.length - 1) 5))
 else if x.1=11 then(if op.length=0 then .inr (some (decide (r.length=0)))else .inl (op.take (op.length - 1)))
 else .inl op
def Gg(c:List (den tI)):Option Bool:=kY AY (fun _=>none) c []
def lY(c:List (den tI)):Bool:=(Gg c).getD false
abbrev t79:List Ty:=[.ca tI,.ca i64,.ca tI,i64,i64]
def Wq:oF:=⟨0,kP Tryz.ab9.code 0,[0,3,7,8,9],Ps [.im tI,.ow i64,.im tI,.n .i64,.n .i64],[⟨.qS,[0],.cons (.im tI) .nil⟩,⟨.rt,[2],.cons .bo .nil⟩]⟩
theorem Gh(c0 c:List (den tI))(op:List Int)(n i:Int):Wq.step (fun _=>none) (je [] 3) 3 (cp t79 (c0,op,c,n,i,()))=
 .br (decide (i<n)) (.ck (ij i (Int.ofNat c.length)) (let x:Int:=(c.getD i.toNat (cr tI)).1
  let nx:=fun(q:List Int)=>T.ok (Rs.next (cp t79 (c0,q,c,n,iA .i64 i 1,())))
  let fl:=T.ok (Rs.out 1 (cp [.bool] (false,())))
  let opn:=T.br (decide (Int.ofNat op.length=128)) fl (.ck (roomy 8 (op.length+1)) (nx (app op [x])))
  let at':=il .i64 (Int.ofNat op.length) 1
  .br (decide (x=2)) opn (.br (decide (x=3)) opn (.br (decide (x=4)) opn
   (.br (decide (x=5)) (.ck (bif decide (Int.ofNat op.length=0)then true else ij at' (Int.ofNat op.length))
     (.br (bif decide (Int.ofNat op.length=0)then true else !decide (op.getD at'.toNat (cr i64)=4)) fl (.ck (ij at' (Int.ofNat op.length)) (nx (op.set at'.toNat 5)))))
    (.br (decide (x=11)) (.br (decide (Int.ofNat op.length=0)) (T.ok (Rs.out 1 (cp [.bool] (decide (i=il .i64 (Int.ofNat c0.length) 1),())))) (.ck (jy 0 at' (Int.ofNat op.length)) (nx ((op.drop 0).take (at'.toNat - 0)))))
     (nx op)))))))
  (.ok (.out 0 (cp [.ca tI] (c0,())))):=by kernel_rfl
theorem Ws(c0 c:List (den tI))(h0:c0.length=c.length)(hc:c.length<=1099511627776):
 mm (Wq.step (fun _=>none) (je [] 3) 3) (cp t79 (c0,[],c,(c.length:Int),0,())) (match Gg c with|none=>0|some _=>1) (match Gg c with|none=>cp [.ca tI] (c0,())|some b=>cp [.bool] (b,())):=by
 have:=Wf (f:=Wq.step (fun _=>none) (je [] 3) 3) (l:=c) (fun(op:List Int) j=>cp t79 (c0,op,c,(c.length:Int),(j:Int),())) AY (fun _=>(none:Option Bool)) (fun o=>(match o with|none=>0|some _=>1,match o with|none=>cp [.ca tI] (c0,())|some b=>cp [.bool] (b,())))
  (fun op r=>op.length+r.length<=1099511627776) (fun op j x r h hi=>by
  obtain⟨h1,h2⟩:=iT h (cr tI)
  simp only[List.length_cons]at hi
  have hj:j<4611686018427387904:=by omega
  have hr:c.length=j+1+r.length:=by have:=congrArg List.length h;simp at this;omega
  refine⟨?_,fun s' e=>?_⟩
  ·rw[Gh,Lf.T.jo,jq h1,cond_true,Lf.T.nv,iX h1,cond_true,Int.toNat_natCast,h2,nQ hj]
   have hro:roomy 8 (op.length+1)=true:=iE (by omega) (by omega)
   have e0:(Int.ofNat op.length=128)↔op.length=128:=by show((op.length:Int)=128)↔_;omega
   have e1:(Int.ofNat op.length=0)↔op.length=0:=by show((op.length:Int)=0)↔_;omega
   have e2: ∀ h: ¬ op.length=0,il .i64 (Int.ofNat op.length) 1=((op.length - 1:Nat):Int):=fun h=>DL (by omega) (by omega)
   have e3:il .i64 (Int.ofNat c0.length) 1=((c.length - 1:Nat):Int):=by rw[h0];exact DL (by omega) (by omega)
   have e4:((j:Int)=((c.length - 1:Nat):Int))↔r.length=0:=by omega
   have e5: ∀ h: ¬ op.length=0,ij ((op.length - 1:Nat):Int) (Int.ofNat op.length)=true:=fun h=>iX (by omega)
   have e6: ∀ h: ¬ op.length=0,jy 0 ((op.length - 1:Nat):Int) (Int.ofNat op.length)=true:=fun h=>by rw[xM];exact⟨by omega,by omega,by show _<=(op.length:Int);omega⟩
   unfold AY
   simp only[Lf.T.jo,Lf.T.nv,Lf.T.si,hro,e0,e3,e4,cX,cond_true]
   by_cases x2:x.1=2
   ·by_cases q:op.length=128<;>simp[x2,q,M4]
   ·by_cases x3:x.1=3
    ·by_cases q:op.length=128<;>simp[x3,q,M4]
    ·by_cases x4:x.1=4
     ·by_cases q:op.length=128<;>simp[x4,q,M4]
     ·by_cases x5:x.1=5
      ·by_cases q:op.length=0
       ·simp[x5,q,e1,M4]
       ·have q1:decide (Int.ofNat op.length=0)=false:=decide_eq_false (by rw[e1];exact q)
        by_cases q2:op.getD (op.length - 1) 0=4
        ·simp only[x5,q1,e2 q,e5 q,Int.toNat_natCast,show op.getD (op.length - 1) (cr i64)=4 from q2]
         have q4:=q2
         rw[List.getD_eq_getElem?_getD]at q4
         simp[q,q4,M4]
        ·have q3: ¬ op.getD (op.length - 1) (cr i64)=4:=q2
         simp only[x5,q1,e2 q,e5 q,Int.toNat_natCast,decide_eq_false q3]
         have q4:=q2
         rw[List.getD_eq_getElem?_getD]at q4
         simp[q,q4,M4]
      ·by_cases DQ:x.1=11
       ·by_cases q:op.length=0
        ·simp[DQ,q,e1,M4]
        ·have q1:decide (Int.ofNat op.length=0)=false:=decide_eq_false (by rw[e1];exact q)
         simp only[DQ,q1,e2 q,e6 q,Int.toNat_natCast]
         simp[q,M4]
       ·simp[x2,x3,x4,x5,DQ,M4]
  ·unfold AY at e
   repeat' split at e
   all_goals first|(cases e;done)|(cases e;simp;omega)|(cases e;omega)) (fun s j h hj hi=>by
  have:j=c.length:=by have:=List.drop_eq_nil_iff.1 h;omega
  subst this
  rw[Gh,Lf.T.jo,iQ (Nat.le_refl _)]
  rfl) c 0 [] rfl (by omega) (by simpa using hc)
 exact this
def g79:cb t79->T (Nat×List Pl):=fun x=>.ck ((decide (x.2.1.length=0)&&decide (x.2.2.2.1=(x.2.2.1.length:Int)))&&(decide (x.2.2.2.2.1=0)&&(decide (x.1.length=x.2.2.1.length)&&decide (x.2.2.1.length<=1099511627776))))
 (.br (Gg x.2.2.1).isNone (.ok (0,cp [.ca tI] (x.1,()))) (.ok (1,cp [.bool] (lY x.2.2.1,()))))
theorem acj(x:cb t79)(k:Nat)(q:List Pl)(h:(g79 x).val=some (k,q)):mm (Wq.step (fun _=>none) (je [] 3) 3) (cp t79 x) k q:=by
 obtain⟨c,op,c2,n,i,⟨⟩⟩:=x
 obtain⟨h1,h2⟩:=Lf.T.cy h
 simp only[Bool.and_eq_true,decide_eq_true_eq]at h1
 obtain⟨⟨a1,a2⟩,a3,a5,a4⟩:=h1
 have a1:=List.eq_nil_of_length_eq_zero a1
 subst a1;subst a2;subst a3
 have:=Ws c c2 a5 a4
 rw[Lf.T.jo]at h2
 unfold lY at h2
 cases hm:Gg c2 with
 |none=>rw[hm]at h2 this;cases h2;exact this
 |some b=>rw[hm]at h2 this;cases h2;exact this
def s79:iK:=kf (Ps [.im tI]) [] (Ps [.bo]) [.ca tI] [.bool] fun x=>.ck (decide (x.1.length<=1099511627776)) (.ok (lY x.1,()))
theorem ack{cf:cg}(W:World cf):s79.Ok 191 cf:=by
 have C:=W.in .nil 3
 have hl:jU Rx.w (so Wq t79 g79) (fun n d=>ly (cf n d) n (.bl 0 (.lp Wq.body))):=lK C (cu _) (m:=3) acj
 refine iI C (W.st 191 _ rfl) rfl (L:=tO [(0,so Wq t79 g79)]) (ku.nh (.cons (b:=Wq.body) (by kernel_rfl) hl .nil)) (m:=3) rfl ?_
 rintro⟨c,⟨⟩⟩ q h
 obtain⟨h1,h2⟩:=Lf.T.cy h
 cases h2
 have e:(kO (Ps [.im tI]) [] (Ps [.bo]) (tO [(0,so Wq t79 g79)]) Tryz.ab9 3 (je [] 3) (cp [.ca tI] (c,()))).val=
  bif ((decide (([]:List Int).length=0)&&decide ((c.length:Int)=(c.length:Int)))&&(decide ((0:Int)=0)&&(decide (c.length=c.length)&&decide (c.length<=1099511627776))))then
   (bif (Gg c).isNone then some (cp [.bool] (false,()))else some (cp [.bool] (lY c,())))else none:=by kernel_rfl
 have qn:decide (c.length<=1099511627776)=true:=h1
 rw[e,qn]
 unfold lY
 cases Gg c<;>simp
end Go.Proofs.Vd

noncomputable section
namespace Go.Proofs.Vd
open Go.Ab Go.Ab.Lf
set_option maxRecDepth 100000
abbrev kA:Ty:=.pair i64 (.pair i64 (.pair i64 (.pair i64 .str)))
abbrev oN:List Ty:=[i64,i64,.bool,.ca i64,.ca i64]
def Ig:List (den kA):=(jP [.ca kA] (kO .nil [] (Ps [.im kA]) (fun _=>none) Tryz.x60 3 (je [] 3) [])).1
def Ih:List (den kA):=(jP [.ca kA] (kO .nil [] (Ps [.im kA]) (fun _=>none) Tryz.x61 3 (je [] 3) [])).1
def s22:iK:=kf .nil [] (Ps [.im kA]) [] [.ca kA] fun _=>.ok (Ig,())
def s23:iK:=kf .nil [] (Ps [.im kA]) [] [.ca kA] fun _=>.ok (Ih,())
theorem acm{cf:cg}(W:World cf):s22.Ok 60 cf:=by
 refine iI (W.in .nil 3) (W.st 60 _ rfl) rfl (cu _) (m:=3) rfl ?_
 rintro⟨⟩ q h
 cases h
 exact tP (to:=[.ca kA]) (x:=kO .nil [] (Ps [.im kA]) (fun _=>none) Tryz.x60 3 (je [] 3) []) (by kernel_rfl)
theorem acn{cf:cg}(W:World cf):s23.Ok 61 cf:=by
 refine iI (W.in .nil 3) (W.st 61 _ rfl) rfl (cu _) (m:=3) rfl ?_
 rintro⟨⟩ q h
 cases h
 exact tP (to:=[.ca kA]) (x:=kO .nil [] (Ps [.im kA]) (fun _=>none) Tryz.x61 3 (je [] 3) []) (by kernel_rfl)
abbrev pB:lV:=.pt 0 (Ps [.n .i64,.n .i64,.bo,.im i64,.im i64])
abbrev pC:lV:=.pt 0 (Ps [.n .i64,.n .i64,.bo,.ow i64,.ow i64])
abbrev AZ:List Ty:=[i64,i64,.bool,.ca i64,.ca i64,i64,i64,.bool,.ca i64,.ca i64,.bool,.ca u8,i64,i64]
def Gi:oF:=⟨2,kP Tryz.x25.code 2,[2,7,8,42,43,44],Ps [pB,pC,.bo,.im u8,.n .i64,.n .i64],[⟨.qS,[2,7],Ps [pB,pC]⟩]⟩
def J0(s:Bool×List Int×List Int)(c:Int):Bool×List Int×List Int:=
 if c=58 then(true,s.2)else(if s.1 then(s.1,s.2.1,s.2.2++[if c=108 then 126 else if c=118 then 123 else 127])else(s.1,s.2.1++[if c=108 then 126 else if c=118 then 123 else 127],s.2.2))
def BQ(s:List Int):List Int×List Int:=(s.foldl J0 (false,[],[])).2
theorem CA(f l:Int)(p:Bool)(a b:List Int)(f2 l2:Int)(p2:Bool)(a2 b2:List Int)(o:Bool)(s:List Int)(n i:Int):Gi.step (fun _=>none) (je [] 3) 3 (cp AZ (f,l,p,a,b,f2,l2,p2,a2,b2,o,s,n,i,()))=
 .br (decide (i<n)) (.ck (ij i (Int.ofNat s.length)) (let x:=s.getD i.toNat (cr u8)
  let nx:=fun(t:Int)=>T.br o (.ck (roomy 8 (b2.length+1)) (.ok (Rs.next (cp AZ (f,l,p,a,b,f2,l2,p2,a2,app b2 [t],o,s,n,iA .i64 i 1,())))))
   (.ck (roomy 8 (a2.length+1)) (.ok (Rs.next (cp AZ (f,l,p,a,b,f2,l2,p2,app a2 [t],b2,o,s,n,iA .i64 i 1,())))))
  .br (decide (x=58)) (.ok (Rs.next (cp AZ (f,l,p,a,b,f2,l2,p2,a2,b2,true,s,n,iA .i64 i 1,())))) (.br (decide (x=108)) (nx 126) (.br (decide (x=118)) (nx 123) (nx 127)))))
  (.ok (.out 0 (cp [i64,i64,.bool,.ca i64,.ca i64,i64,i64,.bool,.ca i64,.ca i64] (f,l,p,a,b,f2,l2,p2,a2,b2,())))):=by kernel_rfl
theorem Qa(f l:Int)(p:Bool)(a b:List Int)(f2 l2:Int)(p2:Bool)(s:List Int)(hs:s.length<=1000):
 mm (Gi.step (fun _=>none) (je [] 3) 3) (cp AZ (f,l,p,a,b,f2,l2,p2,[],[],false,s,(s.length:Int),0,())) 0 (cp [i64,i64,.bool,.ca i64,.ca i64,i64,i64,.bool,.ca i64,.ca i64] (f,l,p,a,b,f2,l2,p2,(BQ s).1,(BQ s).2,())):=by
 have:=LP (f:=Gi.step (fun _=>none) (je [] 3) 3) (l:=s) (fun(q:Bool×List Int×List Int) j=>cp AZ (f,l,p,a,b,f2,l2,p2,q.2.1,q.2.2,q.1,s,(s.length:Int),(j:Int),())) (fun q x=>.inl (J0 q x)) (fun q=>(0,cp [i64,i64,.bool,.ca i64,.ca i64,i64,i64,.bool,.ca i64,.ca i64] (f,l,p,a,b,f2,l2,p2,q.2.1,q.2.2,())))
  (fun q r=>(q.2.1.length+r.length<=2000/\q.2.2.length+r.length<=2000)) (fun q j x r h hi=>by
  obtain⟨o,a2,b2⟩:=q
  obtain⟨h1,h2⟩:=iT h (cr u8)
  simp only[List.length_cons]at hi
  have hj:j<4611686018427387904:=by omega
  have r1:roomy 8 (a2.length+1)=true:=iE (by omega) (by omega)
  have r2:roomy 8 (b2.length+1)=true:=iE (by omega) (by omega)
  refine⟨?_,fun s' e=>?_⟩
  ·rw[CA,Lf.T.jo,jq h1,cond_true,Lf.T.nv,iX h1,cond_true,Int.toNat_natCast,h2,nQ hj]
   unfold J0
   simp only[Lf.T.jo,Lf.T.nv,Lf.T.si,r1,r2,cX,cond_true]
   by_cases x1:x=58
   ·simp[x1,BN]
   ·by_cases x2:x=108
    ·cases o<;>simp[x2,BN]
    ·by_cases x3:x=118
     ·cases o<;>simp[x3,BN]
     ·cases o<;>simp[x1,x2,x3,BN]
  ·cases e
   unfold J0
   split
   ·simp only;omega
   ·split<;>simp<;>omega) (fun q j h hj hi=>by
  have:j=s.length:=by have:=List.drop_eq_nil_iff.1 h;omega
  subst this
  rw[CA,Lf.T.jo,iQ (Nat.le_refl _)]
  rfl) s 0 (false,[],[]) rfl (by omega) (by simp;omega)
 rw[j8]at this
 exact this
def aco:cb AZ->T (Nat×List Pl):=fun x=>.ck (((decide (x.2.2.2.2.2.2.2.2.1.length=0)&&decide (x.2.2.2.2.2.2.2.2.2.1.length=0))&& !x.2.2.2.2.2.2.2.2.2.2.1)&&((decide (x.2.2.2.2.2.2.2.2.2.2.2.2.1=(x.2.2.2.2.2.2.2.2.2.2.2.1.length:Int))&&decide (x.2.2.2.2.2.2.2.2.2.2.2.2.2.1=0))&&decide (x.2.2.2.2.2.2.2.2.2.2.2.1.length<=1000)))
 (.ok (0,cp [i64,i64,.bool,.ca i64,.ca i64,i64,i64,.bool,.ca i64,.ca i64] (x.1,x.2.1,x.2.2.1,x.2.2.2.1,x.2.2.2.2.1,x.2.2.2.2.2.1,x.2.2.2.2.2.2.1,x.2.2.2.2.2.2.2.1,(BQ x.2.2.2.2.2.2.2.2.2.2.2.1).1,(BQ x.2.2.2.2.2.2.2.2.2.2.2.1).2,())))
theorem Wt(x:cb AZ)(k:Nat)(q:List Pl)(h:(aco x).val=some (k,q)):mm (Gi.step (fun _=>none) (je [] 3) 3) (cp AZ x) k q:=by
 obtain⟨f,l,p,a,b,f2,l2,p2,a2,b2,o,s,n,i,⟨⟩⟩:=x
 obtain⟨h1,h2⟩:=Lf.T.cy h
 cases h2
 simp only[Bool.and_eq_true,decide_eq_true_eq,Bool.not_eq_true']at h1
 obtain⟨⟨⟨b1,M5⟩,b3⟩,⟨b4,b5⟩,b6⟩:=h1
 have b1:=List.eq_nil_of_length_eq_zero b1
 have M5:=List.eq_nil_of_length_eq_zero M5
 subst b1;subst M5;subst b3;subst b4;subst b5
 exact Qa f l p a b f2 l2 p2 s b6
abbrev t11:List Ty:=[i64,i64,i64,.bool,.ca i64,.ca i64,.bool,.ca kA,i64,i64]
def M6:oF:=⟨0,kP Tryz.x25.code 0,[0,2,3,16,17,18],Ps [.n .i64,pB,.bo,.im kA,.n .i64,.n .i64],[⟨.qS,[2],Ps [pB]⟩,⟨.rt,[2,3],Ps [pB,.bo]⟩]⟩
def LU(r:den kA):List Int:=r.2.2.2.2.data.toList.map fun b=>Int.ofNat b.toNat
def Gj(r:den kA):cb oN:=(r.2.2.1,r.2.2.2.1,!(eqStr r.2.2.2.2 ⟨#[]⟩),(BQ (LU r)).1,(BQ (LU r)).2,())
def BR(op:Int)(_:Unit)(r:den kA)(_:List (den kA)):Unit ⊕ Option (cb oN):=bif (bif decide (op<r.1)then true else decide (r.2.1<op))then .inl ()else .inr (some (Gj r))
def qM(op:Int)(rs:List (den kA)):Option (cb oN):=kY (BR op) (fun _=>none) rs ()
def L11:Nat->Option kE:=tO [(2,so Gi AZ aco)]
theorem Gk(op f l:Int)(p:Bool)(a b:List Int)(ok:Bool)(rs:List (den kA))(n i:Int):(M6.step L11 (je [] 3) 3 (cp t11 (op,f,l,p,a,b,ok,rs,n,i,()))).val=
 bif decide (i<n)then(bif ij i (Int.ofNat rs.length)then(bif (bif decide (op<(rs.getD i.toNat (cr kA)).1)then true else decide ((rs.getD i.toNat (cr kA)).2.1<op))then some (Rs.next (cp t11 (op,f,l,p,a,b,ok,rs,n,iA .i64 i 1,())))
  else(bif ((true&&true)&&true)&&((decide (((LU (rs.getD i.toNat (cr kA))).length:Int)=((LU (rs.getD i.toNat (cr kA))).length:Int))&&true)&&decide ((LU (rs.getD i.toNat (cr kA))).length<=1000))then some (Rs.out 1 (cp [i64,i64,.bool,.ca i64,.ca i64,.bool] ((Gj (rs.getD i.toNat (cr kA))).1,(Gj (rs.getD i.toNat (cr kA))).2.1,(Gj (rs.getD i.toNat (cr kA))).2.2.1,(Gj (rs.getD i.toNat (cr kA))).2.2.2.1,(Gj (rs.getD i.toNat (cr kA))).2.2.2.2.1,true,())))else none))else none)else some (.out 0 (cp oN (f,l,p,a,b,()))):=by kernel_rfl
def qN(rs:List (den kA)):Bool:=iD (fun r=>decide ((LU r).length<=1000)) rs
theorem Gl{r:den kA}{rs:List (den kA)}(h:qN (r::rs)=true):(LU r).length<=1000/\qN rs=true:=by
 have h:(bif decide ((LU r).length<=1000)then qN rs else false)=true:=h
 by_cases q:(LU r).length<=1000
 ·rw[decide_eq_true q]at h;exact⟨q,h⟩
 ·rw[decide_eq_false q]at h;cases h
theorem Wu(op f l:Int)(p:Bool)(a b:List Int)(ok:Bool)(rs:List (den kA))(hl:rs.length<=1000)(hs:qN rs=true):
 mm (M6.step L11 (je [] 3) 3) (cp t11 (op,f,l,p,a,b,ok,rs,(rs.length:Int),0,())) (match qM op rs with|none=>0|some _=>1) (match qM op rs with|none=>cp oN (f,l,p,a,b,())|some y=>cp [i64,i64,.bool,.ca i64,.ca i64,.bool] (y.1,y.2.1,y.2.2.1,y.2.2.2.1,y.2.2.2.2.1,true,())):=by
 have:=Wf (f:=M6.step L11 (je [] 3) 3) (l:=rs) (fun(_:Unit) j=>cp t11 (op,f,l,p,a,b,ok,rs,(rs.length:Int),(j:Int),())) (BR op) (fun _=>(none:Option (cb oN)))
  (fun o=>(match o with|none=>0|some _=>1,match o with|none=>cp oN (f,l,p,a,b,())|some y=>cp [i64,i64,.bool,.ca i64,.ca i64,.bool] (y.1,y.2.1,y.2.2.1,y.2.2.2.1,y.2.2.2.2.1,true,()))) (fun _ r=>qN r=true) (fun q j x r h hi=>by
  obtain⟨h1,h2⟩:=iT h (cr kA)
  have hj:j<4611686018427387904:=by omega
  obtain⟨k1,k2⟩:=Gl hi
  refine⟨?_,fun _ _=>k2⟩
  rw[Gk,jq h1,cond_true,iX h1,cond_true,Int.toNat_natCast,h2,nQ hj]
  unfold BR
  cases hc:(bif decide (op<x.1)then true else decide (x.2.1<op))with
  |true=>simp only[cond_true,M4]
  |false=>simp only[cond_false,M4,decide_eq_true k1,decide_true,Bool.and_self,cond_true]) (fun q j h hj hi=>by
  have:j=rs.length:=by have:=List.drop_eq_nil_iff.1 h;omega
  subst this
  rw[Gk,iQ (Nat.le_refl _)]
  rfl) rs 0 () rfl (by omega) hs
 exact this
def g11:cb t11->T (Nat×List Pl):=fun x=>.ck ((decide (x.2.2.2.2.2.2.2.2.1=(x.2.2.2.2.2.2.2.1.length:Int))&&decide (x.2.2.2.2.2.2.2.2.2.1=0))&&(decide (x.2.2.2.2.2.2.2.1.length<=1000)&&qN x.2.2.2.2.2.2.2.1))
 (.br (qM x.1 x.2.2.2.2.2.2.2.1).isNone (.ok (0,cp oN (x.2.1,x.2.2.1,x.2.2.2.1,x.2.2.2.2.1,x.2.2.2.2.2.1,()))) (let y:=(qM x.1 x.2.2.2.2.2.2.2.1).getD (uZ oN); .ok (1,cp [i64,i64,.bool,.ca i64,.ca i64,.bool] (y.1,y.2.1,y.2.2.1,y.2.2.2.1,y.2.2.2.2.1,true,()))))
theorem acp(x:cb t11)(k:Nat)(q:List Pl)(h:(g11 x).val=some (k,q)):mm (M6.step L11 (je [] 3) 3) (cp t11 x) k q:=by
 obtain⟨op,f,l,p,a,b,ok,rs,n,i,⟨⟩⟩:=x
 obtain⟨h1,h2⟩:=Lf.T.cy h
 simp only[Bool.and_eq_true,decide_eq_true_eq]at h1
 obtain⟨⟨b1,b2⟩,b3,b4⟩:=h1
 subst b1;subst b2
 have:=Wu op f l p a b ok rs b3 b4
 rw[Lf.T.jo]at h2
 cases hm:qM op rs with
 |none=>rw[hm]at h2 this;cases h2;exact this
 |some y=>rw[hm]at h2 this;cases h2;exact this
def LV(op:Int):Option (cb oN):=qM op (bif decide (64768<=op)then Ih else Ig)
def kM(op:Int):cb oN:=(LV op).getD (0,0,false,[],[],())
def A0(op:Int):Bool:=(LV op).isSome
def e11:List (Nat×iK):=[(60,s22),(61,s23)]
theorem acq{cf:cg}(W:World cf):jd cf e11:=.cons (acm W) (.cons (acn W) .nil)
def s11:iK:=kf (Ps [.n .i64]) [] (Ps [.tu (Ps [.ag (Ps [.n .i64,.n .i64,.bo,.im i64,.im i64]),.bo])]) [i64] [i64,i64,.bool,.ca i64,.ca i64,.bool] fun x=>let y:=kM x.1; .ok (y.1,y.2.1,y.2.2.1,y.2.2.2.1,y.2.2.2.2.1,A0 x.1,())
theorem Qb:((qN Ig&&Nat.ble Ig.length 1000)&&(qN Ih&&Nat.ble Ih.length 1000))=true:=by kernel_rfl
abbrev qO:List Ty:=[i64,i64,.bool,.ca i64,.ca i64,.bool]
def r11(op:Int)(rs:List (den kA)):Option (List Pl):=bif (decide ((rs.length:Int)=(rs.length:Int))&&decide ((0:Int)=0))&&(decide (rs.length<=1000)&&qN rs)then
 (bif (qM op rs).isNone then some (cp qO (0,0,false,[],[],false,()))else some (cp qO (((qM op rs).getD (uZ oN)).1,((qM op rs).getD (uZ oN)).2.1,((qM op rs).getD (uZ oN)).2.2.1,((qM op rs).getD (uZ oN)).2.2.2.1,((qM op rs).getD (uZ oN)).2.2.2.2.1,true,())))else none
theorem Qc(op:Int)(rs:List (den kA))(h1:rs.length<=1000)(h2:qN rs=true):r11 op rs=some (cp qO (((qM op rs).getD (0,0,false,[],[],())).1,((qM op rs).getD (0,0,false,[],[],())).2.1,((qM op rs).getD (0,0,false,[],[],())).2.2.1,((qM op rs).getD (0,0,false,[],[],())).2.2.2.1,((qM op rs).getD (0,0,false,[],[],())).2.2.2.2.1,(qM op rs).isSome,())):=by
 unfold r11
 rw[decide_eq_true h1,h2]
 cases qM op rs with
 |none=>simp
 |some y=>simp
theorem Ii{cf:cg}(W:World cf):s11.Ok 25 cf:=by
 have C:=W.in (acq W) 3
 have C0:=W.in .nil 3
 have hi:jU Rx.w (so Gi AZ aco) (fun n d=>ly (cf n d) n (.bl 2 (.lp Gi.body))):=lK C0 (cu _) (m:=3) Wt
 have ho:jU Rx.w (so M6 t11 g11) (fun n d=>ly (cf n d) n (.bl 0 (.lp M6.body))):=lK C0 (L:=L11) (ku.nh (.cons (b:=Gi.body) (by kernel_rfl) hi .nil)) (m:=3) acp
 refine iI C (W.st 25 _ rfl) rfl (L:=tO [(0,so M6 t11 g11)]) (ku.nh (.cons (b:=M6.body) (by kernel_rfl) ho .nil)) (m:=3) rfl ?_
 rintro⟨op,⟨⟩⟩ q h
 cases h
 have e:(kO (Ps [.n .i64]) [] (Ps [.tu (Ps [.ag (Ps [.n .i64,.n .i64,.bo,.im i64,.im i64]),.bo])]) (tO [(0,so M6 t11 g11)]) Tryz.x25 3 (je e11 3) (cp [i64] (op,()))).val=
  bif decide (64768<=op)then r11 op Ih else r11 op Ig:=by kernel_rfl
 have hs:=Qb
 rw[Bool.and_eq_true,Bool.and_eq_true,Bool.and_eq_true]at hs
 rw[e,Qc op Ih (Nat.le_of_ble_eq_true hs.2.2) hs.2.1,Qc op Ig (Nat.le_of_ble_eq_true hs.1.2) hs.1.1]
 unfold kM A0 LV
 cases decide (64768<=op)<;>rfl
end Go.Proofs.Vd

noncomputable section
namespace Go.Ab.Lf
def Wv(to:List Ty)(t:T (List Pl)):Bool:=
 T.rec (motive:=fun _=>Bool) false (fun l=>(toT to l).isSome) (fun _ _ _ a b=>a&&b) (fun _ _ _=>false) t
theorem zq{to:List Ty}: ∀ {t:T (List Pl)},Wv to t=true->nA to t=true
 | .bad,h=>by cases h
 | .ok l,h=>by
  have h:(toT to l).isSome=true:=h
  show(match toT to l with|some _=>true|none=>false)=true
  cases hq:toT to l with
  |none=>rw[hq]at h;cases h
  |some y=>rfl
 | .br c a b,h=>by
  have h:(Wv to a&&Wv to b)=true:=h
  obtain⟨h1,h2⟩:=Bool.and_eq_true_iff.1 h
  have q1:=zq h1
  have q2:=zq h2
  unfold nA at*
  rw[T.jo]
  cases c
  ·exact q2
  ·exact q1
 | .ck c a,h=>by cases h
theorem Zx{call:jH}{cf:cg}(C:rq call cf){f:FuncId}{b:xF}(hb:qa cf f b)(s7:Nat.ble b.ntmps 512=true){L:Nat->Option kE}(hL:nh Rx.w cf L b.code){m:Nat}{P:lV}{ptr:List Nat}{Q:lV}{ti to:List Ty}{out:cb ti->cb to}
 (h0:iD (fun g=> !(Nat.beq g 0)) ptr=true)(h1: ∀ x,Wv to (kO P ptr Q L b m call (cp ti x))=true)(h2: ∀ x,out x=jP to (kO P ptr Q L b m call (cp ti x))):(kf P ptr Q ti to fun x=>.ok (out x)).Ok f cf:=by
 refine iI C hb s7 hL (m:=m) h0 fun x y h=>?_
 cases h
 rw[h2]
 exact tP (zq (h1 x))
end Go.Ab.Lf
namespace Go.Proofs.Vd
open Go.Ab Go.Ab.Lf
set_option maxRecDepth 100000
abbrev pI:lV:=.ag (Ps [.n .i64,.n .i64,.n .i64,.n .u64,.n .u64,.im i64])
abbrev t87:List Ty:=[i64,i64,i64,u64,u64,.ca i64,i64]
def A1(x:cb t87):cb [.bool]:=jP [.bool] (kO (Ps [pI,.n .i64]) [] (Ps [.bo]) (fun _=>none) Tryz.acd 3 (je [] 3) (cp t87 x))
def s87:iK:=kf (Ps [pI,.n .i64]) [] (Ps [.bo]) t87 [.bool] fun x=>.ok (A1 x)
theorem acr{cf:cg}(W:World cf):s87.Ok 204 cf:=by
 refine Zx (W.in .nil 3) (W.st 204 _ rfl) rfl (cu _) (m:=3) rfl ?_ (fun _=>rfl)
 rintro⟨o,a,b,lo,hi,l,f,⟨⟩⟩
 kernel_rfl
def nI(n:Int):Bool:=bif decide (0<=n)then decide (n<4294967296)else false
def s89:iK:=kf (Ps [.n .i64]) [] (Ps [.bo]) [i64] [.bool] fun x=>.ok (nI x.1,())
theorem acs{cf:cg}(W:World cf):s89.Ok 206 cf:=by
 refine iI (W.in .nil 3) (W.st 206 _ rfl) rfl (cu _) (m:=3) rfl ?_
 rintro⟨n,⟨⟩⟩ q h
 cases h
 kernel_rfl
abbrev tV:List Ty:=[u8,u8,u8,u8,u8,u8,u8,u8,u8,u8,u8,u8,u8,u8,u8,u8]
abbrev pV:lV:=.ag (Ps [.n .u8,.n .u8,.n .u8,.n .u8,.n .u8,.n .u8,.n .u8,.n .u8,.n .u8,.n .u8,.n .u8,.n .u8,.n .u8,.n .u8,.n .u8,.n .u8])
def Zy(x:cb [u64,u64]):cb tV:=jP tV (kO (Ps [.ag (Ps [.n .u64,.n .u64])]) [] (Ps [pV]) (fun _=>none) Tryz.x39 20 (je [] 20) (cp [u64,u64] x))
def s81:iK:=kf (Ps [.ag (Ps [.n .u64,.n .u64])]) [] (Ps [pV]) [u64,u64] tV fun x=>.ok (Zy x)
theorem Qd{cf:cg}(W:World cf):s81.Ok 39 cf:=by
 refine Zx (W.in .nil 20) (W.st 39 _ rfl) rfl (cu _) (m:=20) rfl ?_ (fun _=>rfl)
 rintro⟨lo,hi,⟨⟩⟩
 kernel_rfl
end Go.Proofs.Vd

noncomputable section
namespace Go.Proofs.Vd
open Go.Ab Go.Ab.Lf
set_option maxRecDepth 100000
def mVL(lo hi:Int):List Int:=let y:=Zy (lo,hi,());[y.1,y.2.1,y.2.2.1,y.2.2.2.1,y.2.2.2.2.1,y.2.2.2.2.2.1,y.2.2.2.2.2.2.1,y.2.2.2.2.2.2.2.1,y.2.2.2.2.2.2.2.2.1,y.2.2.2.2.2.2.2.2.2.1,y.2.2.2.2.2.2.2.2.2.2.1,y.2.2.2.2.2.2.2.2.2.2.2.1,y.2.2.2.2.2.2.2.2.2.2.2.2.1,y.2.2.2.2.2.2.2.2.2.2.2.2.2.1,y.2.2.2.2.2.2.2.2.2.2.2.2.2.2.1,y.2.2.2.2.2.2.2.2.2.2.2.2.2.2.2.1]
def Gm(a lo hi f:Int):List Int:=bif decide (f=9)then pe (cE .i64 (cE .i32 lo))else bif decide (f=10)then pe (cE .i64 lo)else bif decide (f=13)then [cE .u8 a]else bif decide (f=14)then [0]else mVL lo hi
def Qe(a lo f:Int):Bool:=bif decide (f=9)then decide (lo<4294967296)else bif decide (f=10)then true else bif decide (f=13)then(bif decide (0<=a)then decide (a<256)else false)else true
theorem LW(a lo hi f:Int):(Gm a lo hi f).length<=16:=by
 unfold Gm
 have:=tU (cE .i64 (cE .i32 lo))
 have:=tU (cE .i64 lo)
 have h:(mVL lo hi).length=16:=rfl
 cases decide (f=9)<;>cases decide (f=10)<;>cases decide (f=13)<;>cases decide (f=14)<;>simp only[cond_true,cond_false,List.length_cons,List.length_nil]<;>omega
abbrev t90:List Ty:=[.ca u8,i64,i64,i64,u64,u64,.ca i64,i64]
def e90:List (Nat×iK):=[(39,s81),(205,s88)]
theorem acv{cf:cg}(W:World cf):jd cf e90:=.cons (Qd W) (.cons (P' W) .nil)
def s90:iK:=kf (Ps [.ow u8,pI,.n .i64]) [] (Ps [.tu (Ps [.ow u8,.bo])]) t90 [.ca u8,.bool] fun x=>
 .ck (decide (x.1.length+16<=1099511627776)) (.ok (x.1++Gm x.2.2.1 x.2.2.2.2.1 x.2.2.2.2.2.1 x.2.2.2.2.2.2.2.1,Qe x.2.2.1 x.2.2.2.2.1 x.2.2.2.2.2.2.2.1,()))
abbrev r2(b:List Int)(o:Bool):Option (List Pl):=some (cp [.ca u8,.bool] (b,o,()))
theorem acw(out:List Int)(o a b lo hi:Int)(l:List Int)(f:Int):(kO (Ps [.ow u8,pI,.n .i64]) [] (Ps [.tu (Ps [.ow u8,.bo])]) (fun _=>none) Tryz.ahn 3 (je e90 3) (cp t90 (out,o,a,b,lo,hi,l,f,()))).val=
 bif decide (f=9)then(bif (decide (-9223372036854775808<=cE .i64 (cE .i32 lo))&&decide (cE .i64 (cE .i32 lo)<9223372036854775808))then bif decide (lo=lo)then bif roomy 1 (out.length+(pe (cE .i64 (cE .i32 lo))).length)then bif decide (lo=lo)then r2 (app out (pe (cE .i64 (cE .i32 lo)))) (decide (lo<4294967296))else none else none else none else none)
 else bif decide (f=10)then(bif (decide (-9223372036854775808<=cE .i64 lo)&&decide (cE .i64 lo<9223372036854775808))then bif roomy 1 (out.length+(pe (cE .i64 lo)).length)then r2 (app out (pe (cE .i64 lo))) true else none else none)
 else bif decide (f=13)then(bif roomy 1 (out.length+[cE .u8 a].length)then bif decide (a=a)then bif decide (0<=a)then r2 (app out [cE .u8 a]) (decide (a<256))else r2 (app out [cE .u8 a]) false else none else none)
 else bif decide (f=14)then(bif roomy 1 (out.length+[(0:Int)].length)then r2 (app out [0]) true else none)
 else(bif roomy 1 (out.length+(mVL lo hi).length)then r2 (app out (mVL lo hi)) true else none):=by kernel_rfl
theorem acx{cf:cg}(W:World cf):s90.Ok 207 cf:=by
 refine iI (W.in (acv W) 3) (W.st 207 _ rfl) rfl (cu _) (m:=3) rfl ?_
 rintro⟨out,o,a,b,lo,hi,l,f,⟨⟩⟩ q h
 obtain⟨h1,h2⟩:=Lf.T.cy h
 cases h2
 rw[acw]
 have h1:out.length+16<=1099511627776:=of_decide_eq_true h1
 have k1:=tU (cE .i64 (cE .i32 lo))
 have k2:=tU (cE .i64 lo)
 have k3:(mVL lo hi).length=16:=rfl
 have c1:=JW (cE .i32 lo)
 have c2:=JW lo
 rw[iE (n:=out.length+(pe (cE .i64 (cE .i32 lo))).length) (by omega) (by omega),iE (n:=out.length+(pe (cE .i64 lo)).length) (by omega) (by omega),iE (n:=out.length+[cE .u8 a].length) (by omega) (by simp;omega),
  iE (n:=out.length+[(0:Int)].length) (by omega) (by simp;omega),iE (n:=out.length+(mVL lo hi).length) (by omega) (by omega),decide_eq_true c1.1,decide_eq_true c1.2,decide_eq_true c2.1,decide_eq_true c2.2]
 unfold Gm Qe
 simp only[cX,Bool.and_self,cond_true,decide_true]
 cases decide (f=9)<;>cases decide (f=10)<;>cases decide (f=13)<;>cases decide (f=14)<;>cases decide (0<=a)<;>rfl
end Go.Proofs.Vd

noncomputable section
namespace Go.Proofs.Vd
open Go.Ab Go.Ab.Lf
set_option maxRecDepth 100000
abbrev pBI:lV:=.pt 0 (Ps [.n .i64,.n .i64,.n .i64,.n .u64,.n .u64,.im i64])
abbrev BS:List Ty:=[i64,i64,i64,u64,u64,.ca i64,.bool,.ca u8,.ca u8,.ca i64,i64,i64]
abbrev Ww:List Ty:=[i64,i64,i64,u64,u64,.ca i64,.bool,.ca u8,.ca u8]
def Zz:oF:=⟨2,kP Tryz.ab'.code 2,[1,5,6,7,101,102,103],Ps [pBI,.bo,.ow u8,.ow u8,.im i64,.n .i64,.n .i64],[⟨.qS,[1,5,6,7],Ps [pBI,.bo,.ow u8,.ow u8]⟩]⟩
def e80:List (Nat×iK):=[(25,s11),(162,s65),(204,s87),(205,s88),(206,s89),(207,s90)]
def ym(s:List Int×Bool)(x:Int):List Int×Bool:=(s.1++mH (cE .u64 x),bif s.2 then nI x else false)
def tW(s:List Int×Bool)(l:List Int):List Int×Bool:=l.foldl ym s
def g80:cb BS->T (Nat×List Pl):=fun x=>.ck (decide (x.2.2.2.2.2.2.2.2.2.2.1=(x.2.2.2.2.2.2.2.2.2.1.length:Int))&&(decide (x.2.2.2.2.2.2.2.2.2.2.2.1=0)&&decide (x.2.2.2.2.2.2.2.1.length+10*x.2.2.2.2.2.2.2.2.2.1.length<=1099511627776)))
 (.ok (0,cp Ww (x.1,x.2.1,x.2.2.1,x.2.2.2.1,x.2.2.2.2.1,x.2.2.2.2.2.1,(tW (x.2.2.2.2.2.2.2.1,x.2.2.2.2.2.2.1) x.2.2.2.2.2.2.2.2.2.1).2,(tW (x.2.2.2.2.2.2.2.1,x.2.2.2.2.2.2.1) x.2.2.2.2.2.2.2.2.2.1).1,x.2.2.2.2.2.2.2.2.1,())))
def L80:Nat->Option kE:=tO [(2,so Zz BS g80)]
theorem Qf{cf:cg}(W:World cf):jd cf e80:=.cons (Ii W) (.cons (P8 W) (.cons (acr W) (.cons (P' W) (.cons (acs W) (.cons (acx W) .nil)))))
theorem Qg(l:List Int): ∀ s:List Int×Bool,(tW s l).1.length<=s.1.length+10*l.length:=by
 induction l with
 |nil=>intro s;simp[tW]
 |cons x l ih=>
  intro s
  have:=ih (ym s x)
  have h:=nB (cE .u64 x)
  have e:tW s (x::l)=tW (ym s x) l:=rfl
  rw[e]
  have e2:(ym s x).1.length=s.1.length+(mH (cE .u64 x)).length:=by simp[ym]
  simp only[List.length_cons]
  omega
theorem Gn(o a b lo hi:Int)(l:List Int)(k:Bool)(out al s:List Int)(n i:Int):(Zz.step (fun _=>none) (je e80 3) 3 (cp BS (o,a,b,lo,hi,l,k,out,al,s,n,i,()))).val=
 bif decide (i<n)then(bif ij i (Int.ofNat s.length)then(bif (decide (0<=cE .u64 (s.getD i.toNat (cr i64)))&&decide (cE .u64 (s.getD i.toNat (cr i64))<18446744073709551616))then(bif roomy 1 (out.length+(mH (cE .u64 (s.getD i.toNat (cr i64)))).length)then
  (bif k then some (Rs.next (cp BS (o,a,b,lo,hi,l,nI (s.getD i.toNat (cr i64)),app out (mH (cE .u64 (s.getD i.toNat (cr i64)))),al,s,n,iA .i64 i 1,())))
  else some (Rs.next (cp BS (o,a,b,lo,hi,l,false,app out (mH (cE .u64 (s.getD i.toNat (cr i64)))),al,s,n,iA .i64 i 1,()))))else none)else none)else none)else some (Rs.out 0 (cp Ww (o,a,b,lo,hi,l,k,out,al,()))):=by kernel_rfl
theorem Wy(o a b lo hi:Int)(l:List Int)(k:Bool)(out al s:List Int)(hs:out.length+10*s.length<=1099511627776):
 mm (Zz.step (fun _=>none) (je e80 3) 3) (cp BS (o,a,b,lo,hi,l,k,out,al,s,(s.length:Int),0,())) 0 (cp Ww (o,a,b,lo,hi,l,(tW (out,k) s).2,(tW (out,k) s).1,al,())):=by
 have:=LP (f:=Zz.step (fun _=>none) (je e80 3) 3) (l:=s) (fun(q:List Int×Bool) j=>cp BS (o,a,b,lo,hi,l,q.2,q.1,al,s,(s.length:Int),(j:Int),())) (fun q x=>.inl (ym q x)) (fun q=>(0,cp Ww (o,a,b,lo,hi,l,q.2,q.1,al,())))
  (fun q r=>q.1.length+10*r.length<=1099511627776) (fun q j x r h xm=>by
  obtain⟨out,k⟩:=q
  obtain⟨h1,h2⟩:=iT h (cr i64)
  simp only[List.length_cons]at xm
  have hr:s.length=j+1+r.length:=by have:=congrArg List.length h;simp at this;omega
  have hj:j<4611686018427387904:=by omega
  have hp:=nB (cE .u64 x)
  have c:=qo x
  have r1:roomy 1 (out.length+(mH (cE .u64 x)).length)=true:=iE (by omega) (by omega)
  refine⟨?_,fun s' e=>?_⟩
  ·rw[Gn,jq h1,cond_true,iX h1,cond_true,Int.toNat_natCast,h2,nQ hj,decide_eq_true c.1,decide_eq_true c.2,r1,cX]
   unfold ym
   cases k<;>rfl
  ·cases e
   simp only[ym,List.length_append]
   omega) (fun q j h hj hi=>by
  have:j=s.length:=by have:=List.drop_eq_nil_iff.1 h;omega
  subst this
  rw[Gn,iQ (Nat.le_refl _)]
  rfl) s 0 (out,k) rfl (by omega) hs
 rw[j8]at this
 exact this
theorem acy(x:cb BS)(k:Nat)(q:List Pl)(h:(g80 x).val=some (k,q)):mm (Zz.step (fun _=>none) (je e80 3) 3) (cp BS x) k q:=by
 obtain⟨o,a,b,lo,hi,l,kk,out,al,s,n,i,⟨⟩⟩:=x
 obtain⟨h1,h2⟩:=Lf.T.cy h
 cases h2
 simp only[Bool.and_eq_true,decide_eq_true_eq]at h1
 obtain⟨b1,b2,b3⟩:=h1
 subst b1;subst b2
 exact Wy o a b lo hi l kk out al s b3
def cz{α:Type}(c:Bool)(x:Option α):Option α:=bif c then x else none
def u4{α:Type}(K:List Int->Bool->α)(p:List Int)(o a b lo hi:Int)(l:List Int):Option α:=
 let f:=(kM o).1
 let A:=mH (cE .u64 a)
 let B:=mH (cE .u64 b)
 let one:=[cE .u8 (iA .i64 a 128)]
 let ct:=cz (roomy 1 (p.length+one.length)) (some (K (app p one) true))
 let al:=cz (roomy 1 (p.length+A.length)) (cz (decide (a=a)) (some (K (app p A) (nI a))))
 let rg:=(decide (0<=cE .u64 b)&&decide (cE .u64 b<18446744073709551616))
 let two:=cz (roomy 1 (p.length+A.length)) (cz (decide (b=b)) (cz (decide (a=a)) (cz rg (cz (decide (a=a)) (cz (roomy 1 ((app p A).length+B.length)) (cz (decide (a=a)) (bif nI a then some (K (app (app p A) B) (nI b))else some (K (app (app p A) B) false))))))))
 let acz:=mH (cE .u64 (Int.ofNat l.length))
 let tb:=tW (app p acz,A0 o) l
 bif decide (f=1)then some (K p true)
 else bif decide (f=2)then(bif decide (a= -64)then ct else bif decide (a= -1)then ct else bif decide (a= -2)then ct else bif decide (a= -5)then ct else
  cz (decide (-9223372036854775808<=a)&&decide (a<9223372036854775808)) (cz (decide (a=a)) (cz (roomy 1 (p.length+(pe a).length)) (cz (decide (a=a)) (some (K (app p (pe a)) (nI a)))))))
 else bif decide (f=3)then al else bif decide (f=5)then al
 else bif decide (f=4)then cz (decide (0<=cE .u64 (Int.ofNat l.length))&&decide (cE .u64 (Int.ofNat l.length)<18446744073709551616)) (cz (roomy 1 (p.length+acz.length))
  (cz (decide ((Int.ofNat l.length)=Int.ofNat l.length)&&(decide ((0:Int)=0)&&decide ((app p acz).length+10*l.length<=1099511627776))) (cz (roomy 1 (tb.1.length+A.length)) (bif tb.2 then some (K (app tb.1 A) (nI a))else some (K (app tb.1 A) false)))))
 else bif decide (f=6)then two else bif decide (f=7)then two
 else bif decide (f=8)then cz (roomy 1 (p.length+A.length)) (cz (decide (b=b)) (cz rg (cz (roomy 1 ((app p A).length+B.length)) (cz (roomy 1 ((app (app p A) B).length+[cE .u8 lo].length)) (cz (decide (a=a))
  (bif nI a then(bif nI b then some (K (app (app (app p A) B) [cE .u8 lo]) (decide (lo<256)))else some (K (app (app (app p A) B) [cE .u8 lo]) false))else some (K (app (app (app p A) B) [cE .u8 lo]) false)))))))
 else cz (decide (p.length+16<=1099511627776)) (some (K (p++Gm a lo hi f) (Qe a lo f)))
abbrev k2(b:List Int)(o:Bool):List Pl:=cp [.ca u8,.bool] (b,o,())
def u5{α:Type}(K:List Int->Bool->α)(o a b lo hi:Int)(l:List Int):Option α:=
 let f:=(kM o).1
 let p:=app [253] (mH (cE .u64 (il .i64 o 64768)))
 let rga:=(decide (0<=cE .u64 a)&&decide (cE .u64 a<18446744073709551616))
 bif !A0 o then some (K [] false)else bif !(A1 (o,a,b,lo,hi,l,f,())).1 then some (K [] false)else
 bif decide (64768<=o)then cz (decide (0<=cE .u64 (il .i64 o 64768))&&decide (cE .u64 (il .i64 o 64768)<18446744073709551616)) (cz (roomy 1 ([(253:Int)].length+(mH (cE .u64 (il .i64 o 64768))).length)) (cz rga (u4 K p o a b lo hi l)))
 else cz rga (u4 K [cE .u8 o] o a b lo hi l)
abbrev t80:List Ty:=[i64,i64,i64,u64,u64,.ca i64]
theorem acA(o a b lo hi:Int)(l:List Int):(kO (Ps [pI]) [] (Ps [.tu (Ps [.ow u8,.bo])]) L80 Tryz.ab' 3 (je e80 3) (cp t80 (o,a,b,lo,hi,l,()))).val=u5 k2 o a b lo hi l:=by kernel_rfl
end Go.Proofs.Vd

noncomputable section
namespace Go.Proofs.Vd
open Go.Ab Go.Ab.Lf
set_option maxRecDepth 100000
def Gd(n:Nat)(F: ∀ α:Type,(List Int->Bool->α)->Option α):Prop:= ∃ B O,B.length<=n/\ ∀ α K,F α K=some (K B O)
theorem Gd.bif{n:Nat}{c:Bool}{F1 F2: ∀ α:Type,(List Int->Bool->α)->Option α}(h1:Gd n F1)(h2:Gd n F2):Gd n (fun α K=>bif c then F1 α K else F2 α K):=by
 cases c
 ·exact h2
 ·exact h1
theorem Gd.ck{n:Nat}{c:Bool}{F: ∀ α:Type,(List Int->Bool->α)->Option α}(h1:c=true)(h2:Gd n F):Gd n (fun α K=>cz c (F α K)):=by
 subst h1
 exact h2
theorem Gd.some{n:Nat}{B:List Int}{O:Bool}(h:B.length<=n):Gd n (fun _ K=>some (K B O)):=⟨B,O,h,fun _ _=>rfl⟩
theorem Gp(p:List Int)(o a b lo hi:Int)(l:List Int)(hp:p.length<=11)(h1: -9223372036854775808<=a)(h2:a<9223372036854775808)(hl:10*l.length+100<=1099511627776):
 Gd (11+30+10*l.length) (fun _ K=>u4 K p o a b lo hi l):=by
 have cA:=nB (cE .u64 a)
 have cB:=nB (cE .u64 b)
 have cL:=nB (cE .u64 (Int.ofNat l.length))
 have cS:=tU a
 have cM:=Qg l (p++mH (cE .u64 (Int.ofNat l.length)),A0 o)
 have r1:=qo a
 have r2:=qo b
 have r3:=qo (Int.ofNat l.length)
 have cC:=LW a lo hi (kM o).1
 simp only[List.length_append]at cM
 dsimp only[u4]
 simp only[cX]
 refine(.bif (.some ?_) (.bif (.bif (.ck ?_ (.some ?_)) (.bif (.ck ?_ (.some ?_)) (.bif (.ck ?_ (.some ?_)) (.bif (.ck ?_ (.some ?_)) (.ck ?_ (.ck ?_ (.ck ?_ (.ck ?_ (.some ?_))))))))) (.bif (.ck ?_ (.ck ?_ (.some ?_))) (.bif (.ck ?_ (.ck ?_ (.some ?_))) (.bif (.ck ?_ (.ck ?_ (.ck ?_ (.ck ?_ (.bif (.some ?_) (.some ?_)))))) (.bif (.ck ?_ (.ck ?_ (.ck ?_ (.ck ?_ (.ck ?_ (.ck ?_ (.ck ?_ (.bif (.some ?_) (.some ?_))))))))) (.bif (.ck ?_ (.ck ?_ (.ck ?_ (.ck ?_ (.ck ?_ (.ck ?_ (.ck ?_ (.bif (.some ?_) (.some ?_))))))))) (.bif (.ck ?_ (.ck ?_ (.ck ?_ (.ck ?_ (.ck ?_ (.ck ?_ (.bif (.bif (.some ?_) (.some ?_)) (.some ?_)))))))) (.ck ?_ (.some ?_))))))))))
 all_goals try (with_reducible apply iE)
 all_goals try simp only[Bool.and_eq_true,decide_eq_true_eq,List.length_append,List.length_cons,List.length_nil]
 all_goals first
  |omega
  |trivial
  |(refine⟨?_,?_,?_⟩<;>first|rfl|trivial|omega)
theorem Gq(o a b lo hi:Int)(l:List Int)(h1: -9223372036854775808<=a)(h2:a<9223372036854775808)(hl:10*l.length+100<=1099511627776):
 Gd (11+30+10*l.length) (fun _ K=>u5 K o a b lo hi l):=by
 have cO:=nB (cE .u64 (il .i64 o 64768))
 have r1:=qo a
 have r2:=qo (il .i64 o 64768)
 dsimp only[u5]
 simp only[cX]
 refine .bif (.some (by simp)) (.bif (.some (by simp)) (.bif (.ck ?_ (.ck ?_ (.ck ?_ (Gp _ o a b lo hi l ?_ h1 h2 hl)))) (.ck ?_ (Gp _ o a b lo hi l ?_ h1 h2 hl))))
 ·simp only[Bool.and_eq_true,decide_eq_true_eq];omega
 ·apply iE
  ·omega
  ·simp only[List.length_cons,List.length_nil];omega
 ·simp only[Bool.and_eq_true,decide_eq_true_eq];omega
 ·simp only[List.length_append,List.length_cons,List.length_nil];omega
 ·simp only[Bool.and_eq_true,decide_eq_true_eq];omega
 ·simp
def lz(x:cb t80):List Int×Bool:=(u5 Prod.mk x.1 x.2.1 x.2.2.1 x.2.2.2.1 x.2.2.2.2.1 x.2.2.2.2.2.1).getD ([],false)
def okI(x:cb t80):Bool:=(decide (-9223372036854775808<=x.2.1)&&decide (x.2.1<9223372036854775808))&&decide (10*x.2.2.2.2.2.1.length+100<=1099511627776)
def s80:iK:=kf (Ps [pI]) [] (Ps [.tu (Ps [.ow u8,.bo])]) t80 [.ca u8,.bool] fun x=>.ck (okI x) (.ok ((lz x).1,(lz x).2,()))
theorem zt{x:cb t80}(h:okI x=true):(lz x).1.length<=41+10*x.2.2.2.2.2.1.length/\ ∀ (α:Type) (K:List Int->Bool->α),u5 K x.1 x.2.1 x.2.2.1 x.2.2.2.1 x.2.2.2.2.1 x.2.2.2.2.2.1=some (K (lz x).1 (lz x).2):=by
 simp only[okI,Bool.and_eq_true,decide_eq_true_eq]at h
 obtain⟨B,O,hB,hK⟩:=Gq x.1 x.2.1 x.2.2.1 x.2.2.2.1 x.2.2.2.2.1 x.2.2.2.2.2.1 h.1.1 h.1.2 h.2
 have e:lz x=(B,O):=by unfold lz;exact congrArg (fun z=>z.getD ([],false)) (hK _ Prod.mk)
 rw[e]
 exact⟨hB,hK⟩
theorem acB{cf:cg}(W:World cf):s80.Ok 192 cf:=by
 have hl:jU Rx.w (so Zz BS g80) (fun n d=>ly (cf n d) n (.bl 2 (.lp Zz.body))):=lK (W.in (Qf W) 3) (cu _) (m:=3) acy
 refine iI (W.in (Qf W) 3) (W.st 192 _ rfl) rfl (L:=L80) (ku.nh (.cons (b:=Zz.body) (by kernel_rfl) hl .nil)) (m:=3) rfl ?_
 rintro⟨o,a,b,lo,hi,l,⟨⟩⟩ q h
 obtain⟨h1,h2⟩:=Lf.T.cy h
 cases h2
 rw[acA]
 exact(zt h1).2 _ k2
end Go.Proofs.Vd

noncomputable section
namespace Go.Proofs.Vd
open Go.Ab Go.Ab.Lf
set_option maxRecDepth 100000
abbrev DR:List Ty:=[.ca u8,.ca tI,i64,i64]
def ZA:oF:=⟨0,kP Tryz.ab6.code 0,[4,12,13,14],Ps [.ow u8,.im tI,.n .i64,.n .i64],[⟨.qS,[4],Ps [.ow u8]⟩,⟨.rt,[2,3],Ps [.ow u8,.n .i64]⟩]⟩
def e67:List (Nat×iK):=[(191,s79),(192,s80)]
theorem Qh{cf:cg}(W:World cf):jd cf e67:=.cons (ack W) (.cons (acB W) .nil)
def mI(x:den tI):cb t80:=(x.1,x.2.1,x.2.2.1,x.2.2.2.1,x.2.2.2.2.1,x.2.2.2.2.2,())
def BU(out:List Int)(x:den tI)(_:List (den tI)):List Int ⊕ Option (List Int):=bif (lz (mI x)).2 then .inl (out++(lz (mI x)).1)else .inr none
def su(c:List (den tI))(out:List Int):Option (List Int):=kY BU some c out
def uz(c:List (den tI)):Nat:=c.foldr (fun x n=>41+10*x.2.2.2.2.2.length+n) 0
theorem A2(x:den tI)(c:List (den tI)):uz (x::c)=41+10*List.length x.2.2.2.2.2+uz c:=rfl
theorem J1(c:List (den tI)):41*c.length<=uz c:=by
 induction c with
 |nil=>simp[uz]
 |cons x c ih=>rw[A2];simp only[List.length_cons];omega
def Ij(c:List (den tI)):Bool:=iD (fun x=>okI (mI x)) c
theorem nc{α:Type}{p:α->Bool}{x:α}{l:List α}(h:iD p (x::l)=true):p x=true/\iD p l=true:=by
 have h:(bif p x then iD p l else false)=true:=h
 cases q:p x with
 |true=>rw[q]at h;exact⟨rfl,h⟩
 |false=>rw[q]at h;cases h
def sw(c:List (den tI)):Bool:=Ij c&&decide (uz c<=1099511627776)
theorem Gr(out:List Int)(c:List (den tI))(n i:Int):(ZA.step (fun _=>none) (je e67 3) 3 (cp DR (out,c,n,i,()))).val=
 bif decide (i<n)then bif ij i (Int.ofNat c.length)then bif okI (mI (c.getD i.toNat (cr tI)))then bif !(lz (mI (c.getD i.toNat (cr tI)))).2 then some (Rs.out 1 (cp [.ca u8,i64] ([],1,())))
  else bif roomy 1 (out.length+(lz (mI (c.getD i.toNat (cr tI)))).1.length)then some (Rs.next (cp DR (app out (lz (mI (c.getD i.toNat (cr tI)))).1,c,n,iA .i64 i 1,())))else none else none else none else some (Rs.out 0 (cp [.ca u8] (out,()))):=by kernel_rfl
theorem Qi(c:List (den tI))(hc:Ij c=true): ∀ (out y:List Int),su c out=some y->y.length<=out.length+uz c:=by
 induction c with
 |nil=>
  intro out y h
  cases h
  exact Nat.le_add_right _ _
 |cons x c ih=>
  intro out y h
  obtain⟨h1,h2⟩:=nc hc
  have hp:(lz (mI x)).1.length<=41+10*List.length x.2.2.2.2.2:=(zt h1).1
  have e:su (x::c) out=(match BU out x c with| .inl s=>su c s| .inr o=>o):=by
   show kY BU some (x::c) out=_
   rw[kY]
   cases BU out x c<;>rfl
  rw[e]at h
  unfold BU at h
  cases q:(lz (mI x)).2 with
  |true=>
   rw[q]at h
   have:=ih h2 _ _ h
   rw[A2]
   simp only[List.length_append]at this
   omega
  |false=>rw[q]at h;cases h
theorem Wz(out:List Int)(c:List (den tI))(hc:Ij c=true)(hs:out.length+uz c<=1099511627776):
 mm (ZA.step (fun _=>none) (je e67 3) 3) (cp DR (out,c,(c.length:Int),0,())) (match su c out with|some _=>0|none=>1) (match su c out with|some y=>cp [.ca u8] (y,())|none=>cp [.ca u8,i64] ([],1,())):=by
 have hl:=J1 c
 have:=Wf (f:=ZA.step (fun _=>none) (je e67 3) 3) (l:=c) (fun(out:List Int) j=>cp DR (out,c,(c.length:Int),(j:Int),())) BU (fun q=>(some q:Option (List Int)))
  (fun o=>(match o with|some _=>0|none=>1,match o with|some y=>cp [.ca u8] (y,())|none=>cp [.ca u8,i64] ([],1,()))) (fun out r=>Ij r=true/\out.length+uz r<=1099511627776) (fun out j x r h hi=>by
  obtain⟨h1,h2⟩:=iT h (cr tI)
  obtain⟨k0,k3⟩:=hi
  obtain⟨k1,k2⟩:=nc k0
  have hr:c.length=j+1+r.length:=by have:=congrArg List.length h;simp at this;omega
  rw[A2]at k3
  have hp:(lz (mI x)).1.length<=41+10*List.length x.2.2.2.2.2:=(zt k1).1
  have hj:j<4611686018427387904:=by omega
  have hro:roomy 1 (out.length+(lz (mI x)).1.length)=true:=iE (by omega) (by omega)
  refine⟨?_,fun s' e=>?_⟩
  ·rw[Gr,jq h1,cond_true,iX h1,cond_true,Int.toNat_natCast,h2,nQ hj,k1,hro,cX]
   unfold BU
   cases(lz (mI x)).2<;>rfl
  ·unfold BU at e
   cases q:(lz (mI x)).2 with
   |true=>rw[q]at e;cases e;refine⟨k2,?_⟩;rw[List.length_append];omega
   |false=>rw[q]at e;cases e) (fun q j h hj hi=>by
  have:j=c.length:=by have:=List.drop_eq_nil_iff.1 h;omega
  subst this
  rw[Gr,iQ (Nat.le_refl _)]
  rfl) c 0 out rfl (by omega) ⟨hc,hs⟩
 exact this
def g67:cb DR->T (Nat×List Pl):=fun x=>.ck ((decide (x.1.length=0)&&sw x.2.1)&&(decide (x.2.2.1=(x.2.1.length:Int))&&decide (x.2.2.2.1=0)))
 (.br (su x.2.1 []).isSome (.ok (0,cp [.ca u8] ((su x.2.1 []).getD [],()))) (.ok (1,cp [.ca u8,i64] ([],1,()))))
theorem acC(x:cb DR)(k:Nat)(q:List Pl)(h:(g67 x).val=some (k,q)):mm (ZA.step (fun _=>none) (je e67 3) 3) (cp DR x) k q:=by
 obtain⟨out,c,n,i,⟨⟩⟩:=x
 obtain⟨h1,h2⟩:=Lf.T.cy h
 simp only[Bool.and_eq_true,decide_eq_true_eq,sw]at h1
 obtain⟨⟨b1,b2,b3⟩,b4,b5⟩:=h1
 have b1:=List.eq_nil_of_length_eq_zero b1
 subst b1;subst b4;subst b5
 have:=Wz [] c b2 (by simpa using b3)
 rw[Lf.T.jo]at h2
 cases hm:su c []with
 |none=>rw[hm]at h2 this;cases h2;exact this
 |some y=>rw[hm]at h2 this;cases h2;exact this
def Ik(c:List (den tI)):Option (List Int):=bif lY c then su c []else none
def ry(c:List (den tI)):List Int:=(Ik c).getD []
def rz(c:List (den tI)):Int:=bif (Ik c).isSome then 0 else 1
theorem A3(c:List (den tI))(hc:Ij c=true):(ry c).length<=uz c:=by
 unfold ry Ik
 cases lY c with
 |false=>exact Nat.zero_le _
 |true=>
  cases h:su c []with
  |none=>simp
  |some y=>have:=Qi c hc _ _ h;simpa using this
def L67:Nat->Option kE:=tO [(0,so ZA DR g67)]
def s67:iK:=kf (Ps [.im tI]) [] (Ps [.tu (Ps [.ow u8,.n .i64])]) [.ca tI] [.ca u8,i64] fun x=>.ck (sw x.1) (.ok (ry x.1,rz x.1,()))
theorem acD(c:List (den tI)):(kO (Ps [.im tI]) [] (Ps [.tu (Ps [.ow u8,.n .i64])]) L67 Tryz.ab6 3 (je e67 3) (cp [.ca tI] (c,()))).val=
 bif decide (c.length<=1099511627776)then bif !lY c then some (cp [.ca u8,i64] ([],1,()))else bif (decide ((0:Nat)=0)&&sw c)&&(decide ((c.length:Int)=(c.length:Int))&&decide ((0:Int)=0))then
  bif (su c []).isSome then some (cp [.ca u8,i64] ((su c []).getD [],0,()))else some (cp [.ca u8,i64] ([],1,()))else none else none:=by kernel_rfl
theorem acE{cf:cg}(W:World cf):s67.Ok 164 cf:=by
 have hl:jU Rx.w (so ZA DR g67) (fun n d=>ly (cf n d) n (.bl 0 (.lp ZA.body))):=lK (W.in (Qh W) 3) (cu _) (m:=3) acC
 refine iI (W.in (Qh W) 3) (W.st 164 _ rfl) rfl (L:=L67) (ku.nh (.cons (b:=ZA.body) (by kernel_rfl) hl .nil)) (m:=3) rfl ?_
 rintro⟨c,⟨⟩⟩ q h
 obtain⟨h1,h2⟩:=Lf.T.cy h
 cases h2
 have h1:sw c=true:=h1
 have hw:=J1 c
 have h3:uz c<=1099511627776:=by simp only[sw,Bool.and_eq_true,decide_eq_true_eq]at h1;exact h1.2
 have h4:c.length<=1099511627776:=by omega
 rw[acD,decide_eq_true h4,h1]
 unfold ry rz Ik
 cases lY c with
 |false=>rfl
 |true=>
  simp only[decide_true,Bool.and_self,cond_true,Bool.not_true,cond_false]
  cases su c []<;>rfl
end Go.Proofs.Vd
