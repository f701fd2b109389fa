import Derived.Test.YtbplobpobnagkaaGreatDoorLfJ
import Derived.Test.YtbplobpobnagkaaGreatDoorXbS
import Derived.KernelRfl
noncomputable section
namespace Go.Proofs
open Go.Ab Go.Ab.Lf
set_option maxRecDepth 100000
def Tryz.xs:Tr dB:=(.node (.node (.node (.node (.node (.node (.node .nil (some Tryz.x63) .nil) (some Tryz.x31) (.node .nil (some Tryz.x95) .nil)) (some Tryz.x15) (.node (.node .nil (some Tryz.x79) .nil) (some Tryz.x47) (.node .nil (some Tryz.YK) .nil))) (some Tryz.x7) (.node (.node (.node .nil (some Tryz.x71) .nil) (some Tryz.x39) (.node .nil (some Tryz.SY) .nil)) (some Tryz.x23) (.node (.node .nil (some Tryz.x87) .nil) (some Tryz.x55) .nil))) none (.node (.node (.node (.node .nil (some Tryz.x67) .nil) (some Tryz.x35) (.node .nil (some Tryz.x99) .nil)) (some Tryz.V7) (.node (.node .nil (some Tryz.x83) .nil) (some Tryz.x51) .nil)) (some Tryz.x11) (.node (.node (.node .nil (some Tryz.x75) .nil) (some Tryz.x43) (.node .nil (some Tryz.YJ) .nil)) (some Tryz.x27) (.node (.node .nil (some Tryz.x91) .nil) (some Tryz.x59) .nil)))) none (.node (.node (.node (.node (.node .nil (some Tryz.x65) .nil) (some Tryz.x33) (.node .nil (some Tryz.x97) .nil)) (some Tryz.x17) (.node (.node .nil (some Tryz.x81) .nil) (some Tryz.x49) .nil)) (some Tryz.x9) (.node (.node (.node .nil (some Tryz.x73) .nil) (some Tryz.x41) (.node .nil (some Tryz.YI) .nil)) (some Tryz.x25) (.node (.node .nil (some Tryz.x89) .nil) (some Tryz.x57) .nil))) (some Tryz.x5) (.node (.node (.node (.node .nil (some Tryz.x69) .nil) (some Tryz.x37) (.node .nil (some Tryz.SX) .nil)) (some Tryz.x21) (.node (.node .nil (some Tryz.x85) .nil) (some Tryz.x53) .nil)) (some Tryz.x13) (.node (.node (.node .nil (some Tryz.x77) .nil) (some Tryz.x45) (.node .nil (some Tryz.S5) .nil)) (some Tryz.x29) (.node (.node .nil (some Tryz.x93) .nil) (some Tryz.x61) .nil))))) none (.node (.node (.node (.node (.node (.node .nil (some Tryz.x64) .nil) (some Tryz.x32) (.node .nil (some Tryz.x96) .nil)) (some Tryz.x16) (.node (.node .nil (some Tryz.x80) .nil) (some Tryz.x48) (.node .nil (some Tryz.adM) .nil))) (some Tryz.x8) (.node (.node (.node .nil (some Tryz.x72) .nil) (some Tryz.x40) (.node .nil (some Tryz.YH) .nil)) (some Tryz.x24) (.node (.node .nil (some Tryz.x88) .nil) (some Tryz.x56) .nil))) none (.node (.node (.node (.node .nil (some Tryz.x68) .nil) (some Tryz.x36) (.node .nil (some Tryz.SW) .nil)) (some Tryz.x20) (.node (.node .nil (some Tryz.x84) .nil) (some Tryz.x52) .nil)) none (.node (.node (.node .nil (some Tryz.x76) .nil) (some Tryz.x44) (.node .nil (some Tryz.S4) .nil)) (some Tryz.x28) (.node (.node .nil (some Tryz.x92) .nil) (some Tryz.x60) .nil)))) none (.node (.node (.node (.node (.node .nil (some Tryz.x66) .nil) (some Tryz.x34) (.node .nil (some Tryz.x98) .nil)) (some Tryz.x18) (.node (.node .nil (some Tryz.x82) .nil) (some Tryz.x50) .nil)) (some Tryz.x10) (.node (.node (.node .nil (some Tryz.x74) .nil) (some Tryz.x42) (.node .nil (some Tryz.SZ) .nil)) (some Tryz.x26) (.node (.node .nil (some Tryz.x90) .nil) (some Tryz.x58) .nil))) (some Tryz.x6) (.node (.node (.node (.node .nil (some Tryz.x70) .nil) (some Tryz.x38) (.node .nil (some Tryz.YG) .nil)) (some Tryz.x22) (.node (.node .nil (some Tryz.x86) .nil) (some Tryz.x54) .nil)) (some Tryz.x14) (.node (.node (.node .nil (some Tryz.x78) .nil) (some Tryz.x46) (.node .nil (some Tryz.adL) .nil)) (some Tryz.x30) (.node (.node .nil (some Tryz.x94) .nil) (some Tryz.x62) .nil))))))
end Go.Proofs

noncomputable section
namespace Go.Proofs
open Go.Ab Go.Ab.Lf
set_option maxRecDepth 100000
def bkD:FuncId->Option dB:=fun f=>bif (Nat.beq f 6||Nat.beq f 83)then none else Tryz.xs.get f
end Go.Proofs

noncomputable section
namespace Go.Proofs.Vd
open Go.Ab Go.Ab.Lf
set_option maxRecDepth 100000
abbrev i64:Ty:=.int .i64
abbrev u64:Ty:=.int .u64
abbrev u8:Ty:=.int .u8
abbrev tI:Ty:=.pair i64 (.pair i64 (.pair i64 (.pair u64 (.pair u64 (.ae i64)))))
abbrev Ps(l:List jW):jW:=l.foldr .cons .nil
abbrev gV(g:Nat):jW:=.pt g (Ps [.ow u8,.bo])
def dH(l:List (Nat×cR))(m:Nat):eJ:=inl bkD (YD l) m 12
structure World(aq:aB):Prop where
 st: ∀ f b,bkD f=some b->mT aq f b
theorem World.in{aq:aB}(W:World aq){l:List (Nat×cR)}(h:db aq l)(m:Nat):oE (dH l m) aq:=Ny W.st h.ok 12
theorem bJ{b n:Nat}(hb:b<=64)(h:n<=1099511627776):roomy b n=true:=by
 rw[mC]
 refine⟨?_,by omega⟩
 calc n*b<=1099511627776*64:=Nat.mul_le_mul h hb
  _<=70368744177664:=by decide
def S6:cR:=hU (Ps [gV 0,.bo]) [2] (Ps [.tu .nil,gV 2]) [.ae u8,.bool,.bool] [.ae u8,.bool] fun x=>.ok (x.1,x.2.1|| !x.2.2.1,())
def s31:cR:=hU (Ps [gV 0,.im u8]) [2] (Ps [.tu .nil,gV 2]) [.ae u8,.bool,.ae u8] [.ae u8,.bool] fun x=>.ck (decide (x.1.length+x.2.2.1.length<=1099511627776)) (.ok (x.1++x.2.2.1,x.2.1,()))
theorem ry{aq:aB}(W:World aq):S6.Ok 43 aq:=by
 refine dF (W.in .nil 3) (W.st 43 _ rfl) rfl (aE _) (m:=3) rfl ?_
 rintro⟨b,x,y,⟨⟩⟩ q h
 cases h
 cases x<;>kernel_rfl
theorem Gp{aq:aB}(W:World aq):s31.Ok 46 aq:=by
 refine dF (W.in .nil 3) (W.st 46 _ rfl) rfl (aE _) (m:=3) rfl ?_
 rintro⟨b,x,y,⟨⟩⟩ q h
 obtain⟨h1,h2⟩:=Lf.T.ba h
 cases h2
 have e:(iN (Ps [gV 0,.im u8]) [2] (Ps [.tu .nil,gV 2]) (fun _=>none) Tryz.x46 3 (dH [] 3) (aA [.ae u8,.bool,.ae u8] (b,x,y,()))).val=bif roomy 1 (b.length+y.length)then some (aA [.ae u8,.bool] (app b y,x,()))else none:=by kernel_rfl
 rw[e,bJ (by omega) (by simpa using h1),bp]
 rfl
def nS:Nat->Int->List Int
 |0,_=>[]
 |k+1,n=>if 128<=n then FV .u8 (bq .u8 n) 128::nS k (sw .u64 n 7)else []
def uZ:Nat->Int->Int
 |0,n=>n
 |k+1,n=>if 128<=n then uZ k (sw .u64 n 7)else n
def ju(n:Int):List Int:=nS 9 n++[bq .u8 (uZ 9 n)]
theorem yL: ∀ (k:Nat) (n:Int),(nS k n).length<=k
 |0,_=>Nat.le_refl _
 |k+1,n=>by
  unfold nS
  split
  ·have:=yL k (sw .u64 n 7);simp;omega
  ·simp
theorem kb(n:Int):(ju n).length<=10:=by have:=yL 9 n;unfold ju;simp;omega
abbrev t65:List Ty:=[.ae u8,u64,.ae u64,i64,i64]
def YL:jX:=⟨2,fE Tryz.x82.code 2,[3,5,6,7,8],Ps [.ow u8,.n .u64,.im u64,.n .i64,.n .i64],[⟨.lL,[3,5,6,7,8],Ps [.ow u8,.n .u64,.im u64,.n .i64,.n .i64]⟩]⟩
theorem yM(o:List Int)(n:Int)(l:List Int)(a i:Int):YL.step (fun _=>none) (dH [] 3) 3 (aA t65 (o,n,l,a,i,()))=
 .br (decide (128<=n)) (.ck (roomy 1 (o.length+1)) (.ok (.next (aA t65 (app o [FV .u8 (bq .u8 n) 128],sw .u64 n 7,l,a,i,()))))) (.ok (.out 0 (aA t65 (o,n,l,a,i,())))):=by kernel_rfl
theorem aji(n:Int):sw .u64 n 7=n.fdiv 128:=rfl
theorem H7: ∀ (k:Nat) (o:List Int) (n:Int) (l:List Int) (a i:Int),0<=n->n<128 ^ (k+1)->o.length+k<=1099511627776->
 gG (YL.step (fun _=>none) (dH [] 3) 3) (aA t65 (o,n,l,a,i,())) 0 (aA t65 (o++nS k n,uZ k n,l,a,i,()))
 |0,o,n,l,a,i,h0,h1,h2=>by
  refine .last ?_
  rw[yM,Lf.T.dW]
  have:decide (128<=n)=false:=decide_eq_false (by omega)
  rw[this]
  simp[nS,uZ,Lf.T.pU]
 |k+1,o,n,l,a,i,h0,h1,h2=>by
  by_cases hn:128<=n
  ·have hs:sw .u64 n 7=n / 128:=by rw[aji,Int.fdiv_eq_ediv_of_nonneg _ (by omega)]
   have ih:=H7 k (o++[FV .u8 (bq .u8 n) 128]) (n / 128) l a i (by omega) (by
    rw[Int.pow_succ]at h1
    exact Int.ediv_lt_of_lt_mul (by omega) h1) (by simp;omega)
   refine .more (pl':=aA t65 (o++[FV .u8 (bq .u8 n) 128],n / 128,l,a,i,())) ?_ ?_
   ·rw[yM,Lf.T.dW,decide_eq_true hn,cond_true,Lf.T.j7,bJ (by omega) (by omega),bp,hs]
    rfl
   ·have e1:nS (k+1) n=FV .u8 (bq .u8 n) 128::nS k (n / 128):=by rw[<-hs];exact if_pos hn
    have e2:uZ (k+1) n=uZ k (n / 128):=by rw[<-hs];exact if_pos hn
    rw[e1,e2]
    simpa using ih
  ·refine .last ?_
   rw[yM,Lf.T.dW,decide_eq_false hn]
   have e1:nS (k+1) n=[]:=if_neg hn
   have e2:uZ (k+1) n=n:=if_neg hn
   rw[e1,e2,List.append_nil]
   rfl
def g65:aj t65->T (Nat×List Pl):=fun x=>.ck ((decide (0<=x.2.1)&&decide (x.2.1<18446744073709551616))&&decide (x.1.length+10<=1099511627776)) (.ok (0,aA t65 (x.1++nS 9 x.2.1,uZ 9 x.2.1,x.2.2.1,x.2.2.2.1,x.2.2.2.2.1,())))
def s65:cR:=hU (Ps [.im u64]) [] (Ps [.ow u8]) [.ae u64] [.ae u8] fun x=>match x.1 with
 | [n]=>.ck (decide (0<=n)&&decide (n<18446744073709551616)) (.ok (ju n,()))
 | _=>.bad
theorem NC{aq:aB}(W:World aq):s65.Ok 82 aq:=by
 have hl:dZ Rx.w (pW YL t65 g65) (fun n d=>gD (aq n d) n (.bl 2 (.lp YL.body))):=by
  refine iG (W.in .nil 3) (aE _) (m:=3) ?_
  rintro⟨o,n,l,a,i,⟨⟩⟩ k q h
  obtain⟨h1,h2⟩:=Lf.T.ba h
  cases h2
  simp only[Bool.and_eq_true,decide_eq_true_eq]at h1
  exact H7 9 o n l a i h1.1.1 (Int.lt_trans h1.1.2 (by decide)) (by omega)
 refine dF (W.in .nil 3) (W.st 82 _ rfl) rfl (L:=pX [(2,pW YL t65 g65)]) (fq.jl (.cons (b:=YL.body) (by kernel_rfl) hl .nil)) (m:=3) rfl ?_
 rintro⟨l,⟨⟩⟩ q h
 change (match l with| [n]=>(.ck (decide (0<=n)&&decide (n<18446744073709551616)) (.ok (ju n,())):T (aj [.ae u8]))| _=>.bad).val=some q at h
 split at h
 ·rename_i n
  obtain⟨h1,h2⟩:=Lf.T.ba h
  cases h2
  have e:(iN (Ps [.im u64]) [] (Ps [.ow u8]) (pX [(2,pW YL t65 g65)]) Tryz.x82 3 (dH [] 3) (aA [.ae u64] ([n],()))).val=
   bif (decide (0<=n)&&decide (n<18446744073709551616))&&true then(bif roomy 1 ((nS 9 n).length+1)then some (aA [.ae u8] (app (nS 9 n) [bq .u8 (uZ 9 n)],()))else none)else none:=by kernel_rfl
  rw[e,h1,bJ (by omega) (by have:=yL 9 n;omega),bp]
  rfl
 ·cases h
end Go.Proofs.Vd

noncomputable section
namespace Go.Proofs.Vd
open Go.Ab Go.Ab.Lf
set_option maxRecDepth 100000
def u0(s:List Int×Bool)(n:Int):List Int×Bool:=(s.1++ju (bq .u64 n),s.2|| !(decide (0<=n)&&decide (n<4294967296)))
def cK(s:List Int×Bool)(l:List Int):List Int×Bool:=l.foldl u0 s
abbrev t32:List Ty:=[.ae u8,.bool,.ae i64,i64,i64]
abbrev P32:jW:=Ps [gV 2,.im i64,.n .i64,.n .i64]
def V8:jX:=⟨0,fE Tryz.x47.code 0,[0,6,7,8],P32,[⟨.lL,[0,6,7,8],P32⟩]⟩
def e32:List (Nat×cR):=[(43,S6),(82,s65)]
theorem YM{aq:aB}(W:World aq):db aq e32:=.cons (ry W) (.cons (NC W) .nil)
theorem DQ(b:List Int)(bad:Bool)(l:List Int)(n i:Int):V8.step (fun _=>none) (dH e32 3) 3 (aA t32 (b,bad,l,n,i,()))=
 .br (decide (i<n)) (.ck (aU i (Int.ofNat l.length)) (let x:=l.getD i.toNat (ao i64)
  .br (decide (0<=x)) (.ck (decide (0<=bq .u64 x)&&decide (bq .u64 x<18446744073709551616)) (.ck (roomy 1 (b.length+(ju (bq .u64 x)).length)) (.ok (.next (aA t32 (app b (ju (bq .u64 x)),bad|| !decide (x<4294967296),l,n,bw .i64 i 1,()))))))
   (.ck (decide (0<=bq .u64 x)&&decide (bq .u64 x<18446744073709551616)) (.ck (roomy 1 (b.length+(ju (bq .u64 x)).length)) (.ok (.next (aA t32 (app b (ju (bq .u64 x)),bad|| !false,l,n,bw .i64 i 1,()))))))))
  (.ok (.out 0 (aA t32 (b,bad,l,n,i,())))):=by kernel_rfl
theorem S7(l:List Int)(b:List Int)(bad:Bool)(hl:b.length+10*l.length<=1099511627776):
 gG (V8.step (fun _=>none) (dH e32 3) 3) (aA t32 (b,bad,l,(l.length:Int),0,())) 0 (aA t32 ((cK (b,bad) l).1,(cK (b,bad) l).2,l,(l.length:Int),(l.length:Int),())):=by
 have:=JR (f:=V8.step (fun _=>none) (dH e32 3) 3) (l:=l) (fun(s:List Int×Bool) j=>aA t32 (s.1,s.2,l,(l.length:Int),(j:Int),())) (fun s x=>.inl (u0 s x)) (fun s=>(0,aA t32 (s.1,s.2,l,(l.length:Int),(l.length:Int),()))) (fun s r=>s.1.length+10*r.length<=1099511627776) (fun s j x r h hi=>by
  obtain⟨b,bad⟩:=s
  obtain⟨h1,h2⟩:=dr h (ao i64)
  have hp:=kb (bq .u64 x)
  simp only[List.length_cons]at hi
  refine⟨?_,fun s' e=>by cases e;simp only[u0,List.length_append];omega⟩
  have hj:j<4611686018427387904:=by omega
  rw[DQ,Lf.T.dW,dX h1,cond_true,Lf.T.j7,bX h1,cond_true,Int.toNat_natCast,h2,kE hj]
  simp only[Lf.T.dW,Lf.T.j7,(nA x).1,(nA x).2,decide_true,Bool.and_true,cond_true,bJ (b:=1) (n:=b.length+(ju (bq .u64 x)).length) (by omega) (by omega),bp]
  unfold u0
  by_cases hx:0<=x
  ·simp[hx,zM,Lf.T.pU]
  ·simp[hx,zM,Lf.T.pU]) (fun s j h hj hi=>by
  have:j=l.length:=by have:=List.drop_eq_nil_iff.1 h;omega
  subst this
  rw[DQ,Lf.T.dW,dn (Nat.le_refl _)]
  rfl) l 0 (b,bad) rfl (by omega) hl
 rw[fI]at this
 exact this
def g32:aj t32->T (Nat×List Pl):=fun x=>.ck (decide (x.2.2.2.1=(x.2.2.1.length:Int))&&(decide (x.2.2.2.2.1=0)&&decide (x.1.length+10*x.2.2.1.length<=1099511627776)))
 (.ok (0,aA t32 ((cK (x.1,x.2.1) x.2.2.1).1,(cK (x.1,x.2.1) x.2.2.1).2,x.2.2.1,(x.2.2.1.length:Int),(x.2.2.1.length:Int),())))
def s32:cR:=hU (Ps [gV 0,.im i64]) [2] (Ps [.tu .nil,gV 2]) [.ae u8,.bool,.ae i64] [.ae u8,.bool] fun x=>.ck (decide (x.1.length+10*x.2.2.1.length<=1099511627776)) (.ok ((cK (x.1,x.2.1) x.2.2.1).1,(cK (x.1,x.2.1) x.2.2.1).2,()))
theorem yN{aq:aB}(W:World aq):s32.Ok 47 aq:=by
 have C:=W.in (YM W) 3
 have hl:dZ Rx.w (pW V8 t32 g32) (fun n d=>gD (aq n d) n (.bl 0 (.lp V8.body))):=by
  refine iG C (aE _) (m:=3) ?_
  rintro⟨b,bad,l,n,i,⟨⟩⟩ k q h
  obtain⟨h1,h2⟩:=Lf.T.ba h
  cases h2
  simp only[Bool.and_eq_true,decide_eq_true_eq]at h1
  obtain⟨rfl,rfl,h3⟩:=h1
  exact S7 l b bad h3
 refine dF C (W.st 47 _ rfl) rfl (L:=pX [(0,pW V8 t32 g32)]) (fq.jl (.cons (b:=V8.body) (by kernel_rfl) hl .nil)) (m:=3) rfl ?_
 rintro⟨b,bad,l,⟨⟩⟩ q h
 obtain⟨h1,h2⟩:=Lf.T.ba h
 cases h2
 have e:(iN (Ps [gV 0,.im i64]) [2] (Ps [.tu .nil,gV 2]) (pX [(0,pW V8 t32 g32)]) Tryz.x47 3 (dH e32 3) (aA [.ae u8,.bool,.ae i64] (b,bad,l,()))).val=
  bif (decide ((l.length:Int)=(l.length:Int))&&(decide ((0:Int)=0)&&decide (b.length+10*l.length<=1099511627776)))then some (aA [.ae u8,.bool] ((cK (b,bad) l).1,(cK (b,bad) l).2,()))else none:=by kernel_rfl
 have n8:decide (b.length+10*l.length<=1099511627776)=true:=h1
 rw[e,n8]
 simp
end Go.Proofs.Vd

noncomputable section
namespace Go.Proofs.Vd
open Go.Ab Go.Ab.Lf
set_option maxRecDepth 100000
def p8(s:List Int×Bool)(t:Int):List Int×Bool:=(s.1++[bq .u8 t],s.2|| !(decide (t=127)||(decide (t=126)||decide (t=123))))
def fu(s:List Int×Bool)(l:List Int):List Int×Bool:=l.foldl p8 s
def V9:jX:=⟨0,fE Tryz.x48.code 0,[0,6,7,8],P32,[⟨.lL,[0,6,7,8],P32⟩]⟩
def e33:List (Nat×cR):=[(43,S6),(46,s31)]
theorem YN{aq:aB}(W:World aq):db aq e33:=.cons (ry W) (.cons (Gp W) .nil)
theorem DR(b:List Int)(bad:Bool)(l:List Int)(n i:Int):V9.step (fun _=>none) (dH e33 3) 3 (aA t32 (b,bad,l,n,i,()))=
 .br (decide (i<n)) (.ck (aU i (Int.ofNat l.length)) (let x:=l.getD i.toNat (ao i64)
  let r:=fun c=>T.ck (decide (b.length+[bq .u8 x].length<=1099511627776)) (T.ok (Rs.next (aA t32 (b++[bq .u8 x],bad|| !c,l,n,bw .i64 i 1,()))))
  .br (decide (x=127)) (r true) (.br (decide (x=126)) (r true) (r (decide (x=123))))))
  (.ok (.out 0 (aA t32 (b,bad,l,n,i,())))):=by kernel_rfl
theorem S8(l:List Int)(b:List Int)(bad:Bool)(hl:b.length+l.length<=1099511627776):
 gG (V9.step (fun _=>none) (dH e33 3) 3) (aA t32 (b,bad,l,(l.length:Int),0,())) 0 (aA t32 ((fu (b,bad) l).1,(fu (b,bad) l).2,l,(l.length:Int),(l.length:Int),())):=by
 have:=JR (f:=V9.step (fun _=>none) (dH e33 3) 3) (l:=l) (fun(s:List Int×Bool) j=>aA t32 (s.1,s.2,l,(l.length:Int),(j:Int),())) (fun s x=>.inl (p8 s x)) (fun s=>(0,aA t32 (s.1,s.2,l,(l.length:Int),(l.length:Int),()))) (fun s r=>s.1.length+r.length<=1099511627776) (fun s j x r h hi=>by
  obtain⟨b,bad⟩:=s
  obtain⟨h1,h2⟩:=dr h (ao i64)
  simp only[List.length_cons]at hi
  refine⟨?_,fun s' e=>by cases e;simp[p8];omega⟩
  have hj:j<4611686018427387904:=by omega
  rw[DR,Lf.T.dW,dX h1,cond_true,Lf.T.j7,bX h1,cond_true,Int.toNat_natCast,h2,kE hj]
  have hb:b.length+1<=1099511627776:=by omega
  unfold p8
  by_cases h3:x=127
  ·simp[h3,zM,Lf.T.pU,Lf.T.dW,Lf.T.j7,hb]
  ·by_cases h4:x=126
   ·simp[h4,zM,Lf.T.pU,Lf.T.dW,Lf.T.j7,hb]
   ·simp[h3,h4,zM,Lf.T.pU,Lf.T.dW,Lf.T.j7,hb]) (fun s j h hj hi=>by
  have:j=l.length:=by have:=List.drop_eq_nil_iff.1 h;omega
  subst this
  rw[DR,Lf.T.dW,dn (Nat.le_refl _)]
  rfl) l 0 (b,bad) rfl (by omega) hl
 rw[fI]at this
 exact this
def g33:aj t32->T (Nat×List Pl):=fun x=>.ck (decide (x.2.2.2.1=(x.2.2.1.length:Int))&&(decide (x.2.2.2.2.1=0)&&decide (x.1.length+x.2.2.1.length<=1099511627776)))
 (.ok (0,aA t32 ((fu (x.1,x.2.1) x.2.2.1).1,(fu (x.1,x.2.1) x.2.2.1).2,x.2.2.1,(x.2.2.1.length:Int),(x.2.2.1.length:Int),())))
def s33:cR:=hU (Ps [gV 0,.im i64]) [2] (Ps [.tu .nil,gV 2]) [.ae u8,.bool,.ae i64] [.ae u8,.bool] fun x=>.ck (decide (x.1.length+x.2.2.1.length<=1099511627776)) (.ok ((fu (x.1,x.2.1) x.2.2.1).1,(fu (x.1,x.2.1) x.2.2.1).2,()))
theorem ND{aq:aB}(W:World aq):s33.Ok 48 aq:=by
 have C:=W.in (YN W) 3
 have hl:dZ Rx.w (pW V9 t32 g33) (fun n d=>gD (aq n d) n (.bl 0 (.lp V9.body))):=by
  refine iG C (aE _) (m:=3) ?_
  rintro⟨b,bad,l,n,i,⟨⟩⟩ k q h
  obtain⟨h1,h2⟩:=Lf.T.ba h
  cases h2
  simp only[Bool.and_eq_true,decide_eq_true_eq]at h1
  obtain⟨rfl,rfl,h3⟩:=h1
  exact S8 l b bad h3
 refine dF C (W.st 48 _ rfl) rfl (L:=pX [(0,pW V9 t32 g33)]) (fq.jl (.cons (b:=V9.body) (by kernel_rfl) hl .nil)) (m:=3) rfl ?_
 rintro⟨b,bad,l,⟨⟩⟩ q h
 obtain⟨h1,h2⟩:=Lf.T.ba h
 cases h2
 have e:(iN (Ps [gV 0,.im i64]) [2] (Ps [.tu .nil,gV 2]) (pX [(0,pW V9 t32 g33)]) Tryz.x48 3 (dH e33 3) (aA [.ae u8,.bool,.ae i64] (b,bad,l,()))).val=
  bif (decide ((l.length:Int)=(l.length:Int))&&(decide ((0:Int)=0)&&decide (b.length+l.length<=1099511627776)))then some (aA [.ae u8,.bool] ((fu (b,bad) l).1,(fu (b,bad) l).2,()))else none:=by kernel_rfl
 have n8:decide (b.length+l.length<=1099511627776)=true:=h1
 rw[e,n8]
 simp
def wV:Nat->Int->List Int
 |0,_=>[]
 |k+1,n=>if n< -64∨63<n then FV .u8 (bq .u8 n) 128::wV k (sw .i64 n 7)else []
def u4:Nat->Int->Int
 |0,n=>n
 |k+1,n=>if n< -64∨63<n then u4 k (sw .i64 n 7)else n
def lV(n:Int):List Int:=wV 9 n++[bq .u8 (qD .i64 (u4 9 n) 127)]
theorem yO: ∀ (k:Nat) (n:Int),(wV k n).length<=k
 |0,_=>Nat.le_refl _
 |k+1,n=>by
  unfold wV
  split
  ·have:=yO k (sw .i64 n 7);simp;omega
  ·simp
theorem rz(n:Int):(lV n).length<=10:=by have:=yO 9 n;unfold lV;simp;omega
abbrev t88:List Ty:=[.ae u8,i64,.ae i64,i64,i64]
abbrev P88:jW:=Ps [.ow u8,.n .i64,.im i64,.n .i64,.n .i64]
def YO:jX:=⟨2,fE Tryz.S5.code 2,[3,5,6,7,8],P88,[⟨.lL,[3,5,6,7,8],P88⟩]⟩
theorem yP(o:List Int)(n:Int)(l:List Int)(a i:Int):YO.step (fun _=>none) (dH [] 3) 3 (aA t88 (o,n,l,a,i,()))=
 .br (bif decide (n< -64)then true else decide (63<n)) (.ck (roomy 1 (o.length+1)) (.ok (.next (aA t88 (app o [FV .u8 (bq .u8 n) 128],sw .i64 n 7,l,a,i,()))))) (.ok (.out 0 (aA t88 (o,n,l,a,i,())))):=by kernel_rfl
theorem adQ(n:Int):sw .i64 n 7=n.fdiv 128:=rfl
theorem H8: ∀ (k:Nat) (o:List Int) (n:Int) (l:List Int) (a i:Int),-64*128 ^ k<=n->n<64*128 ^ k->o.length+k<=1099511627776->
 gG (YO.step (fun _=>none) (dH [] 3) 3) (aA t88 (o,n,l,a,i,())) 0 (aA t88 (o++wV k n,u4 k n,l,a,i,()))
 |0,o,n,l,a,i,h0,h1,h2=>by
  refine .last ?_
  rw[yP,Lf.T.dW]
  have e1:decide (n< -64)=false:=decide_eq_false (by omega)
  have e2:decide (63<n)=false:=decide_eq_false (by omega)
  rw[e1,e2]
  simp[wV,u4,Lf.T.pU]
 |k+1,o,n,l,a,i,h0,h1,h2=>by
  by_cases hn:n< -64∨63<n
  ·have hs:sw .i64 n 7=n / 128:=by rw[adQ,Int.fdiv_eq_ediv_of_nonneg _ (by omega)]
   rw[Int.pow_succ]at h0 h1
   have ih:=H8 k (o++[FV .u8 (bq .u8 n) 128]) (n / 128) l a i (by omega) (by omega) (by simp;omega)
   refine .more (pl':=aA t88 (o++[FV .u8 (bq .u8 n) 128],n / 128,l,a,i,())) ?_ ?_
   ·have hc:(bif decide (n< -64)then true else decide (63<n))=true:=by
     rcases hn with h|h
     ·simp[h]
     ·by_cases q:n< -64<;>simp[q,h]
    rw[yP,Lf.T.dW,hc,cond_true,Lf.T.j7,bJ (by omega) (by omega),bp,hs]
    rfl
   ·have e1:wV (k+1) n=FV .u8 (bq .u8 n) 128::wV k (n / 128):=by rw[<-hs];exact if_pos hn
    have e2:u4 (k+1) n=u4 k (n / 128):=by rw[<-hs];exact if_pos hn
    rw[e1,e2]
    simpa using ih
  ·refine .last ?_
   have e1:decide (n< -64)=false:=decide_eq_false (by omega)
   have e2:decide (63<n)=false:=decide_eq_false (by omega)
   rw[yP,Lf.T.dW,e1,e2]
   have e1:wV (k+1) n=[]:=if_neg hn
   have e2:u4 (k+1) n=n:=if_neg hn
   rw[e1,e2,List.append_nil]
   rfl
def g88:aj t88->T (Nat×List Pl):=fun x=>.ck ((decide (-9223372036854775808<=x.2.1)&&decide (x.2.1<9223372036854775808))&&decide (x.1.length+10<=1099511627776)) (.ok (0,aA t88 (x.1++wV 9 x.2.1,u4 9 x.2.1,x.2.2.1,x.2.2.2.1,x.2.2.2.2.1,())))
def s88:cR:=hU (Ps [.im i64]) [] (Ps [.ow u8]) [.ae i64] [.ae u8] fun x=>match x.1 with
 | [n]=>.ck (decide (-9223372036854775808<=n)&&decide (n<9223372036854775808)) (.ok (lV n,()))
 | _=>.bad
theorem NF{aq:aB}(W:World aq):s88.Ok 109 aq:=by
 have hl:dZ Rx.w (pW YO t88 g88) (fun n d=>gD (aq n d) n (.bl 2 (.lp YO.body))):=by
  refine iG (W.in .nil 3) (aE _) (m:=3) ?_
  rintro⟨o,n,l,a,i,⟨⟩⟩ k q h
  obtain⟨h1,h2⟩:=Lf.T.ba h
  cases h2
  simp only[Bool.and_eq_true,decide_eq_true_eq]at h1
  exact H8 9 o n l a i (Int.le_trans (by decide) h1.1.1) (Int.lt_trans h1.1.2 (by decide)) (by omega)
 refine dF (W.in .nil 3) (W.st 109 _ rfl) rfl (L:=pX [(2,pW YO t88 g88)]) (fq.jl (.cons (b:=YO.body) (by kernel_rfl) hl .nil)) (m:=3) rfl ?_
 rintro⟨l,⟨⟩⟩ q h
 change (match l with| [n]=>(.ck (decide (-9223372036854775808<=n)&&decide (n<9223372036854775808)) (.ok (lV n,())):T (aj [.ae u8]))| _=>.bad).val=some q at h
 split at h
 ·rename_i n
  obtain⟨h1,h2⟩:=Lf.T.ba h
  cases h2
  have e:(iN (Ps [.im i64]) [] (Ps [.ow u8]) (pX [(2,pW YO t88 g88)]) Tryz.S5 3 (dH [] 3) (aA [.ae i64] ([n],()))).val=
   bif (decide (-9223372036854775808<=n)&&decide (n<9223372036854775808))&&true then(bif roomy 1 ((wV 9 n).length+1)then some (aA [.ae u8] (app (wV 9 n) [bq .u8 (qD .i64 (u4 9 n) 127)],()))else none)else none:=by kernel_rfl
  rw[e,h1,bJ (by omega) (by have:=yO 9 n;omega),bp]
  rfl
 ·cases h
end Go.Proofs.Vd

noncomputable section
namespace Go.Proofs.Vd
open Go.Ab Go.Ab.Lf
set_option maxRecDepth 100000
def yQ(op:List Int)(x:den tI)(r:List (den tI)):List Int ⊕ Option Bool:=
 if x.1=2∨x.1=3∨x.1=4 then(if op.length=128 then .inr (some false)else .inl (op++[x.1]))
 else if x.1=5 then(if op.length=0∨ ¬ op.getD (op.length - 1) 0=4 then .inr (some false)else .inl (op.set (op.length - 1) 5))
 else if x.1=11 then(if op.length=0 then .inr (some (decide (r.length=0)))else .inl (op.take (op.length - 1)))
 else .inl op
def DS(c:List (den tI)):Option Bool:=gq yQ (fun _=>none) c []
def iU(c:List (den tI)):Bool:=(DS c).getD false
abbrev t79:List Ty:=[.ae tI,.ae i64,.ae tI,i64,i64]
def S9:jX:=⟨0,fE Tryz.x98.code 0,[0,3,7,8,9],Ps [.im tI,.ow i64,.im tI,.n .i64,.n .i64],[⟨.lL,[0],.cons (.im tI) .nil⟩,⟨.rt,[2],.cons .bo .nil⟩]⟩
theorem DT(c0 c:List (den tI))(op:List Int)(n i:Int):S9.step (fun _=>none) (dH [] 3) 3 (aA t79 (c0,op,c,n,i,()))=
 .br (decide (i<n)) (.ck (aU i (Int.ofNat c.length)) (let x:Int:=(c.getD i.toNat (ao tI)).1
  let nx:=fun(q:List Int)=>T.ok (Rs.next (aA t79 (c0,q,c,n,bw .i64 i 1,())))
  let fl:=T.ok (Rs.out 1 (aA [.bool] (false,())))
  let opn:=T.br (decide (Int.ofNat op.length=128)) fl (.ck (roomy 8 (op.length+1)) (nx (app op [x])))
  let at':=bQ .i64 (Int.ofNat op.length) 1
  .br (decide (x=2)) opn (.br (decide (x=3)) opn (.br (decide (x=4)) opn
   (.br (decide (x=5)) (.ck (bif decide (Int.ofNat op.length=0)then true else aU at' (Int.ofNat op.length))
     (.br (bif decide (Int.ofNat op.length=0)then true else !decide (op.getD at'.toNat (ao i64)=4)) fl (.ck (aU at' (Int.ofNat op.length)) (nx (op.set at'.toNat 5)))))
    (.br (decide (x=11)) (.br (decide (Int.ofNat op.length=0)) (T.ok (Rs.out 1 (aA [.bool] (decide (i=bQ .i64 (Int.ofNat c0.length) 1),())))) (.ck (eK 0 at' (Int.ofNat op.length)) (nx ((op.drop 0).take (at'.toNat - 0)))))
     (nx op)))))))
  (.ok (.out 0 (aA [.ae tI] (c0,())))):=by kernel_rfl
theorem Ta(c0 c:List (den tI))(h0:c0.length=c.length)(hc:c.length<=1099511627776):
 gG (S9.step (fun _=>none) (dH [] 3) 3) (aA t79 (c0,[],c,(c.length:Int),0,())) (match DS c with|none=>0|some _=>1) (match DS c with|none=>aA [.ae tI] (c0,())|some b=>aA [.bool] (b,())):=by
 have:=SU (f:=S9.step (fun _=>none) (dH [] 3) 3) (l:=c) (fun(op:List Int) j=>aA t79 (c0,op,c,(c.length:Int),(j:Int),())) yQ (fun _=>(none:Option Bool)) (fun o=>(match o with|none=>0|some _=>1,match o with|none=>aA [.ae tI] (c0,())|some b=>aA [.bool] (b,())))
  (fun op r=>op.length+r.length<=1099511627776) (fun op j x r h hi=>by
  obtain⟨h1,h2⟩:=dr h (ao tI)
  simp only[List.length_cons]at hi
  have hj:j<4611686018427387904:=by omega
  have hr:c.length=j+1+r.length:=by have:=congrArg List.length h;simp at this;omega
  refine⟨?_,fun s' e=>?_⟩
  ·rw[DT,Lf.T.dW,dX h1,cond_true,Lf.T.j7,bX h1,cond_true,Int.toNat_natCast,h2,kE hj]
   have hro:roomy 8 (op.length+1)=true:=bJ (by omega) (by omega)
   have e0:(Int.ofNat op.length=128)↔op.length=128:=by show((op.length:Int)=128)↔_;omega
   have e1:(Int.ofNat op.length=0)↔op.length=0:=by show((op.length:Int)=0)↔_;omega
   have e2: ∀ h: ¬ op.length=0,bQ .i64 (Int.ofNat op.length) 1=((op.length - 1:Nat):Int):=fun h=>BU (by omega) (by omega)
   have e3:bQ .i64 (Int.ofNat c0.length) 1=((c.length - 1:Nat):Int):=by rw[h0];exact BU (by omega) (by omega)
   have e4:((j:Int)=((c.length - 1:Nat):Int))↔r.length=0:=by omega
   have e5: ∀ h: ¬ op.length=0,aU ((op.length - 1:Nat):Int) (Int.ofNat op.length)=true:=fun h=>bX (by omega)
   have e6: ∀ h: ¬ op.length=0,eK 0 ((op.length - 1:Nat):Int) (Int.ofNat op.length)=true:=fun h=>by rw[AF];exact⟨by omega,by omega,by show _<=(op.length:Int);omega⟩
   unfold yQ
   simp only[Lf.T.dW,Lf.T.j7,Lf.T.pU,hro,e0,e3,e4,bp,cond_true]
   by_cases x2:x.1=2
   ·by_cases q:op.length=128<;>simp[x2,q,KH]
   ·by_cases x3:x.1=3
    ·by_cases q:op.length=128<;>simp[x3,q,KH]
    ·by_cases x4:x.1=4
     ·by_cases q:op.length=128<;>simp[x4,q,KH]
     ·by_cases x5:x.1=5
      ·by_cases q:op.length=0
       ·simp[x5,q,e1,KH]
       ·have q1:decide (Int.ofNat op.length=0)=false:=decide_eq_false (by rw[e1];exact q)
        by_cases q2:op.getD (op.length - 1) 0=4
        ·simp only[x5,q1,e2 q,e5 q,Int.toNat_natCast,show op.getD (op.length - 1) (ao i64)=4 from q2]
         have q4:=q2
         rw[List.getD_eq_getElem?_getD]at q4
         simp[q,q4,KH]
        ·have q3: ¬ op.getD (op.length - 1) (ao i64)=4:=q2
         simp only[x5,q1,e2 q,e5 q,Int.toNat_natCast,decide_eq_false q3]
         have q4:=q2
         rw[List.getD_eq_getElem?_getD]at q4
         simp[q,q4,KH]
      ·by_cases x11:x.1=11
       ·by_cases q:op.length=0
        ·simp[x11,q,e1,KH]
        ·have q1:decide (Int.ofNat op.length=0)=false:=decide_eq_false (by rw[e1];exact q)
         simp only[x11,q1,e2 q,e6 q,Int.toNat_natCast]
         simp[q,KH]
       ·simp[x2,x3,x4,x5,x11,KH]
  ·unfold yQ at e
   repeat' split at e
   all_goals first|(cases e;done)|(cases e;simp;omega)|(cases e;omega)) (fun s j h hj hi=>by
  have:j=c.length:=by have:=List.drop_eq_nil_iff.1 h;omega
  subst this
  rw[DT,Lf.T.dW,dn (Nat.le_refl _)]
  rfl) c 0 [] rfl (by omega) (by simpa using hc)
 exact this
def g79:aj t79->T (Nat×List Pl):=fun x=>.ck ((decide (x.2.1.length=0)&&decide (x.2.2.2.1=(x.2.2.1.length:Int)))&&(decide (x.2.2.2.2.1=0)&&(decide (x.1.length=x.2.2.1.length)&&decide (x.2.2.1.length<=1099511627776))))
 (.br (DS x.2.2.1).isNone (.ok (0,aA [.ae tI] (x.1,()))) (.ok (1,aA [.bool] (iU x.2.2.1,()))))
theorem YP(x:aj t79)(k:Nat)(q:List Pl)(h:(g79 x).val=some (k,q)):gG (S9.step (fun _=>none) (dH [] 3) 3) (aA t79 x) k q:=by
 obtain⟨c,op,c2,n,i,⟨⟩⟩:=x
 obtain⟨h1,h2⟩:=Lf.T.ba h
 simp only[Bool.and_eq_true,decide_eq_true_eq]at h1
 obtain⟨⟨a1,a2⟩,a3,a5,a4⟩:=h1
 have a1:=List.eq_nil_of_length_eq_zero a1
 subst a1;subst a2;subst a3
 have:=Ta c c2 a5 a4
 rw[Lf.T.dW]at h2
 unfold iU at h2
 cases hm:DS c2 with
 |none=>rw[hm]at h2 this;cases h2;exact this
 |some b=>rw[hm]at h2 this;cases h2;exact this
def s79:cR:=hU (Ps [.im tI]) [] (Ps [.bo]) [.ae tI] [.bool] fun x=>.ck (decide (x.1.length<=1099511627776)) (.ok (iU x.1,()))
theorem YQ{aq:aB}(W:World aq):s79.Ok 98 aq:=by
 have C:=W.in .nil 3
 have hl:dZ Rx.w (pW S9 t79 g79) (fun n d=>gD (aq n d) n (.bl 0 (.lp S9.body))):=iG C (aE _) (m:=3) YP
 refine dF C (W.st 98 _ rfl) rfl (L:=pX [(0,pW S9 t79 g79)]) (fq.jl (.cons (b:=S9.body) (by kernel_rfl) hl .nil)) (m:=3) rfl ?_
 rintro⟨c,⟨⟩⟩ q h
 obtain⟨h1,h2⟩:=Lf.T.ba h
 cases h2
 have e:(iN (Ps [.im tI]) [] (Ps [.bo]) (pX [(0,pW S9 t79 g79)]) Tryz.x98 3 (dH [] 3) (aA [.ae tI] (c,()))).val=
  bif ((decide (([]:List Int).length=0)&&decide ((c.length:Int)=(c.length:Int)))&&(decide ((0:Int)=0)&&(decide (c.length=c.length)&&decide (c.length<=1099511627776))))then
   (bif (DS c).isNone then some (aA [.bool] (false,()))else some (aA [.bool] (iU c,())))else none:=by kernel_rfl
 have n8:decide (c.length<=1099511627776)=true:=h1
 rw[e,n8]
 unfold iU
 cases DS c<;>simp
end Go.Proofs.Vd

noncomputable section
namespace Go.Proofs.Vd
open Go.Ab Go.Ab.Lf
set_option maxRecDepth 100000
abbrev gu:Ty:=.pair i64 (.pair i64 (.pair i64 (.pair i64 .str)))
abbrev lF:List Ty:=[i64,i64,.bool,.ae i64,.ae i64]
def Gq:List (den gu):=(eA [.ae gu] (iN .nil [] (Ps [.im gu]) (fun _=>none) Tryz.SW 3 (dH [] 3) [])).1
def Gr:List (den gu):=(eA [.ae gu] (iN .nil [] (Ps [.im gu]) (fun _=>none) Tryz.SX 3 (dH [] 3) [])).1
def s22:cR:=hU .nil [] (Ps [.im gu]) [] [.ae gu] fun _=>.ok (Gq,())
def s23:cR:=hU .nil [] (Ps [.im gu]) [] [.ae gu] fun _=>.ok (Gr,())
theorem YR{aq:aB}(W:World aq):s22.Ok 100 aq:=by
 refine dF (W.in .nil 3) (W.st 100 _ rfl) rfl (aE _) (m:=3) rfl ?_
 rintro⟨⟩ q h
 cases h
 exact rj (to:=[.ae gu]) (x:=iN .nil [] (Ps [.im gu]) (fun _=>none) Tryz.SW 3 (dH [] 3) []) (by kernel_rfl)
theorem YS{aq:aB}(W:World aq):s23.Ok 101 aq:=by
 refine dF (W.in .nil 3) (W.st 101 _ rfl) rfl (aE _) (m:=3) rfl ?_
 rintro⟨⟩ q h
 cases h
 exact rj (to:=[.ae gu]) (x:=iN .nil [] (Ps [.im gu]) (fun _=>none) Tryz.SX 3 (dH [] 3) []) (by kernel_rfl)
abbrev pB:jW:=.pt 0 (Ps [.n .i64,.n .i64,.bo,.im i64,.im i64])
abbrev pC:jW:=.pt 0 (Ps [.n .i64,.n .i64,.bo,.ow i64,.ow i64])
abbrev yR:List Ty:=[i64,i64,.bool,.ae i64,.ae i64,i64,i64,.bool,.ae i64,.ae i64,.bool,.ae u8,i64,i64]
def DU:jX:=⟨2,fE Tryz.x88.code 2,[2,7,8,42,43,44],Ps [pB,pC,.bo,.im u8,.n .i64,.n .i64],[⟨.lL,[2,7],Ps [pB,pC]⟩]⟩
def H9(s:Bool×List Int×List Int)(c:Int):Bool×List Int×List Int:=
 if c=58 then(true,s.2)else(if s.1 then(s.1,s.2.1,s.2.2++[if c=108 then 126 else if c=118 then 123 else 127])else(s.1,s.2.1++[if c=108 then 126 else if c=118 then 123 else 127],s.2.2))
def zR(s:List Int):List Int×List Int:=(s.foldl H9 (false,[],[])).2
theorem AL(f l:Int)(p:Bool)(a b:List Int)(f2 l2:Int)(p2:Bool)(a2 b2:List Int)(o:Bool)(s:List Int)(n i:Int):DU.step (fun _=>none) (dH [] 3) 3 (aA yR (f,l,p,a,b,f2,l2,p2,a2,b2,o,s,n,i,()))=
 .br (decide (i<n)) (.ck (aU i (Int.ofNat s.length)) (let x:=s.getD i.toNat (ao u8)
  let nx:=fun(t:Int)=>T.br o (.ck (roomy 8 (b2.length+1)) (.ok (Rs.next (aA yR (f,l,p,a,b,f2,l2,p2,a2,app b2 [t],o,s,n,bw .i64 i 1,())))))
   (.ck (roomy 8 (a2.length+1)) (.ok (Rs.next (aA yR (f,l,p,a,b,f2,l2,p2,app a2 [t],b2,o,s,n,bw .i64 i 1,())))))
  .br (decide (x=58)) (.ok (Rs.next (aA yR (f,l,p,a,b,f2,l2,p2,a2,b2,true,s,n,bw .i64 i 1,())))) (.br (decide (x=108)) (nx 126) (.br (decide (x=118)) (nx 123) (nx 127)))))
  (.ok (.out 0 (aA [i64,i64,.bool,.ae i64,.ae i64,i64,i64,.bool,.ae i64,.ae i64] (f,l,p,a,b,f2,l2,p2,a2,b2,())))):=by kernel_rfl
theorem NG(f l:Int)(p:Bool)(a b:List Int)(f2 l2:Int)(p2:Bool)(s:List Int)(hs:s.length<=1000):
 gG (DU.step (fun _=>none) (dH [] 3) 3) (aA yR (f,l,p,a,b,f2,l2,p2,[],[],false,s,(s.length:Int),0,())) 0 (aA [i64,i64,.bool,.ae i64,.ae i64,i64,i64,.bool,.ae i64,.ae i64] (f,l,p,a,b,f2,l2,p2,(zR s).1,(zR s).2,())):=by
 have:=JR (f:=DU.step (fun _=>none) (dH [] 3) 3) (l:=s) (fun(q:Bool×List Int×List Int) j=>aA yR (f,l,p,a,b,f2,l2,p2,q.2.1,q.2.2,q.1,s,(s.length:Int),(j:Int),())) (fun q x=>.inl (H9 q x)) (fun q=>(0,aA [i64,i64,.bool,.ae i64,.ae i64,i64,i64,.bool,.ae i64,.ae i64] (f,l,p,a,b,f2,l2,p2,q.2.1,q.2.2,())))
  (fun q r=>(q.2.1.length+r.length<=2000/\q.2.2.length+r.length<=2000)) (fun q j x r h hi=>by
  obtain⟨o,a2,b2⟩:=q
  obtain⟨h1,h2⟩:=dr h (ao u8)
  simp only[List.length_cons]at hi
  have hj:j<4611686018427387904:=by omega
  have r1:roomy 8 (a2.length+1)=true:=bJ (by omega) (by omega)
  have r2:roomy 8 (b2.length+1)=true:=bJ (by omega) (by omega)
  refine⟨?_,fun s' e=>?_⟩
  ·rw[AL,Lf.T.dW,dX h1,cond_true,Lf.T.j7,bX h1,cond_true,Int.toNat_natCast,h2,kE hj]
   unfold H9
   simp only[Lf.T.dW,Lf.T.j7,Lf.T.pU,r1,r2,bp,cond_true]
   by_cases x1:x=58
   ·simp[x1,zM]
   ·by_cases x2:x=108
    ·cases o<;>simp[x2,zM]
    ·by_cases x3:x=118
     ·cases o<;>simp[x3,zM]
     ·cases o<;>simp[x1,x2,x3,zM]
  ·cases e
   unfold H9
   split
   ·simp only;omega
   ·split<;>simp<;>omega) (fun q j h hj hi=>by
  have:j=s.length:=by have:=List.drop_eq_nil_iff.1 h;omega
  subst this
  rw[AL,Lf.T.dW,dn (Nat.le_refl _)]
  rfl) s 0 (false,[],[]) rfl (by omega) (by simp;omega)
 rw[fI]at this
 exact this
def YT:aj yR->T (Nat×List Pl):=fun x=>.ck (((decide (x.2.2.2.2.2.2.2.2.1.length=0)&&decide (x.2.2.2.2.2.2.2.2.2.1.length=0))&& !x.2.2.2.2.2.2.2.2.2.2.1)&&((decide (x.2.2.2.2.2.2.2.2.2.2.2.2.1=(x.2.2.2.2.2.2.2.2.2.2.2.1.length:Int))&&decide (x.2.2.2.2.2.2.2.2.2.2.2.2.2.1=0))&&decide (x.2.2.2.2.2.2.2.2.2.2.2.1.length<=1000)))
 (.ok (0,aA [i64,i64,.bool,.ae i64,.ae i64,i64,i64,.bool,.ae i64,.ae i64] (x.1,x.2.1,x.2.2.1,x.2.2.2.1,x.2.2.2.2.1,x.2.2.2.2.2.1,x.2.2.2.2.2.2.1,x.2.2.2.2.2.2.2.1,(zR x.2.2.2.2.2.2.2.2.2.2.2.1).1,(zR x.2.2.2.2.2.2.2.2.2.2.2.1).2,())))
theorem Tb(x:aj yR)(k:Nat)(q:List Pl)(h:(YT x).val=some (k,q)):gG (DU.step (fun _=>none) (dH [] 3) 3) (aA yR x) k q:=by
 obtain⟨f,l,p,a,b,f2,l2,p2,a2,b2,o,s,n,i,⟨⟩⟩:=x
 obtain⟨h1,h2⟩:=Lf.T.ba h
 cases h2
 simp only[Bool.and_eq_true,decide_eq_true_eq,Bool.not_eq_true']at h1
 obtain⟨⟨⟨b1,KI⟩,b3⟩,⟨b4,b5⟩,b6⟩:=h1
 have b1:=List.eq_nil_of_length_eq_zero b1
 have KI:=List.eq_nil_of_length_eq_zero KI
 subst b1;subst KI;subst b3;subst b4;subst b5
 exact NG f l p a b f2 l2 p2 s b6
abbrev t11:List Ty:=[i64,i64,i64,.bool,.ae i64,.ae i64,.bool,.ae gu,i64,i64]
def KJ:jX:=⟨0,fE Tryz.x88.code 0,[0,2,3,16,17,18],Ps [.n .i64,pB,.bo,.im gu,.n .i64,.n .i64],[⟨.lL,[2],Ps [pB]⟩,⟨.rt,[2,3],Ps [pB,.bo]⟩]⟩
def JS(r:den gu):List Int:=r.2.2.2.2.data.toList.map fun b=>Int.ofNat b.toNat
def DV(r:den gu):aj lF:=(r.2.2.1,r.2.2.2.1,!(eqStr r.2.2.2.2 ⟨#[]⟩),(zR (JS r)).1,(zR (JS r)).2,())
def zT(op:Int)(_:Unit)(r:den gu)(_:List (den gu)):Unit ⊕ Option (aj lF):=bif (bif decide (op<r.1)then true else decide (r.2.1<op))then .inl ()else .inr (some (DV r))
def n4(op:Int)(rs:List (den gu)):Option (aj lF):=gq (zT op) (fun _=>none) rs ()
def L11:Nat->Option fA:=pX [(2,pW DU yR YT)]
theorem DW(op f l:Int)(p:Bool)(a b:List Int)(ok:Bool)(rs:List (den gu))(n i:Int):(KJ.step L11 (dH [] 3) 3 (aA t11 (op,f,l,p,a,b,ok,rs,n,i,()))).val=
 bif decide (i<n)then(bif aU i (Int.ofNat rs.length)then(bif (bif decide (op<(rs.getD i.toNat (ao gu)).1)then true else decide ((rs.getD i.toNat (ao gu)).2.1<op))then some (Rs.next (aA t11 (op,f,l,p,a,b,ok,rs,n,bw .i64 i 1,())))
  else(bif ((true&&true)&&true)&&((decide (((JS (rs.getD i.toNat (ao gu))).length:Int)=((JS (rs.getD i.toNat (ao gu))).length:Int))&&true)&&decide ((JS (rs.getD i.toNat (ao gu))).length<=1000))then some (Rs.out 1 (aA [i64,i64,.bool,.ae i64,.ae i64,.bool] ((DV (rs.getD i.toNat (ao gu))).1,(DV (rs.getD i.toNat (ao gu))).2.1,(DV (rs.getD i.toNat (ao gu))).2.2.1,(DV (rs.getD i.toNat (ao gu))).2.2.2.1,(DV (rs.getD i.toNat (ao gu))).2.2.2.2.1,true,())))else none))else none)else some (.out 0 (aA lF (f,l,p,a,b,()))):=by kernel_rfl
def n5(rs:List (den gu)):Bool:=cu (fun r=>decide ((JS r).length<=1000)) rs
theorem DX{r:den gu}{rs:List (den gu)}(h:n5 (r::rs)=true):(JS r).length<=1000/\n5 rs=true:=by
 have h:(bif decide ((JS r).length<=1000)then n5 rs else false)=true:=h
 by_cases q:(JS r).length<=1000
 ·rw[decide_eq_true q]at h;exact⟨q,h⟩
 ·rw[decide_eq_false q]at h;cases h
theorem Tc(op f l:Int)(p:Bool)(a b:List Int)(ok:Bool)(rs:List (den gu))(hl:rs.length<=1000)(hs:n5 rs=true):
 gG (KJ.step L11 (dH [] 3) 3) (aA t11 (op,f,l,p,a,b,ok,rs,(rs.length:Int),0,())) (match n4 op rs with|none=>0|some _=>1) (match n4 op rs with|none=>aA lF (f,l,p,a,b,())|some y=>aA [i64,i64,.bool,.ae i64,.ae i64,.bool] (y.1,y.2.1,y.2.2.1,y.2.2.2.1,y.2.2.2.2.1,true,())):=by
 have:=SU (f:=KJ.step L11 (dH [] 3) 3) (l:=rs) (fun(_:Unit) j=>aA t11 (op,f,l,p,a,b,ok,rs,(rs.length:Int),(j:Int),())) (zT op) (fun _=>(none:Option (aj lF)))
  (fun o=>(match o with|none=>0|some _=>1,match o with|none=>aA lF (f,l,p,a,b,())|some y=>aA [i64,i64,.bool,.ae i64,.ae i64,.bool] (y.1,y.2.1,y.2.2.1,y.2.2.2.1,y.2.2.2.2.1,true,()))) (fun _ r=>n5 r=true) (fun q j x r h hi=>by
  obtain⟨h1,h2⟩:=dr h (ao gu)
  have hj:j<4611686018427387904:=by omega
  obtain⟨k1,k2⟩:=DX hi
  refine⟨?_,fun _ _=>k2⟩
  rw[DW,dX h1,cond_true,bX h1,cond_true,Int.toNat_natCast,h2,kE hj]
  unfold zT
  cases hc:(bif decide (op<x.1)then true else decide (x.2.1<op))with
  |true=>simp only[cond_true,KH]
  |false=>simp only[cond_false,KH,decide_eq_true k1,decide_true,Bool.and_self,cond_true]) (fun q j h hj hi=>by
  have:j=rs.length:=by have:=List.drop_eq_nil_iff.1 h;omega
  subst this
  rw[DW,dn (Nat.le_refl _)]
  rfl) rs 0 () rfl (by omega) hs
 exact this
def g11:aj t11->T (Nat×List Pl):=fun x=>.ck ((decide (x.2.2.2.2.2.2.2.2.1=(x.2.2.2.2.2.2.2.1.length:Int))&&decide (x.2.2.2.2.2.2.2.2.2.1=0))&&(decide (x.2.2.2.2.2.2.2.1.length<=1000)&&n5 x.2.2.2.2.2.2.2.1))
 (.br (n4 x.1 x.2.2.2.2.2.2.2.1).isNone (.ok (0,aA lF (x.2.1,x.2.2.1,x.2.2.2.1,x.2.2.2.2.1,x.2.2.2.2.2.1,()))) (let y:=(n4 x.1 x.2.2.2.2.2.2.2.1).getD (sK lF); .ok (1,aA [i64,i64,.bool,.ae i64,.ae i64,.bool] (y.1,y.2.1,y.2.2.1,y.2.2.2.1,y.2.2.2.2.1,true,()))))
theorem YU(x:aj t11)(k:Nat)(q:List Pl)(h:(g11 x).val=some (k,q)):gG (KJ.step L11 (dH [] 3) 3) (aA t11 x) k q:=by
 obtain⟨op,f,l,p,a,b,ok,rs,n,i,⟨⟩⟩:=x
 obtain⟨h1,h2⟩:=Lf.T.ba h
 simp only[Bool.and_eq_true,decide_eq_true_eq]at h1
 obtain⟨⟨b1,b2⟩,b3,b4⟩:=h1
 subst b1;subst b2
 have:=Tc op f l p a b ok rs b3 b4
 rw[Lf.T.dW]at h2
 cases hm:n4 op rs with
 |none=>rw[hm]at h2 this;cases h2;exact this
 |some y=>rw[hm]at h2 this;cases h2;exact this
def JT(op:Int):Option (aj lF):=n4 op (bif decide (64768<=op)then Gr else Gq)
def kG(op:Int):aj lF:=(JT op).getD (0,0,false,[],[],())
def CE(op:Int):Bool:=(JT op).isSome
def e11:List (Nat×cR):=[(100,s22),(101,s23)]
theorem YV{aq:aB}(W:World aq):db aq e11:=.cons (YR W) (.cons (YS W) .nil)
def s11:cR:=hU (Ps [.n .i64]) [] (Ps [.tu (Ps [.ag (Ps [.n .i64,.n .i64,.bo,.im i64,.im i64]),.bo])]) [i64] [i64,i64,.bool,.ae i64,.ae i64,.bool] fun x=>let y:=kG x.1; .ok (y.1,y.2.1,y.2.2.1,y.2.2.2.1,y.2.2.2.2.1,CE x.1,())
theorem NH:((n5 Gq&&Nat.ble Gq.length 1000)&&(n5 Gr&&Nat.ble Gr.length 1000))=true:=by kernel_rfl
abbrev iH:List Ty:=[i64,i64,.bool,.ae i64,.ae i64,.bool]
def r11(op:Int)(rs:List (den gu)):Option (List Pl):=bif (decide ((rs.length:Int)=(rs.length:Int))&&decide ((0:Int)=0))&&(decide (rs.length<=1000)&&n5 rs)then
 (bif (n4 op rs).isNone then some (aA iH (0,0,false,[],[],false,()))else some (aA iH (((n4 op rs).getD (sK lF)).1,((n4 op rs).getD (sK lF)).2.1,((n4 op rs).getD (sK lF)).2.2.1,((n4 op rs).getD (sK lF)).2.2.2.1,((n4 op rs).getD (sK lF)).2.2.2.2.1,true,())))else none
theorem NI(op:Int)(rs:List (den gu))(h1:rs.length<=1000)(h2:n5 rs=true):r11 op rs=some (aA iH (((n4 op rs).getD (0,0,false,[],[],())).1,((n4 op rs).getD (0,0,false,[],[],())).2.1,((n4 op rs).getD (0,0,false,[],[],())).2.2.1,((n4 op rs).getD (0,0,false,[],[],())).2.2.2.1,((n4 op rs).getD (0,0,false,[],[],())).2.2.2.2.1,(n4 op rs).isSome,())):=by
 unfold r11
 rw[decide_eq_true h1,h2]
 cases n4 op rs with
 |none=>simp
 |some y=>simp
theorem NJ{aq:aB}(W:World aq):s11.Ok 88 aq:=by
 have C:=W.in (YV W) 3
 have C0:=W.in .nil 3
 have hi:dZ Rx.w (pW DU yR YT) (fun n d=>gD (aq n d) n (.bl 2 (.lp DU.body))):=iG C0 (aE _) (m:=3) Tb
 have ho:dZ Rx.w (pW KJ t11 g11) (fun n d=>gD (aq n d) n (.bl 0 (.lp KJ.body))):=iG C0 (L:=L11) (fq.jl (.cons (b:=DU.body) (by kernel_rfl) hi .nil)) (m:=3) YU
 refine dF C (W.st 88 _ rfl) rfl (L:=pX [(0,pW KJ t11 g11)]) (fq.jl (.cons (b:=KJ.body) (by kernel_rfl) ho .nil)) (m:=3) rfl ?_
 rintro⟨op,⟨⟩⟩ q h
 cases h
 have e:(iN (Ps [.n .i64]) [] (Ps [.tu (Ps [.ag (Ps [.n .i64,.n .i64,.bo,.im i64,.im i64]),.bo])]) (pX [(0,pW KJ t11 g11)]) Tryz.x88 3 (dH e11 3) (aA [i64] (op,()))).val=
  bif decide (64768<=op)then r11 op Gr else r11 op Gq:=by kernel_rfl
 have hs:=NH
 rw[Bool.and_eq_true,Bool.and_eq_true,Bool.and_eq_true]at hs
 rw[e,NI op Gr (Nat.le_of_ble_eq_true hs.2.2) hs.2.1,NI op Gq (Nat.le_of_ble_eq_true hs.1.2) hs.1.1]
 unfold kG CE JT
 cases decide (64768<=op)<;>rfl
end Go.Proofs.Vd

noncomputable section
namespace Go.Ab.Lf
def Td(to:List Ty)(t:T (List Pl)):Bool:=
 T.rec (motive:=fun _=>Bool) false (fun l=>(toT to l).isSome) (fun _ _ _ a b=>a&&b) (fun _ _ _=>false) t
theorem xx{to:List Ty}: ∀ {t:T (List Pl)},Td to t=true->jr to t=true
 | .bad,h=>by cases h
 | .ok l,h=>by
  have h:(toT to l).isSome=true:=h
  show(match toT to l with|some _=>true|none=>false)=true
  cases hq:toT to l with
  |none=>rw[hq]at h;cases h
  |some y=>rfl
 | .br c a b,h=>by
  have h:(Td to a&&Td to b)=true:=h
  obtain⟨h1,h2⟩:=Bool.and_eq_true_iff.1 h
  have q1:=xx h1
  have q2:=xx h2
  unfold jr at*
  rw[T.dW]
  cases c
  ·exact q2
  ·exact q1
 | .ck c a,h=>by cases h
theorem V'{call:eJ}{aq:aB}(C:oE call aq){f:FuncId}{b:dB}(hb:mT aq f b)(qC:Nat.ble b.ntmps 512=true){L:Nat->Option fA}(hL:jl Rx.w aq L b.code){m:Nat}{P:jW}{ptr:List Nat}{Q:jW}{ti to:List Ty}{out:aj ti->aj to}
 (h0:cu (fun g=> !(Nat.beq g 0)) ptr=true)(h1: ∀ x,Td to (iN P ptr Q L b m call (aA ti x))=true)(h2: ∀ x,out x=eA to (iN P ptr Q L b m call (aA ti x))):(hU P ptr Q ti to fun x=>.ok (out x)).Ok f aq:=by
 refine dF C hb qC hL (m:=m) h0 fun x y h=>?_
 cases h
 rw[h2]
 exact rj (xx (h1 x))
end Go.Ab.Lf
namespace Go.Proofs.Vd
open Go.Ab Go.Ab.Lf
set_option maxRecDepth 100000
abbrev pI:jW:=.ag (Ps [.n .i64,.n .i64,.n .i64,.n .u64,.n .u64,.im i64])
abbrev t87:List Ty:=[i64,i64,i64,u64,u64,.ae i64,i64]
def DY(x:aj t87):aj [.bool]:=eA [.bool] (iN (Ps [pI,.n .i64]) [] (Ps [.bo]) (fun _=>none) Tryz.S4 3 (dH [] 3) (aA t87 x))
def s87:cR:=hU (Ps [pI,.n .i64]) [] (Ps [.bo]) t87 [.bool] fun x=>.ok (DY x)
theorem YW{aq:aB}(W:World aq):s87.Ok 108 aq:=by
 refine V' (W.in .nil 3) (W.st 108 _ rfl) rfl (aE _) (m:=3) rfl ?_ (fun _=>rfl)
 rintro⟨o,a,b,lo,hi,l,f,⟨⟩⟩
 kernel_rfl
def lG(n:Int):Bool:=bif decide (0<=n)then decide (n<4294967296)else false
def s89:cR:=hU (Ps [.n .i64]) [] (Ps [.bo]) [i64] [.bool] fun x=>.ok (lG x.1,())
theorem YX{aq:aB}(W:World aq):s89.Ok 110 aq:=by
 refine dF (W.in .nil 3) (W.st 110 _ rfl) rfl (aE _) (m:=3) rfl ?_
 rintro⟨n,⟨⟩⟩ q h
 cases h
 kernel_rfl
abbrev tV:List Ty:=[u8,u8,u8,u8,u8,u8,u8,u8,u8,u8,u8,u8,u8,u8,u8,u8]
abbrev pV:jW:=.ag (Ps [.n .u8,.n .u8,.n .u8,.n .u8,.n .u8,.n .u8,.n .u8,.n .u8,.n .u8,.n .u8,.n .u8,.n .u8,.n .u8,.n .u8,.n .u8,.n .u8])
def Wa(x:aj [u64,u64]):aj tV:=eA tV (iN (Ps [.ag (Ps [.n .u64,.n .u64])]) [] (Ps [pV]) (fun _=>none) Tryz.YG 20 (dH [] 20) (aA [u64,u64] x))
def s81:cR:=hU (Ps [.ag (Ps [.n .u64,.n .u64])]) [] (Ps [pV]) [u64,u64] tV fun x=>.ok (Wa x)
theorem NK{aq:aB}(W:World aq):s81.Ok 102 aq:=by
 refine V' (W.in .nil 20) (W.st 102 _ rfl) rfl (aE _) (m:=20) rfl ?_ (fun _=>rfl)
 rintro⟨lo,hi,⟨⟩⟩
 kernel_rfl
end Go.Proofs.Vd

noncomputable section
namespace Go.Proofs.Vd
open Go.Ab Go.Ab.Lf
set_option maxRecDepth 100000
def YY(lo hi:Int):List Int:=let y:=Wa (lo,hi,());[y.1,y.2.1,y.2.2.1,y.2.2.2.1,y.2.2.2.2.1,y.2.2.2.2.2.1,y.2.2.2.2.2.2.1,y.2.2.2.2.2.2.2.1,y.2.2.2.2.2.2.2.2.1,y.2.2.2.2.2.2.2.2.2.1,y.2.2.2.2.2.2.2.2.2.2.1,y.2.2.2.2.2.2.2.2.2.2.2.1,y.2.2.2.2.2.2.2.2.2.2.2.2.1,y.2.2.2.2.2.2.2.2.2.2.2.2.2.1,y.2.2.2.2.2.2.2.2.2.2.2.2.2.2.1,y.2.2.2.2.2.2.2.2.2.2.2.2.2.2.2.1]
def DZ(a lo hi f:Int):List Int:=bif decide (f=9)then lV (bq .i64 (bq .i32 lo))else bif decide (f=10)then lV (bq .i64 lo)else bif decide (f=13)then [bq .u8 a]else bif decide (f=14)then [0]else YY lo hi
def NL(a lo f:Int):Bool:=bif decide (f=9)then decide (lo<4294967296)else bif decide (f=10)then true else bif decide (f=13)then(bif decide (0<=a)then decide (a<256)else false)else true
theorem JU(a lo hi f:Int):(DZ a lo hi f).length<=16:=by
 unfold DZ
 have:=rz (bq .i64 (bq .i32 lo))
 have:=rz (bq .i64 lo)
 have h:(YY lo hi).length=16:=rfl
 cases decide (f=9)<;>cases decide (f=10)<;>cases decide (f=13)<;>cases decide (f=14)<;>simp only[cond_true,cond_false,List.length_cons,List.length_nil]<;>omega
abbrev t90:List Ty:=[.ae u8,i64,i64,i64,u64,u64,.ae i64,i64]
def e90:List (Nat×cR):=[(102,s81),(109,s88)]
theorem YZ{aq:aB}(W:World aq):db aq e90:=.cons (NK W) (.cons (NF W) .nil)
def s90:cR:=hU (Ps [.ow u8,pI,.n .i64]) [] (Ps [.tu (Ps [.ow u8,.bo])]) t90 [.ae u8,.bool] fun x=>
 .ck (decide (x.1.length+16<=1099511627776)) (.ok (x.1++DZ x.2.2.1 x.2.2.2.2.1 x.2.2.2.2.2.1 x.2.2.2.2.2.2.2.1,NL x.2.2.1 x.2.2.2.2.1 x.2.2.2.2.2.2.2.1,()))
abbrev r2(b:List Int)(o:Bool):Option (List Pl):=some (aA [.ae u8,.bool] (b,o,()))
theorem Y0(out:List Int)(o a b lo hi:Int)(l:List Int)(f:Int):(iN (Ps [.ow u8,pI,.n .i64]) [] (Ps [.tu (Ps [.ow u8,.bo])]) (fun _=>none) Tryz.YK 3 (dH e90 3) (aA t90 (out,o,a,b,lo,hi,l,f,()))).val=
 bif decide (f=9)then(bif (decide (-9223372036854775808<=bq .i64 (bq .i32 lo))&&decide (bq .i64 (bq .i32 lo)<9223372036854775808))then bif decide (lo=lo)then bif roomy 1 (out.length+(lV (bq .i64 (bq .i32 lo))).length)then bif decide (lo=lo)then r2 (app out (lV (bq .i64 (bq .i32 lo)))) (decide (lo<4294967296))else none else none else none else none)
 else bif decide (f=10)then(bif (decide (-9223372036854775808<=bq .i64 lo)&&decide (bq .i64 lo<9223372036854775808))then bif roomy 1 (out.length+(lV (bq .i64 lo)).length)then r2 (app out (lV (bq .i64 lo))) true else none else none)
 else bif decide (f=13)then(bif roomy 1 (out.length+[bq .u8 a].length)then bif decide (a=a)then bif decide (0<=a)then r2 (app out [bq .u8 a]) (decide (a<256))else r2 (app out [bq .u8 a]) false else none else none)
 else bif decide (f=14)then(bif roomy 1 (out.length+[(0:Int)].length)then r2 (app out [0]) true else none)
 else(bif roomy 1 (out.length+(YY lo hi).length)then r2 (app out (YY lo hi)) true else none):=by kernel_rfl
theorem Y1{aq:aB}(W:World aq):s90.Ok 111 aq:=by
 refine dF (W.in (YZ W) 3) (W.st 111 _ rfl) rfl (aE _) (m:=3) rfl ?_
 rintro⟨out,o,a,b,lo,hi,l,f,⟨⟩⟩ q h
 obtain⟨h1,h2⟩:=Lf.T.ba h
 cases h2
 rw[Y0]
 have h1:out.length+16<=1099511627776:=of_decide_eq_true h1
 have k1:=rz (bq .i64 (bq .i32 lo))
 have k2:=rz (bq .i64 lo)
 have k3:(YY lo hi).length=16:=rfl
 have c1:=H6 (bq .i32 lo)
 have c2:=H6 lo
 rw[bJ (n:=out.length+(lV (bq .i64 (bq .i32 lo))).length) (by omega) (by omega),bJ (n:=out.length+(lV (bq .i64 lo)).length) (by omega) (by omega),bJ (n:=out.length+[bq .u8 a].length) (by omega) (by simp;omega),
  bJ (n:=out.length+[(0:Int)].length) (by omega) (by simp;omega),bJ (n:=out.length+(YY lo hi).length) (by omega) (by omega),decide_eq_true c1.1,decide_eq_true c1.2,decide_eq_true c2.1,decide_eq_true c2.2]
 unfold DZ NL
 simp only[bp,Bool.and_self,cond_true,decide_true]
 cases decide (f=9)<;>cases decide (f=10)<;>cases decide (f=13)<;>cases decide (f=14)<;>cases decide (0<=a)<;>rfl
end Go.Proofs.Vd

noncomputable section
namespace Go.Proofs.Vd
open Go.Ab Go.Ab.Lf
set_option maxRecDepth 100000
abbrev pBI:jW:=.pt 0 (Ps [.n .i64,.n .i64,.n .i64,.n .u64,.n .u64,.im i64])
abbrev zU:List Ty:=[i64,i64,i64,u64,u64,.ae i64,.bool,.ae u8,.ae u8,.ae i64,i64,i64]
abbrev Te:List Ty:=[i64,i64,i64,u64,u64,.ae i64,.bool,.ae u8,.ae u8]
def Wb:jX:=⟨2,fE Tryz.x99.code 2,[1,5,6,7,101,102,103],Ps [pBI,.bo,.ow u8,.ow u8,.im i64,.n .i64,.n .i64],[⟨.lL,[1,5,6,7],Ps [pBI,.bo,.ow u8,.ow u8]⟩]⟩
def e80:List (Nat×cR):=[(88,s11),(82,s65),(108,s87),(109,s88),(110,s89),(111,s90)]
def wD(s:List Int×Bool)(x:Int):List Int×Bool:=(s.1++ju (bq .u64 x),bif s.2 then lG x else false)
def rA(s:List Int×Bool)(l:List Int):List Int×Bool:=l.foldl wD s
def g80:aj zU->T (Nat×List Pl):=fun x=>.ck (decide (x.2.2.2.2.2.2.2.2.2.2.1=(x.2.2.2.2.2.2.2.2.2.1.length:Int))&&(decide (x.2.2.2.2.2.2.2.2.2.2.2.1=0)&&decide (x.2.2.2.2.2.2.2.1.length+10*x.2.2.2.2.2.2.2.2.2.1.length<=1099511627776)))
 (.ok (0,aA Te (x.1,x.2.1,x.2.2.1,x.2.2.2.1,x.2.2.2.2.1,x.2.2.2.2.2.1,(rA (x.2.2.2.2.2.2.2.1,x.2.2.2.2.2.2.1) x.2.2.2.2.2.2.2.2.2.1).2,(rA (x.2.2.2.2.2.2.2.1,x.2.2.2.2.2.2.1) x.2.2.2.2.2.2.2.2.2.1).1,x.2.2.2.2.2.2.2.2.1,())))
def L80:Nat->Option fA:=pX [(2,pW Wb zU g80)]
theorem NM{aq:aB}(W:World aq):db aq e80:=.cons (NJ W) (.cons (NC W) (.cons (YW W) (.cons (NF W) (.cons (YX W) (.cons (Y1 W) .nil)))))
theorem NN(l:List Int): ∀ s:List Int×Bool,(rA s l).1.length<=s.1.length+10*l.length:=by
 induction l with
 |nil=>intro s;simp[rA]
 |cons x l ih=>
  intro s
  have:=ih (wD s x)
  have h:=kb (bq .u64 x)
  have e:rA s (x::l)=rA (wD s x) l:=rfl
  rw[e]
  have e2:(wD s x).1.length=s.1.length+(ju (bq .u64 x)).length:=by simp[wD]
  simp only[List.length_cons]
  omega
theorem D0(o a b lo hi:Int)(l:List Int)(k:Bool)(out al s:List Int)(n i:Int):(Wb.step (fun _=>none) (dH e80 3) 3 (aA zU (o,a,b,lo,hi,l,k,out,al,s,n,i,()))).val=
 bif decide (i<n)then(bif aU i (Int.ofNat s.length)then(bif (decide (0<=bq .u64 (s.getD i.toNat (ao i64)))&&decide (bq .u64 (s.getD i.toNat (ao i64))<18446744073709551616))then(bif roomy 1 (out.length+(ju (bq .u64 (s.getD i.toNat (ao i64)))).length)then
  (bif k then some (Rs.next (aA zU (o,a,b,lo,hi,l,lG (s.getD i.toNat (ao i64)),app out (ju (bq .u64 (s.getD i.toNat (ao i64)))),al,s,n,bw .i64 i 1,())))
  else some (Rs.next (aA zU (o,a,b,lo,hi,l,false,app out (ju (bq .u64 (s.getD i.toNat (ao i64)))),al,s,n,bw .i64 i 1,()))))else none)else none)else none)else some (Rs.out 0 (aA Te (o,a,b,lo,hi,l,k,out,al,()))):=by kernel_rfl
theorem Tf(o a b lo hi:Int)(l:List Int)(k:Bool)(out al s:List Int)(hs:out.length+10*s.length<=1099511627776):
 gG (Wb.step (fun _=>none) (dH e80 3) 3) (aA zU (o,a,b,lo,hi,l,k,out,al,s,(s.length:Int),0,())) 0 (aA Te (o,a,b,lo,hi,l,(rA (out,k) s).2,(rA (out,k) s).1,al,())):=by
 have:=JR (f:=Wb.step (fun _=>none) (dH e80 3) 3) (l:=s) (fun(q:List Int×Bool) j=>aA zU (o,a,b,lo,hi,l,q.2,q.1,al,s,(s.length:Int),(j:Int),())) (fun q x=>.inl (wD q x)) (fun q=>(0,aA Te (o,a,b,lo,hi,l,q.2,q.1,al,())))
  (fun q r=>q.1.length+10*r.length<=1099511627776) (fun q j x r h vw=>by
  obtain⟨out,k⟩:=q
  obtain⟨h1,h2⟩:=dr h (ao i64)
  simp only[List.length_cons]at vw
  have hr:s.length=j+1+r.length:=by have:=congrArg List.length h;simp at this;omega
  have hj:j<4611686018427387904:=by omega
  have hp:=kb (bq .u64 x)
  have c:=nA x
  have r1:roomy 1 (out.length+(ju (bq .u64 x)).length)=true:=bJ (by omega) (by omega)
  refine⟨?_,fun s' e=>?_⟩
  ·rw[D0,dX h1,cond_true,bX h1,cond_true,Int.toNat_natCast,h2,kE hj,decide_eq_true c.1,decide_eq_true c.2,r1,bp]
   unfold wD
   cases k<;>rfl
  ·cases e
   simp only[wD,List.length_append]
   omega) (fun q j h hj hi=>by
  have:j=s.length:=by have:=List.drop_eq_nil_iff.1 h;omega
  subst this
  rw[D0,dn (Nat.le_refl _)]
  rfl) s 0 (out,k) rfl (by omega) hs
 rw[fI]at this
 exact this
theorem Y2(x:aj zU)(k:Nat)(q:List Pl)(h:(g80 x).val=some (k,q)):gG (Wb.step (fun _=>none) (dH e80 3) 3) (aA zU x) k q:=by
 obtain⟨o,a,b,lo,hi,l,kk,out,al,s,n,i,⟨⟩⟩:=x
 obtain⟨h1,h2⟩:=Lf.T.ba h
 cases h2
 simp only[Bool.and_eq_true,decide_eq_true_eq]at h1
 obtain⟨b1,b2,b3⟩:=h1
 subst b1;subst b2
 exact Tf o a b lo hi l kk out al s b3
def aM{α:Type}(c:Bool)(x:Option α):Option α:=bif c then x else none
def u5{α:Type}(K:List Int->Bool->α)(p:List Int)(o a b lo hi:Int)(l:List Int):Option α:=
 let f:=(kG o).1
 let A:=ju (bq .u64 a)
 let B:=ju (bq .u64 b)
 let one:=[bq .u8 (bw .i64 a 128)]
 let ct:=aM (roomy 1 (p.length+one.length)) (some (K (app p one) true))
 let al:=aM (roomy 1 (p.length+A.length)) (aM (decide (a=a)) (some (K (app p A) (lG a))))
 let rg:=(decide (0<=bq .u64 b)&&decide (bq .u64 b<18446744073709551616))
 let two:=aM (roomy 1 (p.length+A.length)) (aM (decide (b=b)) (aM (decide (a=a)) (aM rg (aM (decide (a=a)) (aM (roomy 1 ((app p A).length+B.length)) (aM (decide (a=a)) (bif lG a then some (K (app (app p A) B) (lG b))else some (K (app (app p A) B) false))))))))
 let Y3:=ju (bq .u64 (Int.ofNat l.length))
 let tb:=rA (app p Y3,CE o) l
 bif decide (f=1)then some (K p true)
 else bif decide (f=2)then(bif decide (a= -64)then ct else bif decide (a= -1)then ct else bif decide (a= -2)then ct else bif decide (a= -5)then ct else
  aM (decide (-9223372036854775808<=a)&&decide (a<9223372036854775808)) (aM (decide (a=a)) (aM (roomy 1 (p.length+(lV a).length)) (aM (decide (a=a)) (some (K (app p (lV a)) (lG a)))))))
 else bif decide (f=3)then al else bif decide (f=5)then al
 else bif decide (f=4)then aM (decide (0<=bq .u64 (Int.ofNat l.length))&&decide (bq .u64 (Int.ofNat l.length)<18446744073709551616)) (aM (roomy 1 (p.length+Y3.length))
  (aM (decide ((Int.ofNat l.length)=Int.ofNat l.length)&&(decide ((0:Int)=0)&&decide ((app p Y3).length+10*l.length<=1099511627776))) (aM (roomy 1 (tb.1.length+A.length)) (bif tb.2 then some (K (app tb.1 A) (lG a))else some (K (app tb.1 A) false)))))
 else bif decide (f=6)then two else bif decide (f=7)then two
 else bif decide (f=8)then aM (roomy 1 (p.length+A.length)) (aM (decide (b=b)) (aM rg (aM (roomy 1 ((app p A).length+B.length)) (aM (roomy 1 ((app (app p A) B).length+[bq .u8 lo].length)) (aM (decide (a=a))
  (bif lG a then(bif lG b then some (K (app (app (app p A) B) [bq .u8 lo]) (decide (lo<256)))else some (K (app (app (app p A) B) [bq .u8 lo]) false))else some (K (app (app (app p A) B) [bq .u8 lo]) false)))))))
 else aM (decide (p.length+16<=1099511627776)) (some (K (p++DZ a lo hi f) (NL a lo f)))
abbrev k2(b:List Int)(o:Bool):List Pl:=aA [.ae u8,.bool] (b,o,())
def yU{α:Type}(K:List Int->Bool->α)(o a b lo hi:Int)(l:List Int):Option α:=
 let f:=(kG o).1
 let p:=app [253] (ju (bq .u64 (bQ .i64 o 64768)))
 let rga:=(decide (0<=bq .u64 a)&&decide (bq .u64 a<18446744073709551616))
 bif !CE o then some (K [] false)else bif !(DY (o,a,b,lo,hi,l,f,())).1 then some (K [] false)else
 bif decide (64768<=o)then aM (decide (0<=bq .u64 (bQ .i64 o 64768))&&decide (bq .u64 (bQ .i64 o 64768)<18446744073709551616)) (aM (roomy 1 ([(253:Int)].length+(ju (bq .u64 (bQ .i64 o 64768))).length)) (aM rga (u5 K p o a b lo hi l)))
 else aM rga (u5 K [bq .u8 o] o a b lo hi l)
abbrev t80:List Ty:=[i64,i64,i64,u64,u64,.ae i64]
theorem Y4(o a b lo hi:Int)(l:List Int):(iN (Ps [pI]) [] (Ps [.tu (Ps [.ow u8,.bo])]) L80 Tryz.x99 3 (dH e80 3) (aA t80 (o,a,b,lo,hi,l,()))).val=yU k2 o a b lo hi l:=by kernel_rfl
end Go.Proofs.Vd

noncomputable section
namespace Go.Proofs.Vd
open Go.Ab Go.Ab.Lf
set_option maxRecDepth 100000
def Gd(n:Nat)(F: ∀ α:Type,(List Int->Bool->α)->Option α):Prop:= ∃ B O,B.length<=n/\ ∀ α K,F α K=some (K B O)
theorem Gd.bif{n:Nat}{c:Bool}{F1 F2: ∀ α:Type,(List Int->Bool->α)->Option α}(h1:Gd n F1)(h2:Gd n F2):Gd n (fun α K=>bif c then F1 α K else F2 α K):=by
 cases c
 ·exact h2
 ·exact h1
theorem Gd.ck{n:Nat}{c:Bool}{F: ∀ α:Type,(List Int->Bool->α)->Option α}(h1:c=true)(h2:Gd n F):Gd n (fun α K=>aM c (F α K)):=by
 subst h1
 exact h2
theorem Gd.some{n:Nat}{B:List Int}{O:Bool}(h:B.length<=n):Gd n (fun _ K=>some (K B O)):=⟨B,O,h,fun _ _=>rfl⟩
theorem D2(p:List Int)(o a b lo hi:Int)(l:List Int)(hp:p.length<=11)(h1: -9223372036854775808<=a)(h2:a<9223372036854775808)(hl:10*l.length+100<=1099511627776):
 Gd (11+30+10*l.length) (fun _ K=>u5 K p o a b lo hi l):=by
 have cA:=kb (bq .u64 a)
 have cB:=kb (bq .u64 b)
 have cL:=kb (bq .u64 (Int.ofNat l.length))
 have cS:=rz a
 have cM:=NN l (p++ju (bq .u64 (Int.ofNat l.length)),CE o)
 have r1:=nA a
 have r2:=nA b
 have r3:=nA (Int.ofNat l.length)
 have cC:=JU a lo hi (kG o).1
 simp only[List.length_append]at cM
 dsimp only[u5]
 simp only[bp]
 refine(.bif (.some ?_) (.bif (.bif (.ck ?_ (.some ?_)) (.bif (.ck ?_ (.some ?_)) (.bif (.ck ?_ (.some ?_)) (.bif (.ck ?_ (.some ?_)) (.ck ?_ (.ck ?_ (.ck ?_ (.ck ?_ (.some ?_))))))))) (.bif (.ck ?_ (.ck ?_ (.some ?_))) (.bif (.ck ?_ (.ck ?_ (.some ?_))) (.bif (.ck ?_ (.ck ?_ (.ck ?_ (.ck ?_ (.bif (.some ?_) (.some ?_)))))) (.bif (.ck ?_ (.ck ?_ (.ck ?_ (.ck ?_ (.ck ?_ (.ck ?_ (.ck ?_ (.bif (.some ?_) (.some ?_))))))))) (.bif (.ck ?_ (.ck ?_ (.ck ?_ (.ck ?_ (.ck ?_ (.ck ?_ (.ck ?_ (.bif (.some ?_) (.some ?_))))))))) (.bif (.ck ?_ (.ck ?_ (.ck ?_ (.ck ?_ (.ck ?_ (.ck ?_ (.bif (.bif (.some ?_) (.some ?_)) (.some ?_)))))))) (.ck ?_ (.some ?_))))))))))
 all_goals try (with_reducible apply bJ)
 all_goals try simp only[Bool.and_eq_true,decide_eq_true_eq,List.length_append,List.length_cons,List.length_nil]
 all_goals first
  |omega
  |trivial
  |(refine⟨?_,?_,?_⟩<;>first|rfl|trivial|omega)
theorem NO(o a b lo hi:Int)(l:List Int)(h1: -9223372036854775808<=a)(h2:a<9223372036854775808)(hl:10*l.length+100<=1099511627776):
 Gd (11+30+10*l.length) (fun _ K=>yU K o a b lo hi l):=by
 have cO:=kb (bq .u64 (bQ .i64 o 64768))
 have r1:=nA a
 have r2:=nA (bQ .i64 o 64768)
 dsimp only[yU]
 simp only[bp]
 refine .bif (.some (by simp)) (.bif (.some (by simp)) (.bif (.ck ?_ (.ck ?_ (.ck ?_ (D2 _ o a b lo hi l ?_ h1 h2 hl)))) (.ck ?_ (D2 _ o a b lo hi l ?_ h1 h2 hl))))
 ·simp only[Bool.and_eq_true,decide_eq_true_eq];omega
 ·apply bJ
  ·omega
  ·simp only[List.length_cons,List.length_nil];omega
 ·simp only[Bool.and_eq_true,decide_eq_true_eq];omega
 ·simp only[List.length_append,List.length_cons,List.length_nil];omega
 ·simp only[Bool.and_eq_true,decide_eq_true_eq];omega
 ·simp
def iI(x:aj t80):List Int×Bool:=(yU Prod.mk x.1 x.2.1 x.2.2.1 x.2.2.2.1 x.2.2.2.2.1 x.2.2.2.2.2.1).getD ([],false)
def okI(x:aj t80):Bool:=(decide (-9223372036854775808<=x.2.1)&&decide (x.2.1<9223372036854775808))&&decide (10*x.2.2.2.2.2.1.length+100<=1099511627776)
def s80:cR:=hU (Ps [pI]) [] (Ps [.tu (Ps [.ow u8,.bo])]) t80 [.ae u8,.bool] fun x=>.ck (okI x) (.ok ((iI x).1,(iI x).2,()))
theorem xy{x:aj t80}(h:okI x=true):(iI x).1.length<=41+10*x.2.2.2.2.2.1.length/\ ∀ (α:Type) (K:List Int->Bool->α),yU K x.1 x.2.1 x.2.2.1 x.2.2.2.1 x.2.2.2.2.1 x.2.2.2.2.2.1=some (K (iI x).1 (iI x).2):=by
 simp only[okI,Bool.and_eq_true,decide_eq_true_eq]at h
 obtain⟨B,O,hB,hK⟩:=NO x.1 x.2.1 x.2.2.1 x.2.2.2.1 x.2.2.2.2.1 x.2.2.2.2.2.1 h.1.1 h.1.2 h.2
 have e:iI x=(B,O):=by unfold iI;exact congrArg (fun z=>z.getD ([],false)) (hK _ Prod.mk)
 rw[e]
 exact⟨hB,hK⟩
theorem Y5{aq:aB}(W:World aq):s80.Ok 99 aq:=by
 have hl:dZ Rx.w (pW Wb zU g80) (fun n d=>gD (aq n d) n (.bl 2 (.lp Wb.body))):=iG (W.in (NM W) 3) (aE _) (m:=3) Y2
 refine dF (W.in (NM W) 3) (W.st 99 _ rfl) rfl (L:=L80) (fq.jl (.cons (b:=Wb.body) (by kernel_rfl) hl .nil)) (m:=3) rfl ?_
 rintro⟨o,a,b,lo,hi,l,⟨⟩⟩ q h
 obtain⟨h1,h2⟩:=Lf.T.ba h
 cases h2
 rw[Y4]
 exact(xy h1).2 _ k2
end Go.Proofs.Vd

noncomputable section
namespace Go.Proofs.Vd
open Go.Ab Go.Ab.Lf
set_option maxRecDepth 100000
abbrev BZ:List Ty:=[.ae u8,.ae tI,i64,i64]
def Wc:jX:=⟨0,fE Tryz.x84.code 0,[4,12,13,14],Ps [.ow u8,.im tI,.n .i64,.n .i64],[⟨.lL,[4],Ps [.ow u8]⟩,⟨.rt,[2,3],Ps [.ow u8,.n .i64]⟩]⟩
def e67:List (Nat×cR):=[(98,s79),(99,s80)]
theorem NP{aq:aB}(W:World aq):db aq e67:=.cons (YQ W) (.cons (Y5 W) .nil)
def mI(x:den tI):aj t80:=(x.1,x.2.1,x.2.2.1,x.2.2.2.1,x.2.2.2.2.1,x.2.2.2.2.2,())
def yV(out:List Int)(x:den tI)(_:List (den tI)):List Int ⊕ Option (List Int):=bif (iI (mI x)).2 then .inl (out++(iI (mI x)).1)else .inr none
def qE(c:List (den tI))(out:List Int):Option (List Int):=gq yV some c out
def qL(c:List (den tI)):Nat:=c.foldr (fun x n=>41+10*x.2.2.2.2.2.length+n) 0
theorem yW(x:den tI)(c:List (den tI)):qL (x::c)=41+10*List.length x.2.2.2.2.2+qL c:=rfl
theorem Ia(c:List (den tI)):41*c.length<=qL c:=by
 induction c with
 |nil=>simp[qL]
 |cons x c ih=>rw[yW];simp only[List.length_cons];omega
def Gs(c:List (den tI)):Bool:=cu (fun x=>okI (mI x)) c
theorem jP{α:Type}{p:α->Bool}{x:α}{l:List α}(h:cu p (x::l)=true):p x=true/\cu p l=true:=by
 have h:(bif p x then cu p l else false)=true:=h
 cases q:p x with
 |true=>rw[q]at h;exact⟨rfl,h⟩
 |false=>rw[q]at h;cases h
def qw(c:List (den tI)):Bool:=Gs c&&decide (qL c<=1099511627776)
theorem D3(out:List Int)(c:List (den tI))(n i:Int):(Wc.step (fun _=>none) (dH e67 3) 3 (aA BZ (out,c,n,i,()))).val=
 bif decide (i<n)then bif aU i (Int.ofNat c.length)then bif okI (mI (c.getD i.toNat (ao tI)))then bif !(iI (mI (c.getD i.toNat (ao tI)))).2 then some (Rs.out 1 (aA [.ae u8,i64] ([],1,())))
  else bif roomy 1 (out.length+(iI (mI (c.getD i.toNat (ao tI)))).1.length)then some (Rs.next (aA BZ (app out (iI (mI (c.getD i.toNat (ao tI)))).1,c,n,bw .i64 i 1,())))else none else none else none else some (Rs.out 0 (aA [.ae u8] (out,()))):=by kernel_rfl
theorem NQ(c:List (den tI))(hc:Gs c=true): ∀ (out y:List Int),qE c out=some y->y.length<=out.length+qL c:=by
 induction c with
 |nil=>
  intro out y h
  cases h
  exact Nat.le_add_right _ _
 |cons x c ih=>
  intro out y h
  obtain⟨h1,h2⟩:=jP hc
  have hp:(iI (mI x)).1.length<=41+10*List.length x.2.2.2.2.2:=(xy h1).1
  have e:qE (x::c) out=(match yV out x c with| .inl s=>qE c s| .inr o=>o):=by
   show gq yV some (x::c) out=_
   rw[gq]
   cases yV out x c<;>rfl
  rw[e]at h
  unfold yV at h
  cases q:(iI (mI x)).2 with
  |true=>
   rw[q]at h
   have:=ih h2 _ _ h
   rw[yW]
   simp only[List.length_append]at this
   omega
  |false=>rw[q]at h;cases h
theorem Tg(out:List Int)(c:List (den tI))(hc:Gs c=true)(hs:out.length+qL c<=1099511627776):
 gG (Wc.step (fun _=>none) (dH e67 3) 3) (aA BZ (out,c,(c.length:Int),0,())) (match qE c out with|some _=>0|none=>1) (match qE c out with|some y=>aA [.ae u8] (y,())|none=>aA [.ae u8,i64] ([],1,())):=by
 have hl:=Ia c
 have:=SU (f:=Wc.step (fun _=>none) (dH e67 3) 3) (l:=c) (fun(out:List Int) j=>aA BZ (out,c,(c.length:Int),(j:Int),())) yV (fun q=>(some q:Option (List Int)))
  (fun o=>(match o with|some _=>0|none=>1,match o with|some y=>aA [.ae u8] (y,())|none=>aA [.ae u8,i64] ([],1,()))) (fun out r=>Gs r=true/\out.length+qL r<=1099511627776) (fun out j x r h hi=>by
  obtain⟨h1,h2⟩:=dr h (ao tI)
  obtain⟨k0,k3⟩:=hi
  obtain⟨k1,k2⟩:=jP k0
  have hr:c.length=j+1+r.length:=by have:=congrArg List.length h;simp at this;omega
  rw[yW]at k3
  have hp:(iI (mI x)).1.length<=41+10*List.length x.2.2.2.2.2:=(xy k1).1
  have hj:j<4611686018427387904:=by omega
  have hro:roomy 1 (out.length+(iI (mI x)).1.length)=true:=bJ (by omega) (by omega)
  refine⟨?_,fun s' e=>?_⟩
  ·rw[D3,dX h1,cond_true,bX h1,cond_true,Int.toNat_natCast,h2,kE hj,k1,hro,bp]
   unfold yV
   cases(iI (mI x)).2<;>rfl
  ·unfold yV at e
   cases q:(iI (mI x)).2 with
   |true=>rw[q]at e;cases e;refine⟨k2,?_⟩;rw[List.length_append];omega
   |false=>rw[q]at e;cases e) (fun q j h hj hi=>by
  have:j=c.length:=by have:=List.drop_eq_nil_iff.1 h;omega
  subst this
  rw[D3,dn (Nat.le_refl _)]
  rfl) c 0 out rfl (by omega) ⟨hc,hs⟩
 exact this
def g67:aj BZ->T (Nat×List Pl):=fun x=>.ck ((decide (x.1.length=0)&&qw x.2.1)&&(decide (x.2.2.1=(x.2.1.length:Int))&&decide (x.2.2.2.1=0)))
 (.br (qE x.2.1 []).isSome (.ok (0,aA [.ae u8] ((qE x.2.1 []).getD [],()))) (.ok (1,aA [.ae u8,i64] ([],1,()))))
theorem Y6(x:aj BZ)(k:Nat)(q:List Pl)(h:(g67 x).val=some (k,q)):gG (Wc.step (fun _=>none) (dH e67 3) 3) (aA BZ x) k q:=by
 obtain⟨out,c,n,i,⟨⟩⟩:=x
 obtain⟨h1,h2⟩:=Lf.T.ba h
 simp only[Bool.and_eq_true,decide_eq_true_eq,qw]at h1
 obtain⟨⟨b1,b2,b3⟩,b4,b5⟩:=h1
 have b1:=List.eq_nil_of_length_eq_zero b1
 subst b1;subst b4;subst b5
 have:=Tg [] c b2 (by simpa using b3)
 rw[Lf.T.dW]at h2
 cases hm:qE c []with
 |none=>rw[hm]at h2 this;cases h2;exact this
 |some y=>rw[hm]at h2 this;cases h2;exact this
def Gt(c:List (den tI)):Option (List Int):=bif iU c then qE c []else none
def p9(c:List (den tI)):List Int:=(Gt c).getD []
def oP(c:List (den tI)):Int:=bif (Gt c).isSome then 0 else 1
theorem D4(c:List (den tI))(hc:Gs c=true):(p9 c).length<=qL c:=by
 unfold p9 Gt
 cases iU c with
 |false=>exact Nat.zero_le _
 |true=>
  cases h:qE c []with
  |none=>simp
  |some y=>have:=NQ c hc _ _ h;simpa using this
def L67:Nat->Option fA:=pX [(0,pW Wc BZ g67)]
def s67:cR:=hU (Ps [.im tI]) [] (Ps [.tu (Ps [.ow u8,.n .i64])]) [.ae tI] [.ae u8,i64] fun x=>.ck (qw x.1) (.ok (p9 x.1,oP x.1,()))
theorem Y7(c:List (den tI)):(iN (Ps [.im tI]) [] (Ps [.tu (Ps [.ow u8,.n .i64])]) L67 Tryz.x84 3 (dH e67 3) (aA [.ae tI] (c,()))).val=
 bif decide (c.length<=1099511627776)then bif !iU c then some (aA [.ae u8,i64] ([],1,()))else bif (decide ((0:Nat)=0)&&qw c)&&(decide ((c.length:Int)=(c.length:Int))&&decide ((0:Int)=0))then
  bif (qE c []).isSome then some (aA [.ae u8,i64] ((qE c []).getD [],0,()))else some (aA [.ae u8,i64] ([],1,()))else none else none:=by kernel_rfl
theorem Y8{aq:aB}(W:World aq):s67.Ok 84 aq:=by
 have hl:dZ Rx.w (pW Wc BZ g67) (fun n d=>gD (aq n d) n (.bl 0 (.lp Wc.body))):=iG (W.in (NP W) 3) (aE _) (m:=3) Y6
 refine dF (W.in (NP W) 3) (W.st 84 _ rfl) rfl (L:=L67) (fq.jl (.cons (b:=Wc.body) (by kernel_rfl) hl .nil)) (m:=3) rfl ?_
 rintro⟨c,⟨⟩⟩ q h
 obtain⟨h1,h2⟩:=Lf.T.ba h
 cases h2
 have h1:qw c=true:=h1
 have hw:=Ia c
 have h3:qL c<=1099511627776:=by simp only[qw,Bool.and_eq_true,decide_eq_true_eq]at h1;exact h1.2
 have h4:c.length<=1099511627776:=by omega
 rw[Y7,decide_eq_true h4,h1]
 unfold p9 oP Gt
 cases iU c with
 |false=>rfl
 |true=>
  simp only[decide_true,Bool.and_self,cond_true,Bool.not_true,cond_false]
  cases qE c []<;>rfl
end Go.Proofs.Vd
