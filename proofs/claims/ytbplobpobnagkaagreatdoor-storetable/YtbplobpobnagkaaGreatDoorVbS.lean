import Derived.Test.YtbplobpobnagkaaGreatDoorLfJ
import Derived.Test.YtbplobpobnagkaaGreatDoorXbS
import Derived.KernelRfl
noncomputable section
namespace Go.Proofs
open Go.Ab Go.Ab.Lf
set_option maxRecDepth 100000
def Tryz.xs:Tr dE:=(.node (.node (.node (.node (.node (.node (.node .nil (some Tryz.x63) .nil) (some Tryz.x31) (.node .nil (some Tryz.x95) .nil)) (some Tryz.x15) (.node (.node .nil (some Tryz.x79) .nil) (some Tryz.x47) (.node .nil (some Tryz.Yk) .nil))) (some Tryz.x7) (.node (.node (.node .nil (some Tryz.x71) .nil) (some Tryz.x39) (.node .nil (some Tryz.SN) .nil)) (some Tryz.x23) (.node (.node .nil (some Tryz.x87) .nil) (some Tryz.x55) .nil))) (some Tryz.x3) (.node (.node (.node (.node .nil (some Tryz.x67) .nil) (some Tryz.x35) (.node .nil (some Tryz.x99) .nil)) (some Tryz.VJ) (.node (.node .nil (some Tryz.x83) .nil) (some Tryz.x51) .nil)) (some Tryz.x11) (.node (.node (.node .nil (some Tryz.x75) .nil) (some Tryz.x43) (.node .nil (some Tryz.Yj) .nil)) (some Tryz.x27) (.node (.node .nil (some Tryz.x91) .nil) (some Tryz.x59) .nil)))) none (.node (.node (.node (.node (.node .nil (some Tryz.x65) .nil) (some Tryz.x33) (.node .nil (some Tryz.x97) .nil)) (some Tryz.x17) (.node (.node .nil (some Tryz.x81) .nil) (some Tryz.x49) .nil)) (some Tryz.x9) (.node (.node (.node .nil (some Tryz.x73) .nil) (some Tryz.x41) (.node .nil (some Tryz.Yi) .nil)) (some Tryz.x25) (.node (.node .nil (some Tryz.x89) .nil) (some Tryz.x57) .nil))) none (.node (.node (.node (.node .nil (some Tryz.x69) .nil) (some Tryz.x37) (.node .nil (some Tryz.SM) .nil)) (some Tryz.x21) (.node (.node .nil (some Tryz.x85) .nil) (some Tryz.x53) .nil)) none (.node (.node (.node .nil (some Tryz.x77) .nil) (some Tryz.x45) (.node .nil (some Tryz.SQ) .nil)) none (.node (.node .nil (some Tryz.x93) .nil) (some Tryz.x61) .nil))))) none (.node (.node (.node (.node (.node (.node .nil (some Tryz.x64) .nil) (some Tryz.x32) (.node .nil (some Tryz.x96) .nil)) (some Tryz.x16) (.node (.node .nil (some Tryz.x80) .nil) (some Tryz.x48) (.node .nil (some Tryz.ac8) .nil))) (some Tryz.x8) (.node (.node (.node .nil (some Tryz.x72) .nil) (some Tryz.x40) (.node .nil (some Tryz.Yh) .nil)) (some Tryz.x24) (.node (.node .nil (some Tryz.x88) .nil) (some Tryz.x56) .nil))) none (.node (.node (.node (.node .nil (some Tryz.x68) .nil) (some Tryz.x36) (.node .nil (some Tryz.SL) .nil)) (some Tryz.x20) (.node (.node .nil (some Tryz.x84) .nil) (some Tryz.x52) .nil)) none (.node (.node (.node .nil (some Tryz.x76) .nil) (some Tryz.x44) (.node .nil (some Tryz.SP) .nil)) (some Tryz.x28) (.node (.node .nil (some Tryz.x92) .nil) (some Tryz.x60) .nil)))) none (.node (.node (.node (.node (.node .nil (some Tryz.x66) .nil) (some Tryz.x34) (.node .nil (some Tryz.x98) .nil)) (some Tryz.x18) (.node (.node .nil (some Tryz.x82) .nil) (some Tryz.x50) .nil)) (some Tryz.x10) (.node (.node (.node .nil (some Tryz.x74) .nil) (some Tryz.x42) (.node .nil (some Tryz.SO) .nil)) (some Tryz.x26) (.node (.node .nil (some Tryz.x90) .nil) (some Tryz.x58) .nil))) (some Tryz.x6) (.node (.node (.node (.node .nil (some Tryz.x70) .nil) (some Tryz.x38) (.node .nil (some Tryz.Yg) .nil)) (some Tryz.x22) (.node (.node .nil (some Tryz.x86) .nil) (some Tryz.x54) .nil)) none (.node (.node (.node .nil (some Tryz.x78) .nil) (some Tryz.x46) (.node .nil (some Tryz.ac7) .nil)) (some Tryz.x30) (.node (.node .nil (some Tryz.x94) .nil) (some Tryz.x62) .nil))))))
end Go.Proofs

noncomputable section
namespace Go.Proofs
open Go.Ab Go.Ab.Lf
set_option maxRecDepth 100000
def bkD:FuncId->Option dE:=fun f=>bif (Nat.beq f 6||Nat.beq f 83)then none else Tryz.xs.get f
end Go.Proofs

noncomputable section
namespace Go.Proofs.Vd
open Go.Ab Go.Ab.Lf
set_option maxRecDepth 100000
abbrev i64:Ty:=.int .i64
abbrev u64:Ty:=.int .u64
abbrev u8:Ty:=.int .u8
abbrev tI:Ty:=.pair i64 (.pair i64 (.pair i64 (.pair u64 (.pair u64 (.ae i64)))))
abbrev Ps(l:List jV):jV:=l.foldr .cons .nil
abbrev gY(g:Nat):jV:=.pt g (Ps [.ow u8,.bo])
def dH(l:List (Nat×cQ))(m:Nat):eK:=inl bkD (Yd l) m 12
structure World(aq:aB):Prop where
 st: ∀ f b,bkD f=some b->mO aq f b
theorem World.in{aq:aB}(W:World aq){l:List (Nat×cQ)}(h:dh aq l)(m:Nat):oz (dH l m) aq:=Ng W.st h.ok 12
theorem bP{b n:Nat}(hb:b<=64)(h:n<=1099511627776):roomy b n=true:=by
 rw[mz]
 refine⟨?_,by omega⟩
 calc n*b<=1099511627776*64:=Nat.mul_le_mul h hb
  _<=70368744177664:=by decide
def SS:cQ:=iy (Ps [gY 0,.bo]) [2] (Ps [.tu .nil,gY 2]) [.ae u8,.bool,.bool] [.ae u8,.bool] fun x=>.ok (x.1,x.2.1|| !x.2.2.1,())
def s31:cQ:=iy (Ps [gY 0,.im u8]) [2] (Ps [.tu .nil,gY 2]) [.ae u8,.bool,.ae u8] [.ae u8,.bool] fun x=>.ck (decide (x.1.length+x.2.2.1.length<=1099511627776)) (.ok (x.1++x.2.2.1,x.2.1,()))
theorem qX{aq:aB}(W:World aq):SS.Ok 43 aq:=by
 refine dF (W.in .nil 3) (W.st 43 _ rfl) rfl (aE _) (m:=3) rfl ?_
 rintro⟨b,x,y,⟨⟩⟩ q h
 cases h
 cases x<;>kernel_rfl
theorem F5{aq:aB}(W:World aq):s31.Ok 46 aq:=by
 refine dF (W.in .nil 3) (W.st 46 _ rfl) rfl (aE _) (m:=3) rfl ?_
 rintro⟨b,x,y,⟨⟩⟩ q h
 obtain⟨h1,h2⟩:=Lf.T.aY h
 cases h2
 have e:(je (Ps [gY 0,.im u8]) [2] (Ps [.tu .nil,gY 2]) (fun _=>none) Tryz.x46 3 (dH [] 3) (aA [.ae u8,.bool,.ae u8] (b,x,y,()))).val=bif roomy 1 (b.length+y.length)then some (aA [.ae u8,.bool] (app b y,x,()))else none:=by kernel_rfl
 rw[e,bP (by omega) (by simpa using h1),bp]
 rfl
def nP:Nat->Int->List Int
 |0,_=>[]
 |k+1,n=>if 128<=n then Mf .u8 (aV .u8 n) 128::nP k (rS .u64 n 7)else []
def uG:Nat->Int->Int
 |0,n=>n
 |k+1,n=>if 128<=n then uG k (rS .u64 n 7)else n
def js(n:Int):List Int:=nP 9 n++[aV .u8 (uG 9 n)]
theorem yr: ∀ (k:Nat) (n:Int),(nP k n).length<=k
 |0,_=>Nat.le_refl _
 |k+1,n=>by
  unfold nP
  split
  ·have:=yr k (rS .u64 n 7);simp;omega
  ·simp
theorem j9(n:Int):(js n).length<=10:=by have:=yr 9 n;unfold js;simp;omega
abbrev t65:List Ty:=[.ae u8,u64,.ae u64,i64,i64]
def Yl:jW:=⟨2,fI Tryz.x82.code 2,[3,5,6,7,8],Ps [.ow u8,.n .u64,.im u64,.n .i64,.n .i64],[⟨.lL,[3,5,6,7,8],Ps [.ow u8,.n .u64,.im u64,.n .i64,.n .i64]⟩]⟩
theorem yt(o:List Int)(n:Int)(l:List Int)(a i:Int):Yl.step (fun _=>none) (dH [] 3) 3 (aA t65 (o,n,l,a,i,()))=
 .br (decide (128<=n)) (.ck (roomy 1 (o.length+1)) (.ok (.next (aA t65 (app o [Mf .u8 (aV .u8 n) 128],rS .u64 n 7,l,a,i,()))))) (.ok (.out 0 (aA t65 (o,n,l,a,i,())))):=by kernel_rfl
theorem aiQ(n:Int):rS .u64 n 7=n.fdiv 128:=rfl
theorem HO: ∀ (k:Nat) (o:List Int) (n:Int) (l:List Int) (a i:Int),0<=n->n<128 ^ (k+1)->o.length+k<=1099511627776->
 gQ (Yl.step (fun _=>none) (dH [] 3) 3) (aA t65 (o,n,l,a,i,())) 0 (aA t65 (o++nP k n,uG k n,l,a,i,()))
 |0,o,n,l,a,i,h0,h1,h2=>by
  refine .last ?_
  rw[yt,Lf.T.dX]
  have:decide (128<=n)=false:=decide_eq_false (by omega)
  rw[this]
  simp[nP,uG,Lf.T.pN]
 |k+1,o,n,l,a,i,h0,h1,h2=>by
  by_cases hn:128<=n
  ·have hs:rS .u64 n 7=n / 128:=by rw[aiQ,Int.fdiv_eq_ediv_of_nonneg _ (by omega)]
   have ih:=HO k (o++[Mf .u8 (aV .u8 n) 128]) (n / 128) l a i (by omega) (by
    rw[Int.pow_succ]at h1
    exact Int.ediv_lt_of_lt_mul (by omega) h1) (by simp;omega)
   refine .more (pl':=aA t65 (o++[Mf .u8 (aV .u8 n) 128],n / 128,l,a,i,())) ?_ ?_
   ·rw[yt,Lf.T.dX,decide_eq_true hn,cond_true,Lf.T.j5,bP (by omega) (by omega),bp,hs]
    rfl
   ·have e1:nP (k+1) n=Mf .u8 (aV .u8 n) 128::nP k (n / 128):=by rw[<-hs];exact if_pos hn
    have e2:uG (k+1) n=uG k (n / 128):=by rw[<-hs];exact if_pos hn
    rw[e1,e2]
    simpa using ih
  ·refine .last ?_
   rw[yt,Lf.T.dX,decide_eq_false hn]
   have e1:nP (k+1) n=[]:=if_neg hn
   have e2:uG (k+1) n=n:=if_neg hn
   rw[e1,e2,List.append_nil]
   rfl
def g65:ak t65->T (Nat×List Pl):=fun x=>.ck ((decide (0<=x.2.1)&&decide (x.2.1<18446744073709551616))&&decide (x.1.length+10<=1099511627776)) (.ok (0,aA t65 (x.1++nP 9 x.2.1,uG 9 x.2.1,x.2.2.1,x.2.2.2.1,x.2.2.2.2.1,())))
def s65:cQ:=iy (Ps [.im u64]) [] (Ps [.ow u8]) [.ae u64] [.ae u8] fun x=>match x.1 with
 | [n]=>.ck (decide (0<=n)&&decide (n<18446744073709551616)) (.ok (js n,()))
 | _=>.bad
theorem Nj{aq:aB}(W:World aq):s65.Ok 82 aq:=by
 have hl:ed Rx.w (pO Yl t65 g65) (fun n d=>gG (aq n d) n (.bl 2 (.lp Yl.body))):=by
  refine iI (W.in .nil 3) (aE _) (m:=3) ?_
  rintro⟨o,n,l,a,i,⟨⟩⟩ k q h
  obtain⟨h1,h2⟩:=Lf.T.aY h
  cases h2
  simp only[Bool.and_eq_true,decide_eq_true_eq]at h1
  exact HO 9 o n l a i h1.1.1 (Int.lt_trans h1.1.2 (by decide)) (by omega)
 refine dF (W.in .nil 3) (W.st 82 _ rfl) rfl (L:=pP [(2,pO Yl t65 g65)]) (fq.jm (.cons (b:=Yl.body) (by kernel_rfl) hl .nil)) (m:=3) rfl ?_
 rintro⟨l,⟨⟩⟩ q h
 change (match l with| [n]=>(.ck (decide (0<=n)&&decide (n<18446744073709551616)) (.ok (js n,())):T (ak [.ae u8]))| _=>.bad).val=some q at h
 split at h
 ·rename_i n
  obtain⟨h1,h2⟩:=Lf.T.aY h
  cases h2
  have e:(je (Ps [.im u64]) [] (Ps [.ow u8]) (pP [(2,pO Yl t65 g65)]) Tryz.x82 3 (dH [] 3) (aA [.ae u64] ([n],()))).val=
   bif (decide (0<=n)&&decide (n<18446744073709551616))&&true then(bif roomy 1 ((nP 9 n).length+1)then some (aA [.ae u8] (app (nP 9 n) [aV .u8 (uG 9 n)],()))else none)else none:=by kernel_rfl
  rw[e,h1,bP (by omega) (by have:=yr 9 n;omega),bp]
  rfl
 ·cases h
end Go.Proofs.Vd

noncomputable section
namespace Go.Proofs.Vd
open Go.Ab Go.Ab.Lf
set_option maxRecDepth 100000
def uH(s:List Int×Bool)(n:Int):List Int×Bool:=(s.1++js (aV .u64 n),s.2|| !(decide (0<=n)&&decide (n<4294967296)))
def cz(s:List Int×Bool)(l:List Int):List Int×Bool:=l.foldl uH s
abbrev t32:List Ty:=[.ae u8,.bool,.ae i64,i64,i64]
abbrev P32:jV:=Ps [gY 2,.im i64,.n .i64,.n .i64]
def VK:jW:=⟨0,fI Tryz.x47.code 0,[0,6,7,8],P32,[⟨.lL,[0,6,7,8],P32⟩]⟩
def e32:List (Nat×cQ):=[(43,SS),(82,s65)]
theorem Ym{aq:aB}(W:World aq):dh aq e32:=.cons (qX W) (.cons (Nj W) .nil)
theorem DC(b:List Int)(bad:Bool)(l:List Int)(n i:Int):VK.step (fun _=>none) (dH e32 3) 3 (aA t32 (b,bad,l,n,i,()))=
 .br (decide (i<n)) (.ck (bg i (Int.ofNat l.length)) (let x:=l.getD i.toNat (ao i64)
  .br (decide (0<=x)) (.ck (decide (0<=aV .u64 x)&&decide (aV .u64 x<18446744073709551616)) (.ck (roomy 1 (b.length+(js (aV .u64 x)).length)) (.ok (.next (aA t32 (app b (js (aV .u64 x)),bad|| !decide (x<4294967296),l,n,cf .i64 i 1,()))))))
   (.ck (decide (0<=aV .u64 x)&&decide (aV .u64 x<18446744073709551616)) (.ck (roomy 1 (b.length+(js (aV .u64 x)).length)) (.ok (.next (aA t32 (app b (js (aV .u64 x)),bad|| !false,l,n,cf .i64 i 1,()))))))))
  (.ok (.out 0 (aA t32 (b,bad,l,n,i,())))):=by kernel_rfl
theorem SU(l:List Int)(b:List Int)(bad:Bool)(hl:b.length+10*l.length<=1099511627776):
 gQ (VK.step (fun _=>none) (dH e32 3) 3) (aA t32 (b,bad,l,(l.length:Int),0,())) 0 (aA t32 ((cz (b,bad) l).1,(cz (b,bad) l).2,l,(l.length:Int),(l.length:Int),())):=by
 have:=JE (f:=VK.step (fun _=>none) (dH e32 3) 3) (l:=l) (fun(s:List Int×Bool) j=>aA t32 (s.1,s.2,l,(l.length:Int),(j:Int),())) (fun s x=>.inl (uH s x)) (fun s=>(0,aA t32 (s.1,s.2,l,(l.length:Int),(l.length:Int),()))) (fun s r=>s.1.length+10*r.length<=1099511627776) (fun s j x r h hi=>by
  obtain⟨b,bad⟩:=s
  obtain⟨h1,h2⟩:=dn h (ao i64)
  have hp:=j9 (aV .u64 x)
  simp only[List.length_cons]at hi
  refine⟨?_,fun s' e=>by cases e;simp only[uH,List.length_append];omega⟩
  have hj:j<4611686018427387904:=by omega
  rw[DC,Lf.T.dX,dY h1,cond_true,Lf.T.j5,bZ h1,cond_true,Int.toNat_natCast,h2,kA hj]
  simp only[Lf.T.dX,Lf.T.j5,(nv x).1,(nv x).2,decide_true,Bool.and_true,cond_true,bP (b:=1) (n:=b.length+(js (aV .u64 x)).length) (by omega) (by omega),bp]
  unfold uH
  by_cases hx:0<=x
  ·simp[hx,zn,Lf.T.pN]
  ·simp[hx,zn,Lf.T.pN]) (fun s j h hj hi=>by
  have:j=l.length:=by have:=List.drop_eq_nil_iff.1 h;omega
  subst this
  rw[DC,Lf.T.dX,dj (Nat.le_refl _)]
  rfl) l 0 (b,bad) rfl (by omega) hl
 rw[fM]at this
 exact this
def g32:ak t32->T (Nat×List Pl):=fun x=>.ck (decide (x.2.2.2.1=(x.2.2.1.length:Int))&&(decide (x.2.2.2.2.1=0)&&decide (x.1.length+10*x.2.2.1.length<=1099511627776)))
 (.ok (0,aA t32 ((cz (x.1,x.2.1) x.2.2.1).1,(cz (x.1,x.2.1) x.2.2.1).2,x.2.2.1,(x.2.2.1.length:Int),(x.2.2.1.length:Int),())))
def s32:cQ:=iy (Ps [gY 0,.im i64]) [2] (Ps [.tu .nil,gY 2]) [.ae u8,.bool,.ae i64] [.ae u8,.bool] fun x=>.ck (decide (x.1.length+10*x.2.2.1.length<=1099511627776)) (.ok ((cz (x.1,x.2.1) x.2.2.1).1,(cz (x.1,x.2.1) x.2.2.1).2,()))
theorem yu{aq:aB}(W:World aq):s32.Ok 47 aq:=by
 have C:=W.in (Ym W) 3
 have hl:ed Rx.w (pO VK t32 g32) (fun n d=>gG (aq n d) n (.bl 0 (.lp VK.body))):=by
  refine iI C (aE _) (m:=3) ?_
  rintro⟨b,bad,l,n,i,⟨⟩⟩ k q h
  obtain⟨h1,h2⟩:=Lf.T.aY h
  cases h2
  simp only[Bool.and_eq_true,decide_eq_true_eq]at h1
  obtain⟨rfl,rfl,h3⟩:=h1
  exact SU l b bad h3
 refine dF C (W.st 47 _ rfl) rfl (L:=pP [(0,pO VK t32 g32)]) (fq.jm (.cons (b:=VK.body) (by kernel_rfl) hl .nil)) (m:=3) rfl ?_
 rintro⟨b,bad,l,⟨⟩⟩ q h
 obtain⟨h1,h2⟩:=Lf.T.aY h
 cases h2
 have e:(je (Ps [gY 0,.im i64]) [2] (Ps [.tu .nil,gY 2]) (pP [(0,pO VK t32 g32)]) Tryz.x47 3 (dH e32 3) (aA [.ae u8,.bool,.ae i64] (b,bad,l,()))).val=
  bif (decide ((l.length:Int)=(l.length:Int))&&(decide ((0:Int)=0)&&decide (b.length+10*l.length<=1099511627776)))then some (aA [.ae u8,.bool] ((cz (b,bad) l).1,(cz (b,bad) l).2,()))else none:=by kernel_rfl
 have n5:decide (b.length+10*l.length<=1099511627776)=true:=h1
 rw[e,n5]
 simp
end Go.Proofs.Vd

noncomputable section
namespace Go.Proofs.Vd
open Go.Ab Go.Ab.Lf
set_option maxRecDepth 100000
def pT(s:List Int×Bool)(t:Int):List Int×Bool:=(s.1++[aV .u8 t],s.2|| !(decide (t=127)||(decide (t=126)||decide (t=123))))
def fv(s:List Int×Bool)(l:List Int):List Int×Bool:=l.foldl pT s
def VL:jW:=⟨0,fI Tryz.x48.code 0,[0,6,7,8],P32,[⟨.lL,[0,6,7,8],P32⟩]⟩
def e33:List (Nat×cQ):=[(43,SS),(46,s31)]
theorem Yn{aq:aB}(W:World aq):dh aq e33:=.cons (qX W) (.cons (F5 W) .nil)
theorem DD(b:List Int)(bad:Bool)(l:List Int)(n i:Int):VL.step (fun _=>none) (dH e33 3) 3 (aA t32 (b,bad,l,n,i,()))=
 .br (decide (i<n)) (.ck (bg i (Int.ofNat l.length)) (let x:=l.getD i.toNat (ao i64)
  let r:=fun c=>T.ck (decide (b.length+[aV .u8 x].length<=1099511627776)) (T.ok (Rs.next (aA t32 (b++[aV .u8 x],bad|| !c,l,n,cf .i64 i 1,()))))
  .br (decide (x=127)) (r true) (.br (decide (x=126)) (r true) (r (decide (x=123))))))
  (.ok (.out 0 (aA t32 (b,bad,l,n,i,())))):=by kernel_rfl
theorem SW(l:List Int)(b:List Int)(bad:Bool)(hl:b.length+l.length<=1099511627776):
 gQ (VL.step (fun _=>none) (dH e33 3) 3) (aA t32 (b,bad,l,(l.length:Int),0,())) 0 (aA t32 ((fv (b,bad) l).1,(fv (b,bad) l).2,l,(l.length:Int),(l.length:Int),())):=by
 have:=JE (f:=VL.step (fun _=>none) (dH e33 3) 3) (l:=l) (fun(s:List Int×Bool) j=>aA t32 (s.1,s.2,l,(l.length:Int),(j:Int),())) (fun s x=>.inl (pT s x)) (fun s=>(0,aA t32 (s.1,s.2,l,(l.length:Int),(l.length:Int),()))) (fun s r=>s.1.length+r.length<=1099511627776) (fun s j x r h hi=>by
  obtain⟨b,bad⟩:=s
  obtain⟨h1,h2⟩:=dn h (ao i64)
  simp only[List.length_cons]at hi
  refine⟨?_,fun s' e=>by cases e;simp[pT];omega⟩
  have hj:j<4611686018427387904:=by omega
  rw[DD,Lf.T.dX,dY h1,cond_true,Lf.T.j5,bZ h1,cond_true,Int.toNat_natCast,h2,kA hj]
  have hb:b.length+1<=1099511627776:=by omega
  unfold pT
  by_cases h3:x=127
  ·simp[h3,zn,Lf.T.pN,Lf.T.dX,Lf.T.j5,hb]
  ·by_cases h4:x=126
   ·simp[h4,zn,Lf.T.pN,Lf.T.dX,Lf.T.j5,hb]
   ·simp[h3,h4,zn,Lf.T.pN,Lf.T.dX,Lf.T.j5,hb]) (fun s j h hj hi=>by
  have:j=l.length:=by have:=List.drop_eq_nil_iff.1 h;omega
  subst this
  rw[DD,Lf.T.dX,dj (Nat.le_refl _)]
  rfl) l 0 (b,bad) rfl (by omega) hl
 rw[fM]at this
 exact this
def g33:ak t32->T (Nat×List Pl):=fun x=>.ck (decide (x.2.2.2.1=(x.2.2.1.length:Int))&&(decide (x.2.2.2.2.1=0)&&decide (x.1.length+x.2.2.1.length<=1099511627776)))
 (.ok (0,aA t32 ((fv (x.1,x.2.1) x.2.2.1).1,(fv (x.1,x.2.1) x.2.2.1).2,x.2.2.1,(x.2.2.1.length:Int),(x.2.2.1.length:Int),())))
def s33:cQ:=iy (Ps [gY 0,.im i64]) [2] (Ps [.tu .nil,gY 2]) [.ae u8,.bool,.ae i64] [.ae u8,.bool] fun x=>.ck (decide (x.1.length+x.2.2.1.length<=1099511627776)) (.ok ((fv (x.1,x.2.1) x.2.2.1).1,(fv (x.1,x.2.1) x.2.2.1).2,()))
theorem Nk{aq:aB}(W:World aq):s33.Ok 48 aq:=by
 have C:=W.in (Yn W) 3
 have hl:ed Rx.w (pO VL t32 g33) (fun n d=>gG (aq n d) n (.bl 0 (.lp VL.body))):=by
  refine iI C (aE _) (m:=3) ?_
  rintro⟨b,bad,l,n,i,⟨⟩⟩ k q h
  obtain⟨h1,h2⟩:=Lf.T.aY h
  cases h2
  simp only[Bool.and_eq_true,decide_eq_true_eq]at h1
  obtain⟨rfl,rfl,h3⟩:=h1
  exact SW l b bad h3
 refine dF C (W.st 48 _ rfl) rfl (L:=pP [(0,pO VL t32 g33)]) (fq.jm (.cons (b:=VL.body) (by kernel_rfl) hl .nil)) (m:=3) rfl ?_
 rintro⟨b,bad,l,⟨⟩⟩ q h
 obtain⟨h1,h2⟩:=Lf.T.aY h
 cases h2
 have e:(je (Ps [gY 0,.im i64]) [2] (Ps [.tu .nil,gY 2]) (pP [(0,pO VL t32 g33)]) Tryz.x48 3 (dH e33 3) (aA [.ae u8,.bool,.ae i64] (b,bad,l,()))).val=
  bif (decide ((l.length:Int)=(l.length:Int))&&(decide ((0:Int)=0)&&decide (b.length+l.length<=1099511627776)))then some (aA [.ae u8,.bool] ((fv (b,bad) l).1,(fv (b,bad) l).2,()))else none:=by kernel_rfl
 have n5:decide (b.length+l.length<=1099511627776)=true:=h1
 rw[e,n5]
 simp
def wy:Nat->Int->List Int
 |0,_=>[]
 |k+1,n=>if n< -64∨63<n then Mf .u8 (aV .u8 n) 128::wy k (rS .i64 n 7)else []
def uI:Nat->Int->Int
 |0,n=>n
 |k+1,n=>if n< -64∨63<n then uI k (rS .i64 n 7)else n
def lU(n:Int):List Int:=wy 9 n++[aV .u8 (Xn .i64 (uI 9 n) 127)]
theorem yv: ∀ (k:Nat) (n:Int),(wy k n).length<=k
 |0,_=>Nat.le_refl _
 |k+1,n=>by
  unfold wy
  split
  ·have:=yv k (rS .i64 n 7);simp;omega
  ·simp
theorem qY(n:Int):(lU n).length<=10:=by have:=yv 9 n;unfold lU;simp;omega
abbrev t88:List Ty:=[.ae u8,i64,.ae i64,i64,i64]
abbrev P88:jV:=Ps [.ow u8,.n .i64,.im i64,.n .i64,.n .i64]
def Yo:jW:=⟨2,fI Tryz.SQ.code 2,[3,5,6,7,8],P88,[⟨.lL,[3,5,6,7,8],P88⟩]⟩
theorem yw(o:List Int)(n:Int)(l:List Int)(a i:Int):Yo.step (fun _=>none) (dH [] 3) 3 (aA t88 (o,n,l,a,i,()))=
 .br (bif decide (n< -64)then true else decide (63<n)) (.ck (roomy 1 (o.length+1)) (.ok (.next (aA t88 (app o [Mf .u8 (aV .u8 n) 128],rS .i64 n 7,l,a,i,()))))) (.ok (.out 0 (aA t88 (o,n,l,a,i,())))):=by kernel_rfl
theorem ada(n:Int):rS .i64 n 7=n.fdiv 128:=rfl
theorem HP: ∀ (k:Nat) (o:List Int) (n:Int) (l:List Int) (a i:Int),-64*128 ^ k<=n->n<64*128 ^ k->o.length+k<=1099511627776->
 gQ (Yo.step (fun _=>none) (dH [] 3) 3) (aA t88 (o,n,l,a,i,())) 0 (aA t88 (o++wy k n,uI k n,l,a,i,()))
 |0,o,n,l,a,i,h0,h1,h2=>by
  refine .last ?_
  rw[yw,Lf.T.dX]
  have e1:decide (n< -64)=false:=decide_eq_false (by omega)
  have e2:decide (63<n)=false:=decide_eq_false (by omega)
  rw[e1,e2]
  simp[wy,uI,Lf.T.pN]
 |k+1,o,n,l,a,i,h0,h1,h2=>by
  by_cases hn:n< -64∨63<n
  ·have hs:rS .i64 n 7=n / 128:=by rw[ada,Int.fdiv_eq_ediv_of_nonneg _ (by omega)]
   rw[Int.pow_succ]at h0 h1
   have ih:=HP k (o++[Mf .u8 (aV .u8 n) 128]) (n / 128) l a i (by omega) (by omega) (by simp;omega)
   refine .more (pl':=aA t88 (o++[Mf .u8 (aV .u8 n) 128],n / 128,l,a,i,())) ?_ ?_
   ·have hc:(bif decide (n< -64)then true else decide (63<n))=true:=by
     rcases hn with h|h
     ·simp[h]
     ·by_cases q:n< -64<;>simp[q,h]
    rw[yw,Lf.T.dX,hc,cond_true,Lf.T.j5,bP (by omega) (by omega),bp,hs]
    rfl
   ·have e1:wy (k+1) n=Mf .u8 (aV .u8 n) 128::wy k (n / 128):=by rw[<-hs];exact if_pos hn
    have e2:uI (k+1) n=uI k (n / 128):=by rw[<-hs];exact if_pos hn
    rw[e1,e2]
    simpa using ih
  ·refine .last ?_
   have e1:decide (n< -64)=false:=decide_eq_false (by omega)
   have e2:decide (63<n)=false:=decide_eq_false (by omega)
   rw[yw,Lf.T.dX,e1,e2]
   have e1:wy (k+1) n=[]:=if_neg hn
   have e2:uI (k+1) n=n:=if_neg hn
   rw[e1,e2,List.append_nil]
   rfl
def g88:ak t88->T (Nat×List Pl):=fun x=>.ck ((decide (-9223372036854775808<=x.2.1)&&decide (x.2.1<9223372036854775808))&&decide (x.1.length+10<=1099511627776)) (.ok (0,aA t88 (x.1++wy 9 x.2.1,uI 9 x.2.1,x.2.2.1,x.2.2.2.1,x.2.2.2.2.1,())))
def s88:cQ:=iy (Ps [.im i64]) [] (Ps [.ow u8]) [.ae i64] [.ae u8] fun x=>match x.1 with
 | [n]=>.ck (decide (-9223372036854775808<=n)&&decide (n<9223372036854775808)) (.ok (lU n,()))
 | _=>.bad
theorem Nl{aq:aB}(W:World aq):s88.Ok 109 aq:=by
 have hl:ed Rx.w (pO Yo t88 g88) (fun n d=>gG (aq n d) n (.bl 2 (.lp Yo.body))):=by
  refine iI (W.in .nil 3) (aE _) (m:=3) ?_
  rintro⟨o,n,l,a,i,⟨⟩⟩ k q h
  obtain⟨h1,h2⟩:=Lf.T.aY h
  cases h2
  simp only[Bool.and_eq_true,decide_eq_true_eq]at h1
  exact HP 9 o n l a i (Int.le_trans (by decide) h1.1.1) (Int.lt_trans h1.1.2 (by decide)) (by omega)
 refine dF (W.in .nil 3) (W.st 109 _ rfl) rfl (L:=pP [(2,pO Yo t88 g88)]) (fq.jm (.cons (b:=Yo.body) (by kernel_rfl) hl .nil)) (m:=3) rfl ?_
 rintro⟨l,⟨⟩⟩ q h
 change (match l with| [n]=>(.ck (decide (-9223372036854775808<=n)&&decide (n<9223372036854775808)) (.ok (lU n,())):T (ak [.ae u8]))| _=>.bad).val=some q at h
 split at h
 ·rename_i n
  obtain⟨h1,h2⟩:=Lf.T.aY h
  cases h2
  have e:(je (Ps [.im i64]) [] (Ps [.ow u8]) (pP [(2,pO Yo t88 g88)]) Tryz.SQ 3 (dH [] 3) (aA [.ae i64] ([n],()))).val=
   bif (decide (-9223372036854775808<=n)&&decide (n<9223372036854775808))&&true then(bif roomy 1 ((wy 9 n).length+1)then some (aA [.ae u8] (app (wy 9 n) [aV .u8 (Xn .i64 (uI 9 n) 127)],()))else none)else none:=by kernel_rfl
  rw[e,h1,bP (by omega) (by have:=yv 9 n;omega),bp]
  rfl
 ·cases h
end Go.Proofs.Vd

noncomputable section
namespace Go.Proofs.Vd
open Go.Ab Go.Ab.Lf
set_option maxRecDepth 100000
def yx(op:List Int)(x:den tI)(r:List (den tI)):List Int ⊕ Option Bool:=
 if x.1=2∨x.1=3∨x.1=4 then(if op.length=128 then .inr (some false)else .inl (op++[x.1]))
 else if x.1=5 then(if op.length=0∨ ¬ op.getD (op.length - 1) 0=4 then .inr (some false)else .inl (op.set (op.length - 1) 5))
 else if x.1=11 then(if op.length=0 then .inr (some (decide (r.length=0)))else .inl (op.take (op.length - 1)))
 else .inl op
def DE(c:List (den tI)):Option Bool:=gq yx (fun _=>none) c []
def iW(c:List (den tI)):Bool:=(DE c).getD false
abbrev t79:List Ty:=[.ae tI,.ae i64,.ae tI,i64,i64]
def SX:jW:=⟨0,fI Tryz.x98.code 0,[0,3,7,8,9],Ps [.im tI,.ow i64,.im tI,.n .i64,.n .i64],[⟨.lL,[0],.cons (.im tI) .nil⟩,⟨.rt,[2],.cons .bo .nil⟩]⟩
theorem DF(c0 c:List (den tI))(op:List Int)(n i:Int):SX.step (fun _=>none) (dH [] 3) 3 (aA t79 (c0,op,c,n,i,()))=
 .br (decide (i<n)) (.ck (bg i (Int.ofNat c.length)) (let x:Int:=(c.getD i.toNat (ao tI)).1
  let nx:=fun(q:List Int)=>T.ok (Rs.next (aA t79 (c0,q,c,n,cf .i64 i 1,())))
  let fl:=T.ok (Rs.out 1 (aA [.bool] (false,())))
  let opn:=T.br (decide (Int.ofNat op.length=128)) fl (.ck (roomy 8 (op.length+1)) (nx (app op [x])))
  let at':=bO .i64 (Int.ofNat op.length) 1
  .br (decide (x=2)) opn (.br (decide (x=3)) opn (.br (decide (x=4)) opn
   (.br (decide (x=5)) (.ck (bif decide (Int.ofNat op.length=0)then true else bg at' (Int.ofNat op.length))
     (.br (bif decide (Int.ofNat op.length=0)then true else !decide (op.getD at'.toNat (ao i64)=4)) fl (.ck (bg at' (Int.ofNat op.length)) (nx (op.set at'.toNat 5)))))
    (.br (decide (x=11)) (.br (decide (Int.ofNat op.length=0)) (T.ok (Rs.out 1 (aA [.bool] (decide (i=bO .i64 (Int.ofNat c0.length) 1),())))) (.ck (eL 0 at' (Int.ofNat op.length)) (nx ((op.drop 0).take (at'.toNat - 0)))))
     (nx op)))))))
  (.ok (.out 0 (aA [.ae tI] (c0,())))):=by kernel_rfl
theorem SY(c0 c:List (den tI))(h0:c0.length=c.length)(hc:c.length<=1099511627776):
 gQ (SX.step (fun _=>none) (dH [] 3) 3) (aA t79 (c0,[],c,(c.length:Int),0,())) (match DE c with|none=>0|some _=>1) (match DE c with|none=>aA [.ae tI] (c0,())|some b=>aA [.bool] (b,())):=by
 have:=SK (f:=SX.step (fun _=>none) (dH [] 3) 3) (l:=c) (fun(op:List Int) j=>aA t79 (c0,op,c,(c.length:Int),(j:Int),())) yx (fun _=>(none:Option Bool)) (fun o=>(match o with|none=>0|some _=>1,match o with|none=>aA [.ae tI] (c0,())|some b=>aA [.bool] (b,())))
  (fun op r=>op.length+r.length<=1099511627776) (fun op j x r h hi=>by
  obtain⟨h1,h2⟩:=dn h (ao tI)
  simp only[List.length_cons]at hi
  have hj:j<4611686018427387904:=by omega
  have hr:c.length=j+1+r.length:=by have:=congrArg List.length h;simp at this;omega
  refine⟨?_,fun s' e=>?_⟩
  ·rw[DF,Lf.T.dX,dY h1,cond_true,Lf.T.j5,bZ h1,cond_true,Int.toNat_natCast,h2,kA hj]
   have hro:roomy 8 (op.length+1)=true:=bP (by omega) (by omega)
   have e0:(Int.ofNat op.length=128)↔op.length=128:=by show((op.length:Int)=128)↔_;omega
   have e1:(Int.ofNat op.length=0)↔op.length=0:=by show((op.length:Int)=0)↔_;omega
   have e2: ∀ h: ¬ op.length=0,bO .i64 (Int.ofNat op.length) 1=((op.length - 1:Nat):Int):=fun h=>Bw (by omega) (by omega)
   have e3:bO .i64 (Int.ofNat c0.length) 1=((c.length - 1:Nat):Int):=by rw[h0];exact Bw (by omega) (by omega)
   have e4:((j:Int)=((c.length - 1:Nat):Int))↔r.length=0:=by omega
   have e5: ∀ h: ¬ op.length=0,bg ((op.length - 1:Nat):Int) (Int.ofNat op.length)=true:=fun h=>bZ (by omega)
   have e6: ∀ h: ¬ op.length=0,eL 0 ((op.length - 1:Nat):Int) (Int.ofNat op.length)=true:=fun h=>by rw[Ah];exact⟨by omega,by omega,by show _<=(op.length:Int);omega⟩
   unfold yx
   simp only[Lf.T.dX,Lf.T.j5,Lf.T.pN,hro,e0,e3,e4,bp,cond_true]
   by_cases x2:x.1=2
   ·by_cases q:op.length=128<;>simp[x2,q,Kt]
   ·by_cases x3:x.1=3
    ·by_cases q:op.length=128<;>simp[x3,q,Kt]
    ·by_cases x4:x.1=4
     ·by_cases q:op.length=128<;>simp[x4,q,Kt]
     ·by_cases x5:x.1=5
      ·by_cases q:op.length=0
       ·simp[x5,q,e1,Kt]
       ·have q1:decide (Int.ofNat op.length=0)=false:=decide_eq_false (by rw[e1];exact q)
        by_cases q2:op.getD (op.length - 1) 0=4
        ·simp only[x5,q1,e2 q,e5 q,Int.toNat_natCast,show op.getD (op.length - 1) (ao i64)=4 from q2]
         have q4:=q2
         rw[List.getD_eq_getElem?_getD]at q4
         simp[q,q4,Kt]
        ·have q3: ¬ op.getD (op.length - 1) (ao i64)=4:=q2
         simp only[x5,q1,e2 q,e5 q,Int.toNat_natCast,decide_eq_false q3]
         have q4:=q2
         rw[List.getD_eq_getElem?_getD]at q4
         simp[q,q4,Kt]
      ·by_cases x11:x.1=11
       ·by_cases q:op.length=0
        ·simp[x11,q,e1,Kt]
        ·have q1:decide (Int.ofNat op.length=0)=false:=decide_eq_false (by rw[e1];exact q)
         simp only[x11,q1,e2 q,e6 q,Int.toNat_natCast]
         simp[q,Kt]
       ·simp[x2,x3,x4,x5,x11,Kt]
  ·unfold yx at e
   repeat' split at e
   all_goals first|(cases e;done)|(cases e;simp;omega)|(cases e;omega)) (fun s j h hj hi=>by
  have:j=c.length:=by have:=List.drop_eq_nil_iff.1 h;omega
  subst this
  rw[DF,Lf.T.dX,dj (Nat.le_refl _)]
  rfl) c 0 [] rfl (by omega) (by simpa using hc)
 exact this
def g79:ak t79->T (Nat×List Pl):=fun x=>.ck ((decide (x.2.1.length=0)&&decide (x.2.2.2.1=(x.2.2.1.length:Int)))&&(decide (x.2.2.2.2.1=0)&&(decide (x.1.length=x.2.2.1.length)&&decide (x.2.2.1.length<=1099511627776))))
 (.br (DE x.2.2.1).isNone (.ok (0,aA [.ae tI] (x.1,()))) (.ok (1,aA [.bool] (iW x.2.2.1,()))))
theorem Yp(x:ak t79)(k:Nat)(q:List Pl)(h:(g79 x).val=some (k,q)):gQ (SX.step (fun _=>none) (dH [] 3) 3) (aA t79 x) k q:=by
 obtain⟨c,op,c2,n,i,⟨⟩⟩:=x
 obtain⟨h1,h2⟩:=Lf.T.aY h
 simp only[Bool.and_eq_true,decide_eq_true_eq]at h1
 obtain⟨⟨a1,a2⟩,a3,a5,a4⟩:=h1
 have a1:=List.eq_nil_of_length_eq_zero a1
 subst a1;subst a2;subst a3
 have:=SY c c2 a5 a4
 rw[Lf.T.dX]at h2
 unfold iW at h2
 cases hm:DE c2 with
 |none=>rw[hm]at h2 this;cases h2;exact this
 |some b=>rw[hm]at h2 this;cases h2;exact this
def s79:cQ:=iy (Ps [.im tI]) [] (Ps [.bo]) [.ae tI] [.bool] fun x=>.ck (decide (x.1.length<=1099511627776)) (.ok (iW x.1,()))
theorem Yq{aq:aB}(W:World aq):s79.Ok 98 aq:=by
 have C:=W.in .nil 3
 have hl:ed Rx.w (pO SX t79 g79) (fun n d=>gG (aq n d) n (.bl 0 (.lp SX.body))):=iI C (aE _) (m:=3) Yp
 refine dF C (W.st 98 _ rfl) rfl (L:=pP [(0,pO SX t79 g79)]) (fq.jm (.cons (b:=SX.body) (by kernel_rfl) hl .nil)) (m:=3) rfl ?_
 rintro⟨c,⟨⟩⟩ q h
 obtain⟨h1,h2⟩:=Lf.T.aY h
 cases h2
 have e:(je (Ps [.im tI]) [] (Ps [.bo]) (pP [(0,pO SX t79 g79)]) Tryz.x98 3 (dH [] 3) (aA [.ae tI] (c,()))).val=
  bif ((decide (([]:List Int).length=0)&&decide ((c.length:Int)=(c.length:Int)))&&(decide ((0:Int)=0)&&(decide (c.length=c.length)&&decide (c.length<=1099511627776))))then
   (bif (DE c).isNone then some (aA [.bool] (false,()))else some (aA [.bool] (iW c,())))else none:=by kernel_rfl
 have n5:decide (c.length<=1099511627776)=true:=h1
 rw[e,n5]
 unfold iW
 cases DE c<;>simp
end Go.Proofs.Vd

noncomputable section
namespace Go.Proofs.Vd
open Go.Ab Go.Ab.Lf
set_option maxRecDepth 100000
abbrev gu:Ty:=.pair i64 (.pair i64 (.pair i64 (.pair i64 .str)))
abbrev lH:List Ty:=[i64,i64,.bool,.ae i64,.ae i64]
def F6:List (den gu):=(e9 [.ae gu] (je .nil [] (Ps [.im gu]) (fun _=>none) Tryz.SL 3 (dH [] 3) [])).1
def F7:List (den gu):=(e9 [.ae gu] (je .nil [] (Ps [.im gu]) (fun _=>none) Tryz.SM 3 (dH [] 3) [])).1
def s22:cQ:=iy .nil [] (Ps [.im gu]) [] [.ae gu] fun _=>.ok (F6,())
def s23:cQ:=iy .nil [] (Ps [.im gu]) [] [.ae gu] fun _=>.ok (F7,())
theorem Yr{aq:aB}(W:World aq):s22.Ok 100 aq:=by
 refine dF (W.in .nil 3) (W.st 100 _ rfl) rfl (aE _) (m:=3) rfl ?_
 rintro⟨⟩ q h
 cases h
 exact qT (to:=[.ae gu]) (x:=je .nil [] (Ps [.im gu]) (fun _=>none) Tryz.SL 3 (dH [] 3) []) (by kernel_rfl)
theorem Ys{aq:aB}(W:World aq):s23.Ok 101 aq:=by
 refine dF (W.in .nil 3) (W.st 101 _ rfl) rfl (aE _) (m:=3) rfl ?_
 rintro⟨⟩ q h
 cases h
 exact qT (to:=[.ae gu]) (x:=je .nil [] (Ps [.im gu]) (fun _=>none) Tryz.SM 3 (dH [] 3) []) (by kernel_rfl)
abbrev pB:jV:=.pt 0 (Ps [.n .i64,.n .i64,.bo,.im i64,.im i64])
abbrev pC:jV:=.pt 0 (Ps [.n .i64,.n .i64,.bo,.ow i64,.ow i64])
abbrev yy:List Ty:=[i64,i64,.bool,.ae i64,.ae i64,i64,i64,.bool,.ae i64,.ae i64,.bool,.ae u8,i64,i64]
def DG:jW:=⟨2,fI Tryz.x88.code 2,[2,7,8,42,43,44],Ps [pB,pC,.bo,.im u8,.n .i64,.n .i64],[⟨.lL,[2,7],Ps [pB,pC]⟩]⟩
def HQ(s:Bool×List Int×List Int)(c:Int):Bool×List Int×List Int:=
 if c=58 then(true,s.2)else(if s.1 then(s.1,s.2.1,s.2.2++[if c=108 then 126 else if c=118 then 123 else 127])else(s.1,s.2.1++[if c=108 then 126 else if c=118 then 123 else 127],s.2.2))
def zx(s:List Int):List Int×List Int:=(s.foldl HQ (false,[],[])).2
theorem Am(f l:Int)(p:Bool)(a b:List Int)(f2 l2:Int)(p2:Bool)(a2 b2:List Int)(o:Bool)(s:List Int)(n i:Int):DG.step (fun _=>none) (dH [] 3) 3 (aA yy (f,l,p,a,b,f2,l2,p2,a2,b2,o,s,n,i,()))=
 .br (decide (i<n)) (.ck (bg i (Int.ofNat s.length)) (let x:=s.getD i.toNat (ao u8)
  let nx:=fun(t:Int)=>T.br o (.ck (roomy 8 (b2.length+1)) (.ok (Rs.next (aA yy (f,l,p,a,b,f2,l2,p2,a2,app b2 [t],o,s,n,cf .i64 i 1,())))))
   (.ck (roomy 8 (a2.length+1)) (.ok (Rs.next (aA yy (f,l,p,a,b,f2,l2,p2,app a2 [t],b2,o,s,n,cf .i64 i 1,())))))
  .br (decide (x=58)) (.ok (Rs.next (aA yy (f,l,p,a,b,f2,l2,p2,a2,b2,true,s,n,cf .i64 i 1,())))) (.br (decide (x=108)) (nx 126) (.br (decide (x=118)) (nx 123) (nx 127)))))
  (.ok (.out 0 (aA [i64,i64,.bool,.ae i64,.ae i64,i64,i64,.bool,.ae i64,.ae i64] (f,l,p,a,b,f2,l2,p2,a2,b2,())))):=by kernel_rfl
theorem Nm(f l:Int)(p:Bool)(a b:List Int)(f2 l2:Int)(p2:Bool)(s:List Int)(hs:s.length<=1000):
 gQ (DG.step (fun _=>none) (dH [] 3) 3) (aA yy (f,l,p,a,b,f2,l2,p2,[],[],false,s,(s.length:Int),0,())) 0 (aA [i64,i64,.bool,.ae i64,.ae i64,i64,i64,.bool,.ae i64,.ae i64] (f,l,p,a,b,f2,l2,p2,(zx s).1,(zx s).2,())):=by
 have:=JE (f:=DG.step (fun _=>none) (dH [] 3) 3) (l:=s) (fun(q:Bool×List Int×List Int) j=>aA yy (f,l,p,a,b,f2,l2,p2,q.2.1,q.2.2,q.1,s,(s.length:Int),(j:Int),())) (fun q x=>.inl (HQ q x)) (fun q=>(0,aA [i64,i64,.bool,.ae i64,.ae i64,i64,i64,.bool,.ae i64,.ae i64] (f,l,p,a,b,f2,l2,p2,q.2.1,q.2.2,())))
  (fun q r=>(q.2.1.length+r.length<=2000/\q.2.2.length+r.length<=2000)) (fun q j x r h hi=>by
  obtain⟨o,a2,b2⟩:=q
  obtain⟨h1,h2⟩:=dn h (ao u8)
  simp only[List.length_cons]at hi
  have hj:j<4611686018427387904:=by omega
  have r1:roomy 8 (a2.length+1)=true:=bP (by omega) (by omega)
  have r2:roomy 8 (b2.length+1)=true:=bP (by omega) (by omega)
  refine⟨?_,fun s' e=>?_⟩
  ·rw[Am,Lf.T.dX,dY h1,cond_true,Lf.T.j5,bZ h1,cond_true,Int.toNat_natCast,h2,kA hj]
   unfold HQ
   simp only[Lf.T.dX,Lf.T.j5,Lf.T.pN,r1,r2,bp,cond_true]
   by_cases x1:x=58
   ·simp[x1,zn]
   ·by_cases x2:x=108
    ·cases o<;>simp[x2,zn]
    ·by_cases x3:x=118
     ·cases o<;>simp[x3,zn]
     ·cases o<;>simp[x1,x2,x3,zn]
  ·cases e
   unfold HQ
   split
   ·simp only;omega
   ·split<;>simp<;>omega) (fun q j h hj hi=>by
  have:j=s.length:=by have:=List.drop_eq_nil_iff.1 h;omega
  subst this
  rw[Am,Lf.T.dX,dj (Nat.le_refl _)]
  rfl) s 0 (false,[],[]) rfl (by omega) (by simp;omega)
 rw[fM]at this
 exact this
def Yt:ak yy->T (Nat×List Pl):=fun x=>.ck (((decide (x.2.2.2.2.2.2.2.2.1.length=0)&&decide (x.2.2.2.2.2.2.2.2.2.1.length=0))&& !x.2.2.2.2.2.2.2.2.2.2.1)&&((decide (x.2.2.2.2.2.2.2.2.2.2.2.2.1=(x.2.2.2.2.2.2.2.2.2.2.2.1.length:Int))&&decide (x.2.2.2.2.2.2.2.2.2.2.2.2.2.1=0))&&decide (x.2.2.2.2.2.2.2.2.2.2.2.1.length<=1000)))
 (.ok (0,aA [i64,i64,.bool,.ae i64,.ae i64,i64,i64,.bool,.ae i64,.ae i64] (x.1,x.2.1,x.2.2.1,x.2.2.2.1,x.2.2.2.2.1,x.2.2.2.2.2.1,x.2.2.2.2.2.2.1,x.2.2.2.2.2.2.2.1,(zx x.2.2.2.2.2.2.2.2.2.2.2.1).1,(zx x.2.2.2.2.2.2.2.2.2.2.2.1).2,())))
theorem SZ(x:ak yy)(k:Nat)(q:List Pl)(h:(Yt x).val=some (k,q)):gQ (DG.step (fun _=>none) (dH [] 3) 3) (aA yy x) k q:=by
 obtain⟨f,l,p,a,b,f2,l2,p2,a2,b2,o,s,n,i,⟨⟩⟩:=x
 obtain⟨h1,h2⟩:=Lf.T.aY h
 cases h2
 simp only[Bool.and_eq_true,decide_eq_true_eq,Bool.not_eq_true']at h1
 obtain⟨⟨⟨b1,Ku⟩,b3⟩,⟨b4,b5⟩,b6⟩:=h1
 have b1:=List.eq_nil_of_length_eq_zero b1
 have Ku:=List.eq_nil_of_length_eq_zero Ku
 subst b1;subst Ku;subst b3;subst b4;subst b5
 exact Nm f l p a b f2 l2 p2 s b6
abbrev t11:List Ty:=[i64,i64,i64,.bool,.ae i64,.ae i64,.bool,.ae gu,i64,i64]
def Kv:jW:=⟨0,fI Tryz.x88.code 0,[0,2,3,16,17,18],Ps [.n .i64,pB,.bo,.im gu,.n .i64,.n .i64],[⟨.lL,[2],Ps [pB]⟩,⟨.rt,[2,3],Ps [pB,.bo]⟩]⟩
def JF(r:den gu):List Int:=r.2.2.2.2.data.toList.map fun b=>Int.ofNat b.toNat
def DH(r:den gu):ak lH:=(r.2.2.1,r.2.2.2.1,!(eqStr r.2.2.2.2 ⟨#[]⟩),(zx (JF r)).1,(zx (JF r)).2,())
def zy(op:Int)(_:Unit)(r:den gu)(_:List (den gu)):Unit ⊕ Option (ak lH):=bif (bif decide (op<r.1)then true else decide (r.2.1<op))then .inl ()else .inr (some (DH r))
def nX(op:Int)(rs:List (den gu)):Option (ak lH):=gq (zy op) (fun _=>none) rs ()
def L11:Nat->Option fE:=pP [(2,pO DG yy Yt)]
theorem DI(op f l:Int)(p:Bool)(a b:List Int)(ok:Bool)(rs:List (den gu))(n i:Int):(Kv.step L11 (dH [] 3) 3 (aA t11 (op,f,l,p,a,b,ok,rs,n,i,()))).val=
 bif decide (i<n)then(bif bg i (Int.ofNat rs.length)then(bif (bif decide (op<(rs.getD i.toNat (ao gu)).1)then true else decide ((rs.getD i.toNat (ao gu)).2.1<op))then some (Rs.next (aA t11 (op,f,l,p,a,b,ok,rs,n,cf .i64 i 1,())))
  else(bif ((true&&true)&&true)&&((decide (((JF (rs.getD i.toNat (ao gu))).length:Int)=((JF (rs.getD i.toNat (ao gu))).length:Int))&&true)&&decide ((JF (rs.getD i.toNat (ao gu))).length<=1000))then some (Rs.out 1 (aA [i64,i64,.bool,.ae i64,.ae i64,.bool] ((DH (rs.getD i.toNat (ao gu))).1,(DH (rs.getD i.toNat (ao gu))).2.1,(DH (rs.getD i.toNat (ao gu))).2.2.1,(DH (rs.getD i.toNat (ao gu))).2.2.2.1,(DH (rs.getD i.toNat (ao gu))).2.2.2.2.1,true,())))else none))else none)else some (.out 0 (aA lH (f,l,p,a,b,()))):=by kernel_rfl
def nY(rs:List (den gu)):Bool:=cb (fun r=>decide ((JF r).length<=1000)) rs
theorem DJ{r:den gu}{rs:List (den gu)}(h:nY (r::rs)=true):(JF r).length<=1000/\nY rs=true:=by
 have h:(bif decide ((JF r).length<=1000)then nY rs else false)=true:=h
 by_cases q:(JF r).length<=1000
 ·rw[decide_eq_true q]at h;exact⟨q,h⟩
 ·rw[decide_eq_false q]at h;cases h
theorem S4(op f l:Int)(p:Bool)(a b:List Int)(ok:Bool)(rs:List (den gu))(hl:rs.length<=1000)(hs:nY rs=true):
 gQ (Kv.step L11 (dH [] 3) 3) (aA t11 (op,f,l,p,a,b,ok,rs,(rs.length:Int),0,())) (match nX op rs with|none=>0|some _=>1) (match nX op rs with|none=>aA lH (f,l,p,a,b,())|some y=>aA [i64,i64,.bool,.ae i64,.ae i64,.bool] (y.1,y.2.1,y.2.2.1,y.2.2.2.1,y.2.2.2.2.1,true,())):=by
 have:=SK (f:=Kv.step L11 (dH [] 3) 3) (l:=rs) (fun(_:Unit) j=>aA t11 (op,f,l,p,a,b,ok,rs,(rs.length:Int),(j:Int),())) (zy op) (fun _=>(none:Option (ak lH)))
  (fun o=>(match o with|none=>0|some _=>1,match o with|none=>aA lH (f,l,p,a,b,())|some y=>aA [i64,i64,.bool,.ae i64,.ae i64,.bool] (y.1,y.2.1,y.2.2.1,y.2.2.2.1,y.2.2.2.2.1,true,()))) (fun _ r=>nY r=true) (fun q j x r h hi=>by
  obtain⟨h1,h2⟩:=dn h (ao gu)
  have hj:j<4611686018427387904:=by omega
  obtain⟨k1,k2⟩:=DJ hi
  refine⟨?_,fun _ _=>k2⟩
  rw[DI,dY h1,cond_true,bZ h1,cond_true,Int.toNat_natCast,h2,kA hj]
  unfold zy
  cases hc:(bif decide (op<x.1)then true else decide (x.2.1<op))with
  |true=>simp only[cond_true,Kt]
  |false=>simp only[cond_false,Kt,decide_eq_true k1,decide_true,Bool.and_self,cond_true]) (fun q j h hj hi=>by
  have:j=rs.length:=by have:=List.drop_eq_nil_iff.1 h;omega
  subst this
  rw[DI,dj (Nat.le_refl _)]
  rfl) rs 0 () rfl (by omega) hs
 exact this
def g11:ak t11->T (Nat×List Pl):=fun x=>.ck ((decide (x.2.2.2.2.2.2.2.2.1=(x.2.2.2.2.2.2.2.1.length:Int))&&decide (x.2.2.2.2.2.2.2.2.2.1=0))&&(decide (x.2.2.2.2.2.2.2.1.length<=1000)&&nY x.2.2.2.2.2.2.2.1))
 (.br (nX x.1 x.2.2.2.2.2.2.2.1).isNone (.ok (0,aA lH (x.2.1,x.2.2.1,x.2.2.2.1,x.2.2.2.2.1,x.2.2.2.2.2.1,()))) (let y:=(nX x.1 x.2.2.2.2.2.2.2.1).getD (sf lH); .ok (1,aA [i64,i64,.bool,.ae i64,.ae i64,.bool] (y.1,y.2.1,y.2.2.1,y.2.2.2.1,y.2.2.2.2.1,true,()))))
theorem Yu(x:ak t11)(k:Nat)(q:List Pl)(h:(g11 x).val=some (k,q)):gQ (Kv.step L11 (dH [] 3) 3) (aA t11 x) k q:=by
 obtain⟨op,f,l,p,a,b,ok,rs,n,i,⟨⟩⟩:=x
 obtain⟨h1,h2⟩:=Lf.T.aY h
 simp only[Bool.and_eq_true,decide_eq_true_eq]at h1
 obtain⟨⟨b1,b2⟩,b3,b4⟩:=h1
 subst b1;subst b2
 have:=S4 op f l p a b ok rs b3 b4
 rw[Lf.T.dX]at h2
 cases hm:nX op rs with
 |none=>rw[hm]at h2 this;cases h2;exact this
 |some y=>rw[hm]at h2 this;cases h2;exact this
def JG(op:Int):Option (ak lH):=nX op (bif decide (64768<=op)then F7 else F6)
def kC(op:Int):ak lH:=(JG op).getD (0,0,false,[],[],())
def Co(op:Int):Bool:=(JG op).isSome
def e11:List (Nat×cQ):=[(100,s22),(101,s23)]
theorem Yv{aq:aB}(W:World aq):dh aq e11:=.cons (Yr W) (.cons (Ys W) .nil)
def s11:cQ:=iy (Ps [.n .i64]) [] (Ps [.tu (Ps [.ag (Ps [.n .i64,.n .i64,.bo,.im i64,.im i64]),.bo])]) [i64] [i64,i64,.bool,.ae i64,.ae i64,.bool] fun x=>let y:=kC x.1; .ok (y.1,y.2.1,y.2.2.1,y.2.2.2.1,y.2.2.2.2.1,Co x.1,())
theorem Nn:((nY F6&&Nat.ble F6.length 1000)&&(nY F7&&Nat.ble F7.length 1000))=true:=by kernel_rfl
abbrev ic:List Ty:=[i64,i64,.bool,.ae i64,.ae i64,.bool]
def r11(op:Int)(rs:List (den gu)):Option (List Pl):=bif (decide ((rs.length:Int)=(rs.length:Int))&&decide ((0:Int)=0))&&(decide (rs.length<=1000)&&nY rs)then
 (bif (nX op rs).isNone then some (aA ic (0,0,false,[],[],false,()))else some (aA ic (((nX op rs).getD (sf lH)).1,((nX op rs).getD (sf lH)).2.1,((nX op rs).getD (sf lH)).2.2.1,((nX op rs).getD (sf lH)).2.2.2.1,((nX op rs).getD (sf lH)).2.2.2.2.1,true,())))else none
theorem Np(op:Int)(rs:List (den gu))(h1:rs.length<=1000)(h2:nY rs=true):r11 op rs=some (aA ic (((nX op rs).getD (0,0,false,[],[],())).1,((nX op rs).getD (0,0,false,[],[],())).2.1,((nX op rs).getD (0,0,false,[],[],())).2.2.1,((nX op rs).getD (0,0,false,[],[],())).2.2.2.1,((nX op rs).getD (0,0,false,[],[],())).2.2.2.2.1,(nX op rs).isSome,())):=by
 unfold r11
 rw[decide_eq_true h1,h2]
 cases nX op rs with
 |none=>simp
 |some y=>simp
theorem Nq{aq:aB}(W:World aq):s11.Ok 88 aq:=by
 have C:=W.in (Yv W) 3
 have C0:=W.in .nil 3
 have hi:ed Rx.w (pO DG yy Yt) (fun n d=>gG (aq n d) n (.bl 2 (.lp DG.body))):=iI C0 (aE _) (m:=3) SZ
 have ho:ed Rx.w (pO Kv t11 g11) (fun n d=>gG (aq n d) n (.bl 0 (.lp Kv.body))):=iI C0 (L:=L11) (fq.jm (.cons (b:=DG.body) (by kernel_rfl) hi .nil)) (m:=3) Yu
 refine dF C (W.st 88 _ rfl) rfl (L:=pP [(0,pO Kv t11 g11)]) (fq.jm (.cons (b:=Kv.body) (by kernel_rfl) ho .nil)) (m:=3) rfl ?_
 rintro⟨op,⟨⟩⟩ q h
 cases h
 have e:(je (Ps [.n .i64]) [] (Ps [.tu (Ps [.ag (Ps [.n .i64,.n .i64,.bo,.im i64,.im i64]),.bo])]) (pP [(0,pO Kv t11 g11)]) Tryz.x88 3 (dH e11 3) (aA [i64] (op,()))).val=
  bif decide (64768<=op)then r11 op F7 else r11 op F6:=by kernel_rfl
 have hs:=Nn
 rw[Bool.and_eq_true,Bool.and_eq_true,Bool.and_eq_true]at hs
 rw[e,Np op F7 (Nat.le_of_ble_eq_true hs.2.2) hs.2.1,Np op F6 (Nat.le_of_ble_eq_true hs.1.2) hs.1.1]
 unfold kC Co JG
 cases decide (64768<=op)<;>rfl
end Go.Proofs.Vd

noncomputable section
namespace Go.Ab.Lf
def S5(to:List Ty)(t:T (List Pl)):Bool:=
 T.rec (motive:=fun _=>Bool) false (fun l=>(toT to l).isSome) (fun _ _ _ a b=>a&&b) (fun _ _ _=>false) t
theorem w7{to:List Ty}: ∀ {t:T (List Pl)},S5 to t=true->jS to t=true
 | .bad,h=>by cases h
 | .ok l,h=>by
  have h:(toT to l).isSome=true:=h
  show(match toT to l with|some _=>true|none=>false)=true
  cases hq:toT to l with
  |none=>rw[hq]at h;cases h
  |some y=>rfl
 | .br c a b,h=>by
  have h:(S5 to a&&S5 to b)=true:=h
  obtain⟨h1,h2⟩:=Bool.and_eq_true_iff.1 h
  have q1:=w7 h1
  have q2:=w7 h2
  unfold jS at*
  rw[T.dX]
  cases c
  ·exact q2
  ·exact q1
 | .ck c a,h=>by cases h
theorem VM{call:eK}{aq:aB}(C:oz call aq){f:FuncId}{b:dE}(hb:mO aq f b)(qo:Nat.ble b.ntmps 512=true){L:Nat->Option fE}(hL:jm Rx.w aq L b.code){m:Nat}{P:jV}{ptr:List Nat}{Q:jV}{ti to:List Ty}{out:ak ti->ak to}
 (h0:cb (fun g=> !(Nat.beq g 0)) ptr=true)(h1: ∀ x,S5 to (je P ptr Q L b m call (aA ti x))=true)(h2: ∀ x,out x=e9 to (je P ptr Q L b m call (aA ti x))):(iy P ptr Q ti to fun x=>.ok (out x)).Ok f aq:=by
 refine dF C hb qo hL (m:=m) h0 fun x y h=>?_
 cases h
 rw[h2]
 exact qT (w7 (h1 x))
end Go.Ab.Lf
namespace Go.Proofs.Vd
open Go.Ab Go.Ab.Lf
set_option maxRecDepth 100000
abbrev pI:jV:=.ag (Ps [.n .i64,.n .i64,.n .i64,.n .u64,.n .u64,.im i64])
abbrev t87:List Ty:=[i64,i64,i64,u64,u64,.ae i64,i64]
def DK(x:ak t87):ak [.bool]:=e9 [.bool] (je (Ps [pI,.n .i64]) [] (Ps [.bo]) (fun _=>none) Tryz.SP 3 (dH [] 3) (aA t87 x))
def s87:cQ:=iy (Ps [pI,.n .i64]) [] (Ps [.bo]) t87 [.bool] fun x=>.ok (DK x)
theorem Yw{aq:aB}(W:World aq):s87.Ok 108 aq:=by
 refine VM (W.in .nil 3) (W.st 108 _ rfl) rfl (aE _) (m:=3) rfl ?_ (fun _=>rfl)
 rintro⟨o,a,b,lo,hi,l,f,⟨⟩⟩
 kernel_rfl
def lI(n:Int):Bool:=bif decide (0<=n)then decide (n<4294967296)else false
def s89:cQ:=iy (Ps [.n .i64]) [] (Ps [.bo]) [i64] [.bool] fun x=>.ok (lI x.1,())
theorem Yx{aq:aB}(W:World aq):s89.Ok 110 aq:=by
 refine dF (W.in .nil 3) (W.st 110 _ rfl) rfl (aE _) (m:=3) rfl ?_
 rintro⟨n,⟨⟩⟩ q h
 cases h
 kernel_rfl
abbrev tV:List Ty:=[u8,u8,u8,u8,u8,u8,u8,u8,u8,u8,u8,u8,u8,u8,u8,u8]
abbrev pV:jV:=.ag (Ps [.n .u8,.n .u8,.n .u8,.n .u8,.n .u8,.n .u8,.n .u8,.n .u8,.n .u8,.n .u8,.n .u8,.n .u8,.n .u8,.n .u8,.n .u8,.n .u8])
def VN(x:ak [u64,u64]):ak tV:=e9 tV (je (Ps [.ag (Ps [.n .u64,.n .u64])]) [] (Ps [pV]) (fun _=>none) Tryz.Yg 20 (dH [] 20) (aA [u64,u64] x))
def s81:cQ:=iy (Ps [.ag (Ps [.n .u64,.n .u64])]) [] (Ps [pV]) [u64,u64] tV fun x=>.ok (VN x)
theorem Nr{aq:aB}(W:World aq):s81.Ok 102 aq:=by
 refine VM (W.in .nil 20) (W.st 102 _ rfl) rfl (aE _) (m:=20) rfl ?_ (fun _=>rfl)
 rintro⟨lo,hi,⟨⟩⟩
 kernel_rfl
end Go.Proofs.Vd

noncomputable section
namespace Go.Proofs.Vd
open Go.Ab Go.Ab.Lf
set_option maxRecDepth 100000
def Yy(lo hi:Int):List Int:=let y:=VN (lo,hi,());[y.1,y.2.1,y.2.2.1,y.2.2.2.1,y.2.2.2.2.1,y.2.2.2.2.2.1,y.2.2.2.2.2.2.1,y.2.2.2.2.2.2.2.1,y.2.2.2.2.2.2.2.2.1,y.2.2.2.2.2.2.2.2.2.1,y.2.2.2.2.2.2.2.2.2.2.1,y.2.2.2.2.2.2.2.2.2.2.2.1,y.2.2.2.2.2.2.2.2.2.2.2.2.1,y.2.2.2.2.2.2.2.2.2.2.2.2.2.1,y.2.2.2.2.2.2.2.2.2.2.2.2.2.2.1,y.2.2.2.2.2.2.2.2.2.2.2.2.2.2.2.1]
def DL(a lo hi f:Int):List Int:=bif decide (f=9)then lU (aV .i64 (aV .i32 lo))else bif decide (f=10)then lU (aV .i64 lo)else bif decide (f=13)then [aV .u8 a]else bif decide (f=14)then [0]else Yy lo hi
def Ns(a lo f:Int):Bool:=bif decide (f=9)then decide (lo<4294967296)else bif decide (f=10)then true else bif decide (f=13)then(bif decide (0<=a)then decide (a<256)else false)else true
theorem JH(a lo hi f:Int):(DL a lo hi f).length<=16:=by
 unfold DL
 have:=qY (aV .i64 (aV .i32 lo))
 have:=qY (aV .i64 lo)
 have h:(Yy lo hi).length=16:=rfl
 cases decide (f=9)<;>cases decide (f=10)<;>cases decide (f=13)<;>cases decide (f=14)<;>simp only[cond_true,cond_false,List.length_cons,List.length_nil]<;>omega
abbrev t90:List Ty:=[.ae u8,i64,i64,i64,u64,u64,.ae i64,i64]
def e90:List (Nat×cQ):=[(102,s81),(109,s88)]
theorem Yz{aq:aB}(W:World aq):dh aq e90:=.cons (Nr W) (.cons (Nl W) .nil)
def s90:cQ:=iy (Ps [.ow u8,pI,.n .i64]) [] (Ps [.tu (Ps [.ow u8,.bo])]) t90 [.ae u8,.bool] fun x=>
 .ck (decide (x.1.length+16<=1099511627776)) (.ok (x.1++DL x.2.2.1 x.2.2.2.2.1 x.2.2.2.2.2.1 x.2.2.2.2.2.2.2.1,Ns x.2.2.1 x.2.2.2.2.1 x.2.2.2.2.2.2.2.1,()))
abbrev r2(b:List Int)(o:Bool):Option (List Pl):=some (aA [.ae u8,.bool] (b,o,()))
theorem YA(out:List Int)(o a b lo hi:Int)(l:List Int)(f:Int):(je (Ps [.ow u8,pI,.n .i64]) [] (Ps [.tu (Ps [.ow u8,.bo])]) (fun _=>none) Tryz.Yk 3 (dH e90 3) (aA t90 (out,o,a,b,lo,hi,l,f,()))).val=
 bif decide (f=9)then(bif (decide (-9223372036854775808<=aV .i64 (aV .i32 lo))&&decide (aV .i64 (aV .i32 lo)<9223372036854775808))then bif decide (lo=lo)then bif roomy 1 (out.length+(lU (aV .i64 (aV .i32 lo))).length)then bif decide (lo=lo)then r2 (app out (lU (aV .i64 (aV .i32 lo)))) (decide (lo<4294967296))else none else none else none else none)
 else bif decide (f=10)then(bif (decide (-9223372036854775808<=aV .i64 lo)&&decide (aV .i64 lo<9223372036854775808))then bif roomy 1 (out.length+(lU (aV .i64 lo)).length)then r2 (app out (lU (aV .i64 lo))) true else none else none)
 else bif decide (f=13)then(bif roomy 1 (out.length+[aV .u8 a].length)then bif decide (a=a)then bif decide (0<=a)then r2 (app out [aV .u8 a]) (decide (a<256))else r2 (app out [aV .u8 a]) false else none else none)
 else bif decide (f=14)then(bif roomy 1 (out.length+[(0:Int)].length)then r2 (app out [0]) true else none)
 else(bif roomy 1 (out.length+(Yy lo hi).length)then r2 (app out (Yy lo hi)) true else none):=by kernel_rfl
theorem YB{aq:aB}(W:World aq):s90.Ok 111 aq:=by
 refine dF (W.in (Yz W) 3) (W.st 111 _ rfl) rfl (aE _) (m:=3) rfl ?_
 rintro⟨out,o,a,b,lo,hi,l,f,⟨⟩⟩ q h
 obtain⟨h1,h2⟩:=Lf.T.aY h
 cases h2
 rw[YA]
 have h1:out.length+16<=1099511627776:=of_decide_eq_true h1
 have k1:=qY (aV .i64 (aV .i32 lo))
 have k2:=qY (aV .i64 lo)
 have k3:(Yy lo hi).length=16:=rfl
 have c1:=HN (aV .i32 lo)
 have c2:=HN lo
 rw[bP (n:=out.length+(lU (aV .i64 (aV .i32 lo))).length) (by omega) (by omega),bP (n:=out.length+(lU (aV .i64 lo)).length) (by omega) (by omega),bP (n:=out.length+[aV .u8 a].length) (by omega) (by simp;omega),
  bP (n:=out.length+[(0:Int)].length) (by omega) (by simp;omega),bP (n:=out.length+(Yy lo hi).length) (by omega) (by omega),decide_eq_true c1.1,decide_eq_true c1.2,decide_eq_true c2.1,decide_eq_true c2.2]
 unfold DL Ns
 simp only[bp,Bool.and_self,cond_true,decide_true]
 cases decide (f=9)<;>cases decide (f=10)<;>cases decide (f=13)<;>cases decide (f=14)<;>cases decide (0<=a)<;>rfl
end Go.Proofs.Vd

noncomputable section
namespace Go.Proofs.Vd
open Go.Ab Go.Ab.Lf
set_option maxRecDepth 100000
abbrev pBI:jV:=.pt 0 (Ps [.n .i64,.n .i64,.n .i64,.n .u64,.n .u64,.im i64])
abbrev zA:List Ty:=[i64,i64,i64,u64,u64,.ae i64,.bool,.ae u8,.ae u8,.ae i64,i64,i64]
abbrev S6:List Ty:=[i64,i64,i64,u64,u64,.ae i64,.bool,.ae u8,.ae u8]
def VO:jW:=⟨2,fI Tryz.x99.code 2,[1,5,6,7,101,102,103],Ps [pBI,.bo,.ow u8,.ow u8,.im i64,.n .i64,.n .i64],[⟨.lL,[1,5,6,7],Ps [pBI,.bo,.ow u8,.ow u8]⟩]⟩
def e80:List (Nat×cQ):=[(88,s11),(82,s65),(108,s87),(109,s88),(110,s89),(111,s90)]
def v7(s:List Int×Bool)(x:Int):List Int×Bool:=(s.1++js (aV .u64 x),bif s.2 then lI x else false)
def qZ(s:List Int×Bool)(l:List Int):List Int×Bool:=l.foldl v7 s
def g80:ak zA->T (Nat×List Pl):=fun x=>.ck (decide (x.2.2.2.2.2.2.2.2.2.2.1=(x.2.2.2.2.2.2.2.2.2.1.length:Int))&&(decide (x.2.2.2.2.2.2.2.2.2.2.2.1=0)&&decide (x.2.2.2.2.2.2.2.1.length+10*x.2.2.2.2.2.2.2.2.2.1.length<=1099511627776)))
 (.ok (0,aA S6 (x.1,x.2.1,x.2.2.1,x.2.2.2.1,x.2.2.2.2.1,x.2.2.2.2.2.1,(qZ (x.2.2.2.2.2.2.2.1,x.2.2.2.2.2.2.1) x.2.2.2.2.2.2.2.2.2.1).2,(qZ (x.2.2.2.2.2.2.2.1,x.2.2.2.2.2.2.1) x.2.2.2.2.2.2.2.2.2.1).1,x.2.2.2.2.2.2.2.2.1,())))
def L80:Nat->Option fE:=pP [(2,pO VO zA g80)]
theorem Nt{aq:aB}(W:World aq):dh aq e80:=.cons (Nq W) (.cons (Nj W) (.cons (Yw W) (.cons (Nl W) (.cons (Yx W) (.cons (YB W) .nil)))))
theorem Nu(l:List Int): ∀ s:List Int×Bool,(qZ s l).1.length<=s.1.length+10*l.length:=by
 induction l with
 |nil=>intro s;simp[qZ]
 |cons x l ih=>
  intro s
  have:=ih (v7 s x)
  have h:=j9 (aV .u64 x)
  have e:qZ s (x::l)=qZ (v7 s x) l:=rfl
  rw[e]
  have e2:(v7 s x).1.length=s.1.length+(js (aV .u64 x)).length:=by simp[v7]
  simp only[List.length_cons]
  omega
theorem DM(o a b lo hi:Int)(l:List Int)(k:Bool)(out al s:List Int)(n i:Int):(VO.step (fun _=>none) (dH e80 3) 3 (aA zA (o,a,b,lo,hi,l,k,out,al,s,n,i,()))).val=
 bif decide (i<n)then(bif bg i (Int.ofNat s.length)then(bif (decide (0<=aV .u64 (s.getD i.toNat (ao i64)))&&decide (aV .u64 (s.getD i.toNat (ao i64))<18446744073709551616))then(bif roomy 1 (out.length+(js (aV .u64 (s.getD i.toNat (ao i64)))).length)then
  (bif k then some (Rs.next (aA zA (o,a,b,lo,hi,l,lI (s.getD i.toNat (ao i64)),app out (js (aV .u64 (s.getD i.toNat (ao i64)))),al,s,n,cf .i64 i 1,())))
  else some (Rs.next (aA zA (o,a,b,lo,hi,l,false,app out (js (aV .u64 (s.getD i.toNat (ao i64)))),al,s,n,cf .i64 i 1,()))))else none)else none)else none)else some (Rs.out 0 (aA S6 (o,a,b,lo,hi,l,k,out,al,()))):=by kernel_rfl
theorem S7(o a b lo hi:Int)(l:List Int)(k:Bool)(out al s:List Int)(hs:out.length+10*s.length<=1099511627776):
 gQ (VO.step (fun _=>none) (dH e80 3) 3) (aA zA (o,a,b,lo,hi,l,k,out,al,s,(s.length:Int),0,())) 0 (aA S6 (o,a,b,lo,hi,l,(qZ (out,k) s).2,(qZ (out,k) s).1,al,())):=by
 have:=JE (f:=VO.step (fun _=>none) (dH e80 3) 3) (l:=s) (fun(q:List Int×Bool) j=>aA zA (o,a,b,lo,hi,l,q.2,q.1,al,s,(s.length:Int),(j:Int),())) (fun q x=>.inl (v7 q x)) (fun q=>(0,aA S6 (o,a,b,lo,hi,l,q.2,q.1,al,())))
  (fun q r=>q.1.length+10*r.length<=1099511627776) (fun q j x r h u5=>by
  obtain⟨out,k⟩:=q
  obtain⟨h1,h2⟩:=dn h (ao i64)
  simp only[List.length_cons]at u5
  have hr:s.length=j+1+r.length:=by have:=congrArg List.length h;simp at this;omega
  have hj:j<4611686018427387904:=by omega
  have hp:=j9 (aV .u64 x)
  have c:=nv x
  have r1:roomy 1 (out.length+(js (aV .u64 x)).length)=true:=bP (by omega) (by omega)
  refine⟨?_,fun s' e=>?_⟩
  ·rw[DM,dY h1,cond_true,bZ h1,cond_true,Int.toNat_natCast,h2,kA hj,decide_eq_true c.1,decide_eq_true c.2,r1,bp]
   unfold v7
   cases k<;>rfl
  ·cases e
   simp only[v7,List.length_append]
   omega) (fun q j h hj hi=>by
  have:j=s.length:=by have:=List.drop_eq_nil_iff.1 h;omega
  subst this
  rw[DM,dj (Nat.le_refl _)]
  rfl) s 0 (out,k) rfl (by omega) hs
 rw[fM]at this
 exact this
theorem YC(x:ak zA)(k:Nat)(q:List Pl)(h:(g80 x).val=some (k,q)):gQ (VO.step (fun _=>none) (dH e80 3) 3) (aA zA x) k q:=by
 obtain⟨o,a,b,lo,hi,l,kk,out,al,s,n,i,⟨⟩⟩:=x
 obtain⟨h1,h2⟩:=Lf.T.aY h
 cases h2
 simp only[Bool.and_eq_true,decide_eq_true_eq]at h1
 obtain⟨b1,b2,b3⟩:=h1
 subst b1;subst b2
 exact S7 o a b lo hi l kk out al s b3
def aS{α:Type}(c:Bool)(x:Option α):Option α:=bif c then x else none
def uJ{α:Type}(K:List Int->Bool->α)(p:List Int)(o a b lo hi:Int)(l:List Int):Option α:=
 let f:=(kC o).1
 let A:=js (aV .u64 a)
 let B:=js (aV .u64 b)
 let one:=[aV .u8 (cf .i64 a 128)]
 let ct:=aS (roomy 1 (p.length+one.length)) (some (K (app p one) true))
 let al:=aS (roomy 1 (p.length+A.length)) (aS (decide (a=a)) (some (K (app p A) (lI a))))
 let rg:=(decide (0<=aV .u64 b)&&decide (aV .u64 b<18446744073709551616))
 let two:=aS (roomy 1 (p.length+A.length)) (aS (decide (b=b)) (aS (decide (a=a)) (aS rg (aS (decide (a=a)) (aS (roomy 1 ((app p A).length+B.length)) (aS (decide (a=a)) (bif lI a then some (K (app (app p A) B) (lI b))else some (K (app (app p A) B) false))))))))
 let YD:=js (aV .u64 (Int.ofNat l.length))
 let tb:=qZ (app p YD,Co o) l
 bif decide (f=1)then some (K p true)
 else bif decide (f=2)then(bif decide (a= -64)then ct else bif decide (a= -1)then ct else bif decide (a= -2)then ct else bif decide (a= -5)then ct else
  aS (decide (-9223372036854775808<=a)&&decide (a<9223372036854775808)) (aS (decide (a=a)) (aS (roomy 1 (p.length+(lU a).length)) (aS (decide (a=a)) (some (K (app p (lU a)) (lI a)))))))
 else bif decide (f=3)then al else bif decide (f=5)then al
 else bif decide (f=4)then aS (decide (0<=aV .u64 (Int.ofNat l.length))&&decide (aV .u64 (Int.ofNat l.length)<18446744073709551616)) (aS (roomy 1 (p.length+YD.length))
  (aS (decide ((Int.ofNat l.length)=Int.ofNat l.length)&&(decide ((0:Int)=0)&&decide ((app p YD).length+10*l.length<=1099511627776))) (aS (roomy 1 (tb.1.length+A.length)) (bif tb.2 then some (K (app tb.1 A) (lI a))else some (K (app tb.1 A) false)))))
 else bif decide (f=6)then two else bif decide (f=7)then two
 else bif decide (f=8)then aS (roomy 1 (p.length+A.length)) (aS (decide (b=b)) (aS rg (aS (roomy 1 ((app p A).length+B.length)) (aS (roomy 1 ((app (app p A) B).length+[aV .u8 lo].length)) (aS (decide (a=a))
  (bif lI a then(bif lI b then some (K (app (app (app p A) B) [aV .u8 lo]) (decide (lo<256)))else some (K (app (app (app p A) B) [aV .u8 lo]) false))else some (K (app (app (app p A) B) [aV .u8 lo]) false)))))))
 else aS (decide (p.length+16<=1099511627776)) (some (K (p++DL a lo hi f) (Ns a lo f)))
abbrev k2(b:List Int)(o:Bool):List Pl:=aA [.ae u8,.bool] (b,o,())
def yz{α:Type}(K:List Int->Bool->α)(o a b lo hi:Int)(l:List Int):Option α:=
 let f:=(kC o).1
 let p:=app [253] (js (aV .u64 (bO .i64 o 64768)))
 let rga:=(decide (0<=aV .u64 a)&&decide (aV .u64 a<18446744073709551616))
 bif !Co o then some (K [] false)else bif !(DK (o,a,b,lo,hi,l,f,())).1 then some (K [] false)else
 bif decide (64768<=o)then aS (decide (0<=aV .u64 (bO .i64 o 64768))&&decide (aV .u64 (bO .i64 o 64768)<18446744073709551616)) (aS (roomy 1 ([(253:Int)].length+(js (aV .u64 (bO .i64 o 64768))).length)) (aS rga (uJ K p o a b lo hi l)))
 else aS rga (uJ K [aV .u8 o] o a b lo hi l)
abbrev t80:List Ty:=[i64,i64,i64,u64,u64,.ae i64]
theorem YE(o a b lo hi:Int)(l:List Int):(je (Ps [pI]) [] (Ps [.tu (Ps [.ow u8,.bo])]) L80 Tryz.x99 3 (dH e80 3) (aA t80 (o,a,b,lo,hi,l,()))).val=yz k2 o a b lo hi l:=by kernel_rfl
end Go.Proofs.Vd

noncomputable section
namespace Go.Proofs.Vd
open Go.Ab Go.Ab.Lf
set_option maxRecDepth 100000
def Gd(n:Nat)(F: ∀ α:Type,(List Int->Bool->α)->Option α):Prop:= ∃ B O,B.length<=n/\ ∀ α K,F α K=some (K B O)
theorem Gd.bif{n:Nat}{c:Bool}{F1 F2: ∀ α:Type,(List Int->Bool->α)->Option α}(h1:Gd n F1)(h2:Gd n F2):Gd n (fun α K=>bif c then F1 α K else F2 α K):=by
 cases c
 ·exact h2
 ·exact h1
theorem Gd.ck{n:Nat}{c:Bool}{F: ∀ α:Type,(List Int->Bool->α)->Option α}(h1:c=true)(h2:Gd n F):Gd n (fun α K=>aS c (F α K)):=by
 subst h1
 exact h2
theorem Gd.some{n:Nat}{B:List Int}{O:Bool}(h:B.length<=n):Gd n (fun _ K=>some (K B O)):=⟨B,O,h,fun _ _=>rfl⟩
theorem DN(p:List Int)(o a b lo hi:Int)(l:List Int)(hp:p.length<=11)(h1: -9223372036854775808<=a)(h2:a<9223372036854775808)(hl:10*l.length+100<=1099511627776):
 Gd (11+30+10*l.length) (fun _ K=>uJ K p o a b lo hi l):=by
 have cA:=j9 (aV .u64 a)
 have cB:=j9 (aV .u64 b)
 have cL:=j9 (aV .u64 (Int.ofNat l.length))
 have cS:=qY a
 have cM:=Nu l (p++js (aV .u64 (Int.ofNat l.length)),Co o)
 have r1:=nv a
 have r2:=nv b
 have r3:=nv (Int.ofNat l.length)
 have cC:=JH a lo hi (kC o).1
 simp only[List.length_append]at cM
 dsimp only[uJ]
 simp only[bp]
 refine(.bif (.some ?_) (.bif (.bif (.ck ?_ (.some ?_)) (.bif (.ck ?_ (.some ?_)) (.bif (.ck ?_ (.some ?_)) (.bif (.ck ?_ (.some ?_)) (.ck ?_ (.ck ?_ (.ck ?_ (.ck ?_ (.some ?_))))))))) (.bif (.ck ?_ (.ck ?_ (.some ?_))) (.bif (.ck ?_ (.ck ?_ (.some ?_))) (.bif (.ck ?_ (.ck ?_ (.ck ?_ (.ck ?_ (.bif (.some ?_) (.some ?_)))))) (.bif (.ck ?_ (.ck ?_ (.ck ?_ (.ck ?_ (.ck ?_ (.ck ?_ (.ck ?_ (.bif (.some ?_) (.some ?_))))))))) (.bif (.ck ?_ (.ck ?_ (.ck ?_ (.ck ?_ (.ck ?_ (.ck ?_ (.ck ?_ (.bif (.some ?_) (.some ?_))))))))) (.bif (.ck ?_ (.ck ?_ (.ck ?_ (.ck ?_ (.ck ?_ (.ck ?_ (.bif (.bif (.some ?_) (.some ?_)) (.some ?_)))))))) (.ck ?_ (.some ?_))))))))))
 all_goals try (with_reducible apply bP)
 all_goals try simp only[Bool.and_eq_true,decide_eq_true_eq,List.length_append,List.length_cons,List.length_nil]
 all_goals first
  |omega
  |trivial
  |(refine⟨?_,?_,?_⟩<;>first|rfl|trivial|omega)
theorem Nv(o a b lo hi:Int)(l:List Int)(h1: -9223372036854775808<=a)(h2:a<9223372036854775808)(hl:10*l.length+100<=1099511627776):
 Gd (11+30+10*l.length) (fun _ K=>yz K o a b lo hi l):=by
 have cO:=j9 (aV .u64 (bO .i64 o 64768))
 have r1:=nv a
 have r2:=nv (bO .i64 o 64768)
 dsimp only[yz]
 simp only[bp]
 refine .bif (.some (by simp)) (.bif (.some (by simp)) (.bif (.ck ?_ (.ck ?_ (.ck ?_ (DN _ o a b lo hi l ?_ h1 h2 hl)))) (.ck ?_ (DN _ o a b lo hi l ?_ h1 h2 hl))))
 ·simp only[Bool.and_eq_true,decide_eq_true_eq];omega
 ·apply bP
  ·omega
  ·simp only[List.length_cons,List.length_nil];omega
 ·simp only[Bool.and_eq_true,decide_eq_true_eq];omega
 ·simp only[List.length_append,List.length_cons,List.length_nil];omega
 ·simp only[Bool.and_eq_true,decide_eq_true_eq];omega
 ·simp
def iK(x:ak t80):List Int×Bool:=(yz Prod.mk x.1 x.2.1 x.2.2.1 x.2.2.2.1 x.2.2.2.2.1 x.2.2.2.2.2.1).getD ([],false)
def okI(x:ak t80):Bool:=(decide (-9223372036854775808<=x.2.1)&&decide (x.2.1<9223372036854775808))&&decide (10*x.2.2.2.2.2.1.length+100<=1099511627776)
def s80:cQ:=iy (Ps [pI]) [] (Ps [.tu (Ps [.ow u8,.bo])]) t80 [.ae u8,.bool] fun x=>.ck (okI x) (.ok ((iK x).1,(iK x).2,()))
theorem w8{x:ak t80}(h:okI x=true):(iK x).1.length<=41+10*x.2.2.2.2.2.1.length/\ ∀ (α:Type) (K:List Int->Bool->α),yz K x.1 x.2.1 x.2.2.1 x.2.2.2.1 x.2.2.2.2.1 x.2.2.2.2.2.1=some (K (iK x).1 (iK x).2):=by
 simp only[okI,Bool.and_eq_true,decide_eq_true_eq]at h
 obtain⟨B,O,hB,hK⟩:=Nv x.1 x.2.1 x.2.2.1 x.2.2.2.1 x.2.2.2.2.1 x.2.2.2.2.2.1 h.1.1 h.1.2 h.2
 have e:iK x=(B,O):=by unfold iK;exact congrArg (fun z=>z.getD ([],false)) (hK _ Prod.mk)
 rw[e]
 exact⟨hB,hK⟩
theorem YF{aq:aB}(W:World aq):s80.Ok 99 aq:=by
 have hl:ed Rx.w (pO VO zA g80) (fun n d=>gG (aq n d) n (.bl 2 (.lp VO.body))):=iI (W.in (Nt W) 3) (aE _) (m:=3) YC
 refine dF (W.in (Nt W) 3) (W.st 99 _ rfl) rfl (L:=L80) (fq.jm (.cons (b:=VO.body) (by kernel_rfl) hl .nil)) (m:=3) rfl ?_
 rintro⟨o,a,b,lo,hi,l,⟨⟩⟩ q h
 obtain⟨h1,h2⟩:=Lf.T.aY h
 cases h2
 rw[YE]
 exact(w8 h1).2 _ k2
end Go.Proofs.Vd

noncomputable section
namespace Go.Proofs.Vd
open Go.Ab Go.Ab.Lf
set_option maxRecDepth 100000
abbrev BC:List Ty:=[.ae u8,.ae tI,i64,i64]
def VP:jW:=⟨0,fI Tryz.x84.code 0,[4,12,13,14],Ps [.ow u8,.im tI,.n .i64,.n .i64],[⟨.lL,[4],Ps [.ow u8]⟩,⟨.rt,[2,3],Ps [.ow u8,.n .i64]⟩]⟩
def e67:List (Nat×cQ):=[(98,s79),(99,s80)]
theorem Nw{aq:aB}(W:World aq):dh aq e67:=.cons (Yq W) (.cons (YF W) .nil)
def mI(x:den tI):ak t80:=(x.1,x.2.1,x.2.2.1,x.2.2.2.1,x.2.2.2.2.1,x.2.2.2.2.2,())
def yA(out:List Int)(x:den tI)(_:List (den tI)):List Int ⊕ Option (List Int):=bif (iK (mI x)).2 then .inl (out++(iK (mI x)).1)else .inr none
def qp(c:List (den tI))(out:List Int):Option (List Int):=gq yA some c out
def qt(c:List (den tI)):Nat:=c.foldr (fun x n=>41+10*x.2.2.2.2.2.length+n) 0
theorem yB(x:den tI)(c:List (den tI)):qt (x::c)=41+10*List.length x.2.2.2.2.2+qt c:=rfl
theorem HS(c:List (den tI)):41*c.length<=qt c:=by
 induction c with
 |nil=>simp[qt]
 |cons x c ih=>rw[yB];simp only[List.length_cons];omega
def F9(c:List (den tI)):Bool:=cb (fun x=>okI (mI x)) c
theorem jO{α:Type}{p:α->Bool}{x:α}{l:List α}(h:cb p (x::l)=true):p x=true/\cb p l=true:=by
 have h:(bif p x then cb p l else false)=true:=h
 cases q:p x with
 |true=>rw[q]at h;exact⟨rfl,h⟩
 |false=>rw[q]at h;cases h
def qk(c:List (den tI)):Bool:=F9 c&&decide (qt c<=1099511627776)
theorem DO(out:List Int)(c:List (den tI))(n i:Int):(VP.step (fun _=>none) (dH e67 3) 3 (aA BC (out,c,n,i,()))).val=
 bif decide (i<n)then bif bg i (Int.ofNat c.length)then bif okI (mI (c.getD i.toNat (ao tI)))then bif !(iK (mI (c.getD i.toNat (ao tI)))).2 then some (Rs.out 1 (aA [.ae u8,i64] ([],1,())))
  else bif roomy 1 (out.length+(iK (mI (c.getD i.toNat (ao tI)))).1.length)then some (Rs.next (aA BC (app out (iK (mI (c.getD i.toNat (ao tI)))).1,c,n,cf .i64 i 1,())))else none else none else none else some (Rs.out 0 (aA [.ae u8] (out,()))):=by kernel_rfl
theorem Ny(c:List (den tI))(hc:F9 c=true): ∀ (out y:List Int),qp c out=some y->y.length<=out.length+qt c:=by
 induction c with
 |nil=>
  intro out y h
  cases h
  exact Nat.le_add_right _ _
 |cons x c ih=>
  intro out y h
  obtain⟨h1,h2⟩:=jO hc
  have hp:(iK (mI x)).1.length<=41+10*List.length x.2.2.2.2.2:=(w8 h1).1
  have e:qp (x::c) out=(match yA out x c with| .inl s=>qp c s| .inr o=>o):=by
   show gq yA some (x::c) out=_
   rw[gq]
   cases yA out x c<;>rfl
  rw[e]at h
  unfold yA at h
  cases q:(iK (mI x)).2 with
  |true=>
   rw[q]at h
   have:=ih h2 _ _ h
   rw[yB]
   simp only[List.length_append]at this
   omega
  |false=>rw[q]at h;cases h
theorem S8(out:List Int)(c:List (den tI))(hc:F9 c=true)(hs:out.length+qt c<=1099511627776):
 gQ (VP.step (fun _=>none) (dH e67 3) 3) (aA BC (out,c,(c.length:Int),0,())) (match qp c out with|some _=>0|none=>1) (match qp c out with|some y=>aA [.ae u8] (y,())|none=>aA [.ae u8,i64] ([],1,())):=by
 have hl:=HS c
 have:=SK (f:=VP.step (fun _=>none) (dH e67 3) 3) (l:=c) (fun(out:List Int) j=>aA BC (out,c,(c.length:Int),(j:Int),())) yA (fun q=>(some q:Option (List Int)))
  (fun o=>(match o with|some _=>0|none=>1,match o with|some y=>aA [.ae u8] (y,())|none=>aA [.ae u8,i64] ([],1,()))) (fun out r=>F9 r=true/\out.length+qt r<=1099511627776) (fun out j x r h hi=>by
  obtain⟨h1,h2⟩:=dn h (ao tI)
  obtain⟨k0,k3⟩:=hi
  obtain⟨k1,k2⟩:=jO k0
  have hr:c.length=j+1+r.length:=by have:=congrArg List.length h;simp at this;omega
  rw[yB]at k3
  have hp:(iK (mI x)).1.length<=41+10*List.length x.2.2.2.2.2:=(w8 k1).1
  have hj:j<4611686018427387904:=by omega
  have hro:roomy 1 (out.length+(iK (mI x)).1.length)=true:=bP (by omega) (by omega)
  refine⟨?_,fun s' e=>?_⟩
  ·rw[DO,dY h1,cond_true,bZ h1,cond_true,Int.toNat_natCast,h2,kA hj,k1,hro,bp]
   unfold yA
   cases(iK (mI x)).2<;>rfl
  ·unfold yA at e
   cases q:(iK (mI x)).2 with
   |true=>rw[q]at e;cases e;refine⟨k2,?_⟩;rw[List.length_append];omega
   |false=>rw[q]at e;cases e) (fun q j h hj hi=>by
  have:j=c.length:=by have:=List.drop_eq_nil_iff.1 h;omega
  subst this
  rw[DO,dj (Nat.le_refl _)]
  rfl) c 0 out rfl (by omega) ⟨hc,hs⟩
 exact this
def g67:ak BC->T (Nat×List Pl):=fun x=>.ck ((decide (x.1.length=0)&&qk x.2.1)&&(decide (x.2.2.1=(x.2.1.length:Int))&&decide (x.2.2.2.1=0)))
 (.br (qp x.2.1 []).isSome (.ok (0,aA [.ae u8] ((qp x.2.1 []).getD [],()))) (.ok (1,aA [.ae u8,i64] ([],1,()))))
theorem YG(x:ak BC)(k:Nat)(q:List Pl)(h:(g67 x).val=some (k,q)):gQ (VP.step (fun _=>none) (dH e67 3) 3) (aA BC x) k q:=by
 obtain⟨out,c,n,i,⟨⟩⟩:=x
 obtain⟨h1,h2⟩:=Lf.T.aY h
 simp only[Bool.and_eq_true,decide_eq_true_eq,qk]at h1
 obtain⟨⟨b1,b2,b3⟩,b4,b5⟩:=h1
 have b1:=List.eq_nil_of_length_eq_zero b1
 subst b1;subst b4;subst b5
 have:=S8 [] c b2 (by simpa using b3)
 rw[Lf.T.dX]at h2
 cases hm:qp c []with
 |none=>rw[hm]at h2 this;cases h2;exact this
 |some y=>rw[hm]at h2 this;cases h2;exact this
def F'(c:List (den tI)):Option (List Int):=bif iW c then qp c []else none
def pU(c:List (den tI)):List Int:=(F' c).getD []
def nf(c:List (den tI)):Int:=bif (F' c).isSome then 0 else 1
theorem DP(c:List (den tI))(hc:F9 c=true):(pU c).length<=qt c:=by
 unfold pU F'
 cases iW c with
 |false=>exact Nat.zero_le _
 |true=>
  cases h:qp c []with
  |none=>simp
  |some y=>have:=Ny c hc _ _ h;simpa using this
def L67:Nat->Option fE:=pP [(0,pO VP BC g67)]
def s67:cQ:=iy (Ps [.im tI]) [] (Ps [.tu (Ps [.ow u8,.n .i64])]) [.ae tI] [.ae u8,i64] fun x=>.ck (qk x.1) (.ok (pU x.1,nf x.1,()))
theorem YH(c:List (den tI)):(je (Ps [.im tI]) [] (Ps [.tu (Ps [.ow u8,.n .i64])]) L67 Tryz.x84 3 (dH e67 3) (aA [.ae tI] (c,()))).val=
 bif decide (c.length<=1099511627776)then bif !iW c then some (aA [.ae u8,i64] ([],1,()))else bif (decide ((0:Nat)=0)&&qk c)&&(decide ((c.length:Int)=(c.length:Int))&&decide ((0:Int)=0))then
  bif (qp c []).isSome then some (aA [.ae u8,i64] ((qp c []).getD [],0,()))else some (aA [.ae u8,i64] ([],1,()))else none else none:=by kernel_rfl
theorem YI{aq:aB}(W:World aq):s67.Ok 84 aq:=by
 have hl:ed Rx.w (pO VP BC g67) (fun n d=>gG (aq n d) n (.bl 0 (.lp VP.body))):=iI (W.in (Nw W) 3) (aE _) (m:=3) YG
 refine dF (W.in (Nw W) 3) (W.st 84 _ rfl) rfl (L:=L67) (fq.jm (.cons (b:=VP.body) (by kernel_rfl) hl .nil)) (m:=3) rfl ?_
 rintro⟨c,⟨⟩⟩ q h
 obtain⟨h1,h2⟩:=Lf.T.aY h
 cases h2
 have h1:qk c=true:=h1
 have hw:=HS c
 have h3:qt c<=1099511627776:=by simp only[qk,Bool.and_eq_true,decide_eq_true_eq]at h1;exact h1.2
 have h4:c.length<=1099511627776:=by omega
 rw[YH,decide_eq_true h4,h1]
 unfold pU nf F'
 cases iW c with
 |false=>rfl
 |true=>
  simp only[decide_true,Bool.and_self,cond_true,Bool.not_true,cond_false]
  cases qp c []<;>rfl
end Go.Proofs.Vd
