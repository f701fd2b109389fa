import Derived.Test.YtjeanplhkkpdmaaGreatDoorLfG
import Derived.Test.YtjeanplhkkpdmaaGreatDoorXbI
noncomputable section
namespace Go.Proofs
open Go.Ab Go.Ab.Lf
set_option maxRecDepth 100000
def Tryz.xs:Tr Cv:=(.node (.node (.node (.node (.node (.node (.node (.node .nil (some Tryz.azT) .nil) (some Tryz.x63) (.node .nil (some Tryz.alD) .nil)) (some Tryz.x31) (.node (.node .nil (some Tryz.az7) .nil) (some Tryz.x95) .nil)) (some Tryz.x15) (.node (.node (.node .nil (some Tryz.asO) .nil) (some Tryz.x79) (.node .nil (some Tryz.asY) .nil)) none (.node (.node .nil none .nil) (some Tryz.azL) .nil))) (some Tryz.x7) (.node (.node (.node (.node .nil (some Tryz.azX) .nil) (some Tryz.x71) (.node .nil none .nil)) (some Tryz.x39) (.node (.node .nil (some Tryz.asP) .nil) (some Tryz.asJ) .nil)) (some Tryz.x23) (.node (.node (.node .nil none .nil) (some Tryz.x87) .nil) (some Tryz.x55) (.node (.node .nil none .nil) (some Tryz.azO) .nil)))) (some Tryz.x3) (.node (.node (.node (.node (.node .nil (some Tryz.azW) .nil) (some Tryz.x67) (.node .nil (some Tryz.asW) .nil)) (some Tryz.x35) (.node (.node .nil (some Tryz.az') .nil) (some Tryz.x99) .nil)) none (.node (.node (.node .nil none .nil) (some Tryz.x83) .nil) (some Tryz.x51) (.node (.node .nil none .nil) (some Tryz.alo) .nil))) (some Tryz.Hg) (.node (.node (.node (.node .nil (some Tryz.Xi) .nil) (some Tryz.x75) (.node .nil (some Tryz.aAp) .nil)) none (.node (.node .nil (some Tryz.asS) .nil) (some Tryz.azI) .nil)) (some Tryz.x27) (.node (.node (.node .nil none .nil) (some Tryz.x91) .nil) (some Tryz.x59) (.node (.node .nil (some Tryz.aAi) .nil) (some Tryz.azR) .nil))))) none (.node (.node (.node (.node (.node (.node .nil (some Tryz.alu) .nil) (some Tryz.x65) (.node .nil (some Tryz.alF) .nil)) (some Tryz.x33) (.node (.node .nil (some Tryz.az9) .nil) (some Tryz.x97) .nil)) (some Tryz.x17) (.node (.node (.node .nil (some Tryz.azZ) .nil) (some Tryz.x81) .nil) none (.node (.node .nil (some Tryz.aAe) .nil) (some Tryz.alm) .nil))) (some Tryz.x9) (.node (.node (.node (.node .nil (some Tryz.asM) .nil) (some Tryz.x73) (.node .nil (some Tryz.aAn) .nil)) (some Tryz.x41) (.node (.node .nil (some Tryz.asQ) .nil) none .nil)) (some Tryz.x25) (.node (.node (.node .nil none .nil) (some Tryz.x89) .nil) (some Tryz.x57) (.node (.node .nil (some Tryz.aAg) .nil) (some Tryz.azP) .nil)))) (some Tryz.x5) (.node (.node (.node (.node (.node .nil (some Tryz.Xh) .nil) (some Tryz.x69) (.node .nil (some Tryz.asX) .nil)) (some Tryz.x37) (.node (.node .nil (some Tryz.aAa) .nil) (some Tryz.asH) .nil)) (some Tryz.x21) (.node (.node (.node .nil (some Tryz.az1) .nil) (some Tryz.x85) .nil) (some Tryz.x53) (.node (.node .nil none .nil) (some Tryz.azN) .nil))) (some Tryz.x13) (.node (.node (.node (.node .nil (some Tryz.asN) .nil) (some Tryz.x77) (.node .nil (some Tryz.alI) .nil)) none (.node (.node .nil (some Tryz.aAc) .nil) (some Tryz.azK) .nil)) (some Tryz.x29) (.node (.node (.node .nil (some Tryz.az5) .nil) (some Tryz.x93) .nil) (some Tryz.x61) (.node (.node .nil (some Tryz.aAk) .nil) (some Tryz.azS) .nil)))))) none (.node (.node (.node (.node (.node (.node (.node .nil (some Tryz.azU) .nil) (some Tryz.x64) (.node .nil (some Tryz.alE) .nil)) (some Tryz.x32) (.node (.node .nil (some Tryz.az8) .nil) (some Tryz.x96) .nil)) none (.node (.node (.node .nil (some Tryz.aly) .nil) (some Tryz.x80) (.node .nil (some Tryz.aAr) .nil)) (some Tryz.x48) (.node (.node .nil (some Tryz.aAd) .nil) (some Tryz.asK) .nil))) (some Tryz.x8) (.node (.node (.node (.node .nil (some Tryz.ads) .nil) (some Tryz.x72) (.node .nil (some Tryz.aAm) .nil)) none (.node (.node .nil (some Tryz.alB) .nil) (some Tryz.azG) .nil)) (some Tryz.x24) (.node (.node (.node .nil (some Tryz.az3) .nil) (some Tryz.x88) .nil) (some Tryz.x56) (.node (.node .nil (some Tryz.aAf) .nil) (some Tryz.Xg) .nil)))) none (.node (.node (.node (.node (.node .nil (some Tryz.alv) .nil) (some Tryz.x68) (.node .nil (some Tryz.alG) .nil)) none (.node (.node .nil (some Tryz.alA) .nil) (some Tryz.azF) .nil)) none (.node (.node (.node .nil none .nil) (some Tryz.x84) .nil) (some Tryz.x52) (.node (.node .nil none .nil) (some Tryz.azM) .nil))) (some Tryz.x12) (.node (.node (.node (.node .nil (some Tryz.adt) .nil) (some Tryz.x76) (.node .nil (some Tryz.alH) .nil)) (some Tryz.x44) (.node (.node .nil (some Tryz.asU) .nil) (some Tryz.azJ) .nil)) (some Tryz.x28) (.node (.node (.node .nil (some Tryz.az4) .nil) (some Tryz.x92) .nil) (some Tryz.x60) (.node (.node .nil (some Tryz.aAj) .nil) (some Tryz.alq) .nil))))) none (.node (.node (.node (.node (.node (.node .nil (some Tryz.azV) .nil) (some Tryz.x66) (.node .nil (some Tryz.asV) .nil)) none (.node (.node .nil (some Tryz.alz) .nil) (some Tryz.x98) .nil)) none (.node (.node (.node .nil (some Tryz.az0) .nil) (some Tryz.x82) .nil) (some Tryz.x50) (.node (.node .nil none .nil) (some Tryz.aln) .nil))) (some Tryz.DX) (.node (.node (.node (.node .nil (some Tryz.alx) .nil) (some Tryz.x74) (.node .nil (some Tryz.aAo) .nil)) (some Tryz.x42) (.node (.node .nil (some Tryz.asR) .nil) (some Tryz.azH) .nil)) (some Tryz.x26) (.node (.node (.node .nil none .nil) (some Tryz.x90) .nil) (some Tryz.x58) (.node (.node .nil (some Tryz.aAh) .nil) (some Tryz.azQ) .nil)))) (some Tryz.x6) (.node (.node (.node (.node (.node .nil (some Tryz.alw) .nil) (some Tryz.x70) (.node .nil none .nil)) none (.node (.node .nil (some Tryz.aAb) .nil) (some Tryz.asI) .nil)) (some Tryz.x22) (.node (.node (.node .nil (some Tryz.az2) .nil) (some Tryz.x86) .nil) (some Tryz.x54) (.node (.node .nil none .nil) (some Tryz.alp) .nil))) none (.node (.node (.node (.node .nil (some Tryz.azY) .nil) (some Tryz.x78) (.node .nil (some Tryz.aAq) .nil)) none (.node (.node .nil (some Tryz.alC) .nil) (some Tryz.alk) .nil)) (some Tryz.x30) (.node (.node (.node .nil (some Tryz.az6) .nil) (some Tryz.x94) .nil) (some Tryz.x62) (.node (.node .nil (some Tryz.aAl) .nil) (some Tryz.alr) .nil)))))))
def bkD:FuncId->Option Cv:=fun f=>bif (Nat.beq f 5||Nat.beq f 163)then none else Tryz.xs.get f
end Go.Proofs
noncomputable section
namespace Go.Proofs.Vd
open Go.Ab Go.Ab.Lf
set_option maxRecDepth 100000
abbrev i64:Ty:=.int .i64
abbrev u64:Ty:=.int .u64
abbrev u8:Ty:=.int .u8
abbrev tI:Ty:=.pair i64 (.pair i64 (.pair i64 (.pair u64 (.pair u64 (.cq i64)))))
abbrev Ps(l:List n9):n9:=l.foldr .cons .nil
abbrev oc(g:Nat):n9:=.pt g (Ps [.ow u8,.bo])
def j7(l:List (Nat×jJ))(m:Nat):lL:=inl bkD (ald l) m 12
structure World(cb:cx):Prop where
 st: ∀ f b,bkD f=some b->sJ cb f b
theorem World.in{cb:cx}(W:World cb){l:List (Nat×jJ)}(h:j1 cb l)(m:Nat):vu (j7 l m) cb:=W7 W.st h.ok 12
theorem jW{b n:Nat}(hb:b<=64)(h:n<=1099511627776):roomy b n=true:=by
 rw[tC];refine⟨?_,by omega⟩
 calc n*b<=1099511627776*64:=Nat.mul_le_mul h hb
  _<=70368744177664:=by decide
def s28:jJ:=kR (Ps [oc 0,.bo]) [2] (Ps [.tu .nil,oc 2]) [.cq u8,.bool,.bool] [.cq u8,.bool] fun x=>.ok (x.1,x.2.1|| !x.2.2.1,())
def s31:jJ:=kR (Ps [oc 0,.im u8]) [2] (Ps [.tu .nil,oc 2]) [.cq u8,.bool,.cq u8] [.cq u8,.bool] fun x=>.ck (decide (x.1.length+x.2.2.1.length<=1099511627776)) (.ok (x.1++x.2.2.1,x.2.1,()))
theorem yj{cb:cx}(W:World cb):s28.Ok 109 cb:=by
 refine j4 (W.in .nil 3) (W.st 109 _ rfl) rfl (cp _) (m:=3) rfl ?_;rintro⟨b,x,y,⟨⟩⟩ q h;cases h;cases x<;>kernel_rfl
theorem OO{cb:cx}(W:World cb):s31.Ok 112 cb:=by
 refine j4 (W.in .nil 3) (W.st 112 _ rfl) rfl (cp _) (m:=3) rfl ?_;rintro⟨b,x,y,⟨⟩⟩ q h;obtain⟨h1,h2⟩:=Lf.T.cw h;cases h2
 have e:(mN (Ps [oc 0,.im u8]) [2] (Ps [.tu .nil,oc 2]) (fun _=>none) Tryz.asK 3 (j7 [] 3) (cg [.cq u8,.bool,.cq u8] (b,x,y,()))).val=bif roomy 1 (b.length+y.length)then some (cg [.cq u8,.bool] (app b y,x,()))else none:=by kernel_rfl
 rw[e,jW (by omega) (by simpa using h1),cZ];rfl
def vn:Nat->Int->List Int
 |0,_=>[]
 |k+1,n=>if 128<=n then Cw .u8 (cI .u8 n) 128::vn k (qR .u64 n 7)else []
def BQ:Nat->Int->Int
 |0,n=>n
 |k+1,n=>if 128<=n then BQ k (qR .u64 n 7)else n
def qc(n:Int):List Int:=vn 9 n++[cI .u8 (BQ 9 n)]
theorem Gc: ∀ (k:Nat) (n:Int),(vn k n).length<=k
 |0,_=>Nat.le_refl _
 |k+1,n=>by
  unfold vn;split
  ·have:=Gc k (qR .u64 n 7);simp;omega
  ·simp
theorem qZ(n:Int):(qc n).length<=10:=by have:=Gc 9 n;unfold qc;simp;omega
abbrev t65:List Ty:=[.cq u8,u64,.cq u64,i64,i64]
def l65:qV:=⟨2,mV Tryz.alz.code 2,[3,5,6,7,8],Ps [.ow u8,.n .u64,.im u64,.n .i64,.n .i64],[⟨.s7,[3,5,6,7,8],Ps [.ow u8,.n .u64,.im u64,.n .i64,.n .i64]⟩]⟩
theorem Ge(o:List Int)(n:Int)(l:List Int)(a i:Int):l65.step (fun _=>none) (j7 [] 3) 3 (cg t65 (o,n,l,a,i,()))=
 .br (decide (128<=n)) (.ck (roomy 1 (o.length+1)) (.ok (.next (cg t65 (app o [Cw .u8 (cI .u8 n) 128],qR .u64 n 7,l,a,i,()))))) (.ok (.out 0 (cg t65 (o,n,l,a,i,())))):=by kernel_rfl
theorem aAs(n:Int):qR .u64 n 7=n.fdiv 128:=rfl
theorem Qy: ∀ (k:Nat) (o:List Int) (n:Int) (l:List Int) (a i:Int),0<=n->n<128 ^ (k+1)->o.length+k<=1099511627776->
 oU (l65.step (fun _=>none) (j7 [] 3) 3) (cg t65 (o,n,l,a,i,())) 0 (cg t65 (o++vn k n,BQ k n,l,a,i,()))
 |0,o,n,l,a,i,h0,h1,h2=>by
  refine .last ?_;rw[Ge,Lf.T.kX];have:decide (128<=n)=false:=decide_eq_false (by omega);rw[this];simp[vn,BQ,Lf.T.w5]
 |k+1,o,n,l,a,i,h0,h1,h2=>by
  by_cases hn:128<=n
  ·have hs:qR .u64 n 7=n / 128:=by rw[aAs,Int.fdiv_eq_ediv_of_nonneg _ (by omega)]
   have ih:=Qy k (o++[Cw .u8 (cI .u8 n) 128]) (n / 128) l a i (by omega) (by
    rw[Int.pow_succ]at h1
    exact Int.ediv_lt_of_lt_mul (by omega) h1) (by simp;omega)
   refine .more (pl':=cg t65 (o++[Cw .u8 (cI .u8 n) 128],n / 128,l,a,i,())) ?_ ?_
   ·rw[Ge,Lf.T.kX,decide_eq_true hn,cond_true,Lf.T.qS,jW (by omega) (by omega),cZ,hs];rfl
   ·have e1:vn (k+1) n=Cw .u8 (cI .u8 n) 128::vn k (n / 128):=by rw[<-hs];exact if_pos hn
    have e2:BQ (k+1) n=BQ k (n / 128):=by rw[<-hs];exact if_pos hn
    rw[e1,e2]
    simpa using ih
  ·refine .last ?_;rw[Ge,Lf.T.kX,decide_eq_false hn];have e1:vn (k+1) n=[]:=if_neg hn;have e2:BQ (k+1) n=n:=if_neg hn;rw[e1,e2,List.append_nil];rfl
def g65:ca t65->T (Nat×List Pl):=fun x=>.ck ((decide (0<=x.2.1)&&decide (x.2.1<18446744073709551616))&&decide (x.1.length+10<=1099511627776)) (.ok (0,cg t65 (x.1++vn 9 x.2.1,BQ 9 x.2.1,x.2.2.1,x.2.2.2.1,x.2.2.2.2.1,())))
def s65:jJ:=kR (Ps [.im u64]) [] (Ps [.ow u8]) [.cq u64] [.cq u8] fun x=>match x.1 with
 | [n]=>.ck (decide (0<=n)&&decide (n<18446744073709551616)) (.ok (qc n,()))
 | _=>.bad
theorem Xj{cb:cx}(W:World cb):s65.Ok 162 cb:=by
 have hl:lE Rx.w (w6 l65 t65 g65) (fun n d=>nO (cb n d) n (.bl 2 (.lp l65.body))):=by
  refine oW (W.in .nil 3) (cp _) (m:=3) ?_;rintro⟨o,n,l,a,i,⟨⟩⟩ k q h;obtain⟨h1,h2⟩:=Lf.T.cw h;cases h2;simp only[Bool.and_eq_true,decide_eq_true_eq]at h1;exact Qy 9 o n l a i h1.1.1 (Int.lt_trans h1.1.2 (by decide)) (by omega)
 refine j4 (W.in .nil 3) (W.st 162 _ rfl) rfl (L:=vF [(2,w6 l65 t65 g65)]) (mz.pH (.cons (b:=l65.body) (by kernel_rfl) hl .nil)) (m:=3) rfl ?_;rintro⟨l,⟨⟩⟩ q h
 change (match l with| [n]=>(.ck (decide (0<=n)&&decide (n<18446744073709551616)) (.ok (qc n,())):T (ca [.cq u8]))| _=>.bad).val=some q at h
 split at h
 ·rename_i n
  obtain⟨h1,h2⟩:=Lf.T.cw h;cases h2
  have e:(mN (Ps [.im u64]) [] (Ps [.ow u8]) (vF [(2,w6 l65 t65 g65)]) Tryz.alz 3 (j7 [] 3) (cg [.cq u64] ([n],()))).val=
   bif (decide (0<=n)&&decide (n<18446744073709551616))&&true then(bif roomy 1 ((vn 9 n).length+1)then some (cg [.cq u8] (app (vn 9 n) [cI .u8 (BQ 9 n)],()))else none)else none:=by kernel_rfl
  rw[e,h1,jW (by omega) (by have:=Gc 9 n;omega),cZ];rfl
 ·cases h
def BR(s:List Int×Bool)(n:Int):List Int×Bool:=(s.1++qc (cI .u64 n),s.2|| !(decide (0<=n)&&decide (n<4294967296)))
def jU(s:List Int×Bool)(l:List Int):List Int×Bool:=l.foldl BR s
abbrev t32:List Ty:=[.cq u8,.bool,.cq i64,i64,i64]
abbrev P32:n9:=Ps [oc 2,.im i64,.n .i64,.n .i64]
def l32:qV:=⟨0,mV Tryz.alm.code 0,[0,6,7,8],P32,[⟨.s7,[0,6,7,8],P32⟩]⟩
def e32:List (Nat×jJ):=[(109,s28),(162,s65)]
theorem alK{cb:cx}(W:World cb):j1 cb e32:=.cons (yj W) (.cons (Xj W) .nil)
theorem Mi(b:List Int)(bad:Bool)(l:List Int)(n i:Int):l32.step (fun _=>none) (j7 e32 3) 3 (cg t32 (b,bad,l,n,i,()))=
 .br (decide (i<n)) (.ck (jA i (Int.ofNat l.length)) (let x:=l.getD i.toNat (cr i64)
  .br (decide (0<=x)) (.ck (decide (0<=cI .u64 x)&&decide (cI .u64 x<18446744073709551616)) (.ck (roomy 1 (b.length+(qc (cI .u64 x)).length)) (.ok (.next (cg t32 (app b (qc (cI .u64 x)),bad|| !decide (x<4294967296),l,n,jR .i64 i 1,()))))))
   (.ck (decide (0<=cI .u64 x)&&decide (cI .u64 x<18446744073709551616)) (.ck (roomy 1 (b.length+(qc (cI .u64 x)).length)) (.ok (.next (cg t32 (app b (qc (cI .u64 x)),bad|| !false,l,n,jR .i64 i 1,()))))))))
  (.ok (.out 0 (cg t32 (b,bad,l,n,i,())))):=by kernel_rfl
theorem adv(l:List Int)(b:List Int)(bad:Bool)(hl:b.length+10*l.length<=1099511627776):
 oU (l32.step (fun _=>none) (j7 e32 3) 3) (cg t32 (b,bad,l,(l.length:Int),0,())) 0 (cg t32 ((jU (b,bad) l).1,(jU (b,bad) l).2,l,(l.length:Int),(l.length:Int),())):=by
 have:=SL (f:=l32.step (fun _=>none) (j7 e32 3) 3) (l:=l) (fun(s:List Int×Bool) j=>cg t32 (s.1,s.2,l,(l.length:Int),(j:Int),())) (fun s x=>.inl (BR s x)) (fun s=>(0,cg t32 (s.1,s.2,l,(l.length:Int),(l.length:Int),()))) (fun s r=>s.1.length+10*r.length<=1099511627776) (fun s j x r h hi=>by
  obtain⟨b,bad⟩:=s;obtain⟨h1,h2⟩:=kq h (cr i64);have hp:=qZ (cI .u64 x);simp only[List.length_cons]at hi;refine⟨?_,fun s' e=>by cases e;simp only[BR,List.length_append];omega⟩
  have hj:j<4611686018427387904:=by omega
  rw[Mi,Lf.T.kX,kY h1,cond_true,Lf.T.qS,kF h1,cond_true,Int.toNat_natCast,h2,rM hj];simp only[Lf.T.kX,Lf.T.qS,(uS x).1,(uS x).2,decide_true,Bool.and_true,cond_true,jW (b:=1) (n:=b.length+(qc (cI .u64 x)).length) (by omega) (by omega),cZ];unfold BR;by_cases hx:0<=x
  ·simp[hx,Hf,Lf.T.w5]
  ·simp[hx,Hf,Lf.T.w5]) (fun s j h hj hi=>by
  have:j=l.length:=by have:=List.drop_eq_nil_iff.1 h;omega
  subst this;rw[Mi,Lf.T.kX,km (Nat.le_refl _)]
  rfl) l 0 (b,bad) rfl (by omega) hl
 rw[mP]at this;exact this
def g32:ca t32->T (Nat×List Pl):=fun x=>.ck (decide (x.2.2.2.1=(x.2.2.1.length:Int))&&(decide (x.2.2.2.2.1=0)&&decide (x.1.length+10*x.2.2.1.length<=1099511627776)))
 (.ok (0,cg t32 ((jU (x.1,x.2.1) x.2.2.1).1,(jU (x.1,x.2.1) x.2.2.1).2,x.2.2.1,(x.2.2.1.length:Int),(x.2.2.1.length:Int),())))
def s32:jJ:=kR (Ps [oc 0,.im i64]) [2] (Ps [.tu .nil,oc 2]) [.cq u8,.bool,.cq i64] [.cq u8,.bool] fun x=>.ck (decide (x.1.length+10*x.2.2.1.length<=1099511627776)) (.ok ((jU (x.1,x.2.1) x.2.2.1).1,(jU (x.1,x.2.1) x.2.2.1).2,()))
theorem Gf{cb:cx}(W:World cb):s32.Ok 113 cb:=by
 have C:=W.in (alK W) 3;have hl:lE Rx.w (w6 l32 t32 g32) (fun n d=>nO (cb n d) n (.bl 0 (.lp l32.body))):=by
  refine oW C (cp _) (m:=3) ?_;rintro⟨b,bad,l,n,i,⟨⟩⟩ k q h;obtain⟨h1,h2⟩:=Lf.T.cw h;cases h2;simp only[Bool.and_eq_true,decide_eq_true_eq]at h1;obtain⟨rfl,rfl,h3⟩:=h1;exact adv l b bad h3
 refine j4 C (W.st 113 _ rfl) rfl (L:=vF [(0,w6 l32 t32 g32)]) (mz.pH (.cons (b:=l32.body) (by kernel_rfl) hl .nil)) (m:=3) rfl ?_;rintro⟨b,bad,l,⟨⟩⟩ q h;obtain⟨h1,h2⟩:=Lf.T.cw h;cases h2
 have e:(mN (Ps [oc 0,.im i64]) [2] (Ps [.tu .nil,oc 2]) (vF [(0,w6 l32 t32 g32)]) Tryz.alm 3 (j7 e32 3) (cg [.cq u8,.bool,.cq i64] (b,bad,l,()))).val=
  bif (decide ((l.length:Int)=(l.length:Int))&&(decide ((0:Int)=0)&&decide (b.length+10*l.length<=1099511627776)))then some (cg [.cq u8,.bool] ((jU (b,bad) l).1,(jU (b,bad) l).2,()))else none:=by kernel_rfl
 have uR:decide (b.length+10*l.length<=1099511627776)=true:=h1;rw[e,uR];simp
def w8(s:List Int×Bool)(t:Int):List Int×Bool:=(s.1++[cI .u8 t],s.2|| !(decide (t=127)||(decide (t=126)||decide (t=123))))
def mG(s:List Int×Bool)(l:List Int):List Int×Bool:=l.foldl w8 s
def l33:qV:=⟨0,mV Tryz.aln.code 0,[0,6,7,8],P32,[⟨.s7,[0,6,7,8],P32⟩]⟩
def e33:List (Nat×jJ):=[(109,s28),(112,s31)]
theorem alL{cb:cx}(W:World cb):j1 cb e33:=.cons (yj W) (.cons (OO W) .nil)
theorem Mj(b:List Int)(bad:Bool)(l:List Int)(n i:Int):l33.step (fun _=>none) (j7 e33 3) 3 (cg t32 (b,bad,l,n,i,()))=
 .br (decide (i<n)) (.ck (jA i (Int.ofNat l.length)) (let x:=l.getD i.toNat (cr i64)
  let r:=fun c=>T.ck (decide (b.length+[cI .u8 x].length<=1099511627776)) (T.ok (Rs.next (cg t32 (b++[cI .u8 x],bad|| !c,l,n,jR .i64 i 1,()))))
  .br (decide (x=127)) (r true) (.br (decide (x=126)) (r true) (r (decide (x=123))))))
  (.ok (.out 0 (cg t32 (b,bad,l,n,i,())))):=by kernel_rfl
theorem adw(l:List Int)(b:List Int)(bad:Bool)(hl:b.length+l.length<=1099511627776):
 oU (l33.step (fun _=>none) (j7 e33 3) 3) (cg t32 (b,bad,l,(l.length:Int),0,())) 0 (cg t32 ((mG (b,bad) l).1,(mG (b,bad) l).2,l,(l.length:Int),(l.length:Int),())):=by
 have:=SL (f:=l33.step (fun _=>none) (j7 e33 3) 3) (l:=l) (fun(s:List Int×Bool) j=>cg t32 (s.1,s.2,l,(l.length:Int),(j:Int),())) (fun s x=>.inl (w8 s x)) (fun s=>(0,cg t32 (s.1,s.2,l,(l.length:Int),(l.length:Int),()))) (fun s r=>s.1.length+r.length<=1099511627776) (fun s j x r h hi=>by
  obtain⟨b,bad⟩:=s;obtain⟨h1,h2⟩:=kq h (cr i64);simp only[List.length_cons]at hi;refine⟨?_,fun s' e=>by cases e;simp[w8];omega⟩
  have hj:j<4611686018427387904:=by omega
  rw[Mj,Lf.T.kX,kY h1,cond_true,Lf.T.qS,kF h1,cond_true,Int.toNat_natCast,h2,rM hj]
  have hb:b.length+1<=1099511627776:=by omega
  unfold w8;by_cases h3:x=127
  ·simp[h3,Hf,Lf.T.w5,Lf.T.kX,Lf.T.qS,hb]
  ·by_cases h4:x=126
   ·simp[h4,Hf,Lf.T.w5,Lf.T.kX,Lf.T.qS,hb]
   ·simp[h3,h4,Hf,Lf.T.w5,Lf.T.kX,Lf.T.qS,hb]) (fun s j h hj hi=>by
  have:j=l.length:=by have:=List.drop_eq_nil_iff.1 h;omega
  subst this;rw[Mj,Lf.T.kX,km (Nat.le_refl _)]
  rfl) l 0 (b,bad) rfl (by omega) hl
 rw[mP]at this;exact this
def g33:ca t32->T (Nat×List Pl):=fun x=>.ck (decide (x.2.2.2.1=(x.2.2.1.length:Int))&&(decide (x.2.2.2.2.1=0)&&decide (x.1.length+x.2.2.1.length<=1099511627776)))
 (.ok (0,cg t32 ((mG (x.1,x.2.1) x.2.2.1).1,(mG (x.1,x.2.1) x.2.2.1).2,x.2.2.1,(x.2.2.1.length:Int),(x.2.2.1.length:Int),())))
def s33:jJ:=kR (Ps [oc 0,.im i64]) [2] (Ps [.tu .nil,oc 2]) [.cq u8,.bool,.cq i64] [.cq u8,.bool] fun x=>.ck (decide (x.1.length+x.2.2.1.length<=1099511627776)) (.ok ((mG (x.1,x.2.1) x.2.2.1).1,(mG (x.1,x.2.1) x.2.2.1).2,()))
theorem Xk{cb:cx}(W:World cb):s33.Ok 114 cb:=by
 have C:=W.in (alL W) 3;have hl:lE Rx.w (w6 l33 t32 g33) (fun n d=>nO (cb n d) n (.bl 0 (.lp l33.body))):=by
  refine oW C (cp _) (m:=3) ?_;rintro⟨b,bad,l,n,i,⟨⟩⟩ k q h;obtain⟨h1,h2⟩:=Lf.T.cw h;cases h2;simp only[Bool.and_eq_true,decide_eq_true_eq]at h1;obtain⟨rfl,rfl,h3⟩:=h1;exact adw l b bad h3
 refine j4 C (W.st 114 _ rfl) rfl (L:=vF [(0,w6 l33 t32 g33)]) (mz.pH (.cons (b:=l33.body) (by kernel_rfl) hl .nil)) (m:=3) rfl ?_;rintro⟨b,bad,l,⟨⟩⟩ q h;obtain⟨h1,h2⟩:=Lf.T.cw h;cases h2
 have e:(mN (Ps [oc 0,.im i64]) [2] (Ps [.tu .nil,oc 2]) (vF [(0,w6 l33 t32 g33)]) Tryz.aln 3 (j7 e33 3) (cg [.cq u8,.bool,.cq i64] (b,bad,l,()))).val=
  bif (decide ((l.length:Int)=(l.length:Int))&&(decide ((0:Int)=0)&&decide (b.length+l.length<=1099511627776)))then some (cg [.cq u8,.bool] ((mG (b,bad) l).1,(mG (b,bad) l).2,()))else none:=by kernel_rfl
 have uR:decide (b.length+l.length<=1099511627776)=true:=h1;rw[e,uR];simp
def DY:Nat->Int->List Int
 |0,_=>[]
 |k+1,n=>if n< -64∨63<n then Cw .u8 (cI .u8 n) 128::DY k (qR .i64 n 7)else []
def BS:Nat->Int->Int
 |0,n=>n
 |k+1,n=>if n< -64∨63<n then BS k (qR .i64 n 7)else n
def sZ(n:Int):List Int:=DY 9 n++[cI .u8 (wY .i64 (BS 9 n) 127)]
theorem Gg: ∀ (k:Nat) (n:Int),(DY k n).length<=k
 |0,_=>Nat.le_refl _
 |k+1,n=>by
  unfold DY;split
  ·have:=Gg k (qR .i64 n 7);simp;omega
  ·simp
theorem yk(n:Int):(sZ n).length<=10:=by have:=Gg 9 n;unfold sZ;simp;omega
abbrev t88:List Ty:=[.cq u8,i64,.cq i64,i64,i64]
abbrev P88:n9:=Ps [.ow u8,.n .i64,.im i64,.n .i64,.n .i64]
def l88:qV:=⟨2,mV Tryz.alI.code 2,[3,5,6,7,8],P88,[⟨.s7,[3,5,6,7,8],P88⟩]⟩
theorem Gh(o:List Int)(n:Int)(l:List Int)(a i:Int):l88.step (fun _=>none) (j7 [] 3) 3 (cg t88 (o,n,l,a,i,()))=
 .br (bif decide (n< -64)then true else decide (63<n)) (.ck (roomy 1 (o.length+1)) (.ok (.next (cg t88 (app o [Cw .u8 (cI .u8 n) 128],qR .i64 n 7,l,a,i,()))))) (.ok (.out 0 (cg t88 (o,n,l,a,i,())))):=by kernel_rfl
theorem as3(n:Int):qR .i64 n 7=n.fdiv 128:=rfl
theorem Qz: ∀ (k:Nat) (o:List Int) (n:Int) (l:List Int) (a i:Int),-64*128 ^ k<=n->n<64*128 ^ k->o.length+k<=1099511627776->
 oU (l88.step (fun _=>none) (j7 [] 3) 3) (cg t88 (o,n,l,a,i,())) 0 (cg t88 (o++DY k n,BS k n,l,a,i,()))
 |0,o,n,l,a,i,h0,h1,h2=>by
  refine .last ?_;rw[Gh,Lf.T.kX];have e1:decide (n< -64)=false:=decide_eq_false (by omega);have e2:decide (63<n)=false:=decide_eq_false (by omega);rw[e1,e2];simp[DY,BS,Lf.T.w5]
 |k+1,o,n,l,a,i,h0,h1,h2=>by
  by_cases hn:n< -64∨63<n
  ·have hs:qR .i64 n 7=n / 128:=by rw[as3,Int.fdiv_eq_ediv_of_nonneg _ (by omega)]
   rw[Int.pow_succ]at h0 h1;have ih:=Qz k (o++[Cw .u8 (cI .u8 n) 128]) (n / 128) l a i (by omega) (by omega) (by simp;omega);refine .more (pl':=cg t88 (o++[Cw .u8 (cI .u8 n) 128],n / 128,l,a,i,())) ?_ ?_
   ·have hc:(bif decide (n< -64)then true else decide (63<n))=true:=by
     rcases hn with h|h
     ·simp[h]
     ·by_cases q:n< -64<;>simp[q,h]
    rw[Gh,Lf.T.kX,hc,cond_true,Lf.T.qS,jW (by omega) (by omega),cZ,hs];rfl
   ·have e1:DY (k+1) n=Cw .u8 (cI .u8 n) 128::DY k (n / 128):=by rw[<-hs];exact if_pos hn
    have e2:BS (k+1) n=BS k (n / 128):=by rw[<-hs];exact if_pos hn
    rw[e1,e2]
    simpa using ih
  ·refine .last ?_;have e1:decide (n< -64)=false:=decide_eq_false (by omega);have e2:decide (63<n)=false:=decide_eq_false (by omega);rw[Gh,Lf.T.kX,e1,e2];have e1:DY (k+1) n=[]:=if_neg hn;have e2:BS (k+1) n=n:=if_neg hn;rw[e1,e2,List.append_nil];rfl
def g88:ca t88->T (Nat×List Pl):=fun x=>.ck ((decide (-9223372036854775808<=x.2.1)&&decide (x.2.1<9223372036854775808))&&decide (x.1.length+10<=1099511627776)) (.ok (0,cg t88 (x.1++DY 9 x.2.1,BS 9 x.2.1,x.2.2.1,x.2.2.2.1,x.2.2.2.2.1,())))
def s88:jJ:=kR (Ps [.im i64]) [] (Ps [.ow u8]) [.cq i64] [.cq u8] fun x=>match x.1 with
 | [n]=>.ck (decide (-9223372036854775808<=n)&&decide (n<9223372036854775808)) (.ok (sZ n,()))
 | _=>.bad
theorem Xl{cb:cx}(W:World cb):s88.Ok 205 cb:=by
 have hl:lE Rx.w (w6 l88 t88 g88) (fun n d=>nO (cb n d) n (.bl 2 (.lp l88.body))):=by
  refine oW (W.in .nil 3) (cp _) (m:=3) ?_;rintro⟨o,n,l,a,i,⟨⟩⟩ k q h;obtain⟨h1,h2⟩:=Lf.T.cw h;cases h2;simp only[Bool.and_eq_true,decide_eq_true_eq]at h1;exact Qz 9 o n l a i (Int.le_trans (by decide) h1.1.1) (Int.lt_trans h1.1.2 (by decide)) (by omega)
 refine j4 (W.in .nil 3) (W.st 205 _ rfl) rfl (L:=vF [(2,w6 l88 t88 g88)]) (mz.pH (.cons (b:=l88.body) (by kernel_rfl) hl .nil)) (m:=3) rfl ?_;rintro⟨l,⟨⟩⟩ q h
 change (match l with| [n]=>(.ck (decide (-9223372036854775808<=n)&&decide (n<9223372036854775808)) (.ok (sZ n,())):T (ca [.cq u8]))| _=>.bad).val=some q at h
 split at h
 ·rename_i n
  obtain⟨h1,h2⟩:=Lf.T.cw h;cases h2
  have e:(mN (Ps [.im i64]) [] (Ps [.ow u8]) (vF [(2,w6 l88 t88 g88)]) Tryz.alI 3 (j7 [] 3) (cg [.cq i64] ([n],()))).val=
   bif (decide (-9223372036854775808<=n)&&decide (n<9223372036854775808))&&true then(bif roomy 1 ((DY 9 n).length+1)then some (cg [.cq u8] (app (DY 9 n) [cI .u8 (wY .i64 (BS 9 n) 127)],()))else none)else none:=by kernel_rfl
  rw[e,h1,jW (by omega) (by have:=Gg 9 n;omega),cZ];rfl
 ·cases h
def zm(op:List Int)(x:den tI)(r:List (den tI)):List Int ⊕ Option Bool:=
 if x.1=2∨x.1=3∨x.1=4 then(if op.length=128 then .inr (some false)else .inl (op++[x.1]))
 else if x.1=5 then(if op.length=0∨ ¬ op.getD (op.length - 1) 0=4 then .inr (some false)else .inl (op.set (op.length - 1) 5))
 else if x.1=11 then(if op.length=0 then .inr (some (decide (r.length=0)))else .inl (op.take (op.length - 1)))
 else .inl op
def Mk(c:List (den tI)):Option Bool:=nP zm (fun _=>none) c []
def ly(c:List (den tI)):Bool:=(Mk c).getD false
abbrev t79:List Ty:=[.cq tI,.cq i64,.cq tI,i64,i64]
def l79:qV:=⟨0,mV Tryz.alD.code 0,[0,3,7,8,9],Ps [.im tI,.ow i64,.im tI,.n .i64,.n .i64],[⟨.s7,[0],.cons (.im tI) .nil⟩,⟨.rt,[2],.cons .bo .nil⟩]⟩
theorem Ml(c0 c:List (den tI))(op:List Int)(n i:Int):l79.step (fun _=>none) (j7 [] 3) 3 (cg t79 (c0,op,c,n,i,()))=
 .br (decide (i<n)) (.ck (jA i (Int.ofNat c.length)) (let x:Int:=(c.getD i.toNat (cr tI)).1
  let nx:=fun(q:List Int)=>T.ok (Rs.next (cg t79 (c0,q,c,n,jR .i64 i 1,())))
  let fl:=T.ok (Rs.out 1 (cg [.bool] (false,())))
  let opn:=T.br (decide (Int.ofNat op.length=128)) fl (.ck (roomy 8 (op.length+1)) (nx (app op [x])))
  let at':=jF .i64 (Int.ofNat op.length) 1
  .br (decide (x=2)) opn (.br (decide (x=3)) opn (.br (decide (x=4)) opn
   (.br (decide (x=5)) (.ck (bif decide (Int.ofNat op.length=0)then true else jA at' (Int.ofNat op.length))
     (.br (bif decide (Int.ofNat op.length=0)then true else !decide (op.getD at'.toNat (cr i64)=4)) fl (.ck (jA at' (Int.ofNat op.length)) (nx (op.set at'.toNat 5)))))
    (.br (decide (x=11)) (.br (decide (Int.ofNat op.length=0)) (T.ok (Rs.out 1 (cg [.bool] (decide (i=jF .i64 (Int.ofNat c0.length) 1),())))) (.ck (mS 0 at' (Int.ofNat op.length)) (nx ((op.drop 0).take (at'.toNat - 0)))))
     (nx op)))))))
  (.ok (.out 0 (cg [.cq tI] (c0,())))):=by kernel_rfl
theorem ady(c0 c:List (den tI))(h0:c0.length=c.length)(hc:c.length<=1099511627776):
 oU (l79.step (fun _=>none) (j7 [] 3) 3) (cg t79 (c0,[],c,(c.length:Int),0,())) (match Mk c with|none=>0|some _=>1) (match Mk c with|none=>cg [.cq tI] (c0,())|some b=>cg [.bool] (b,())):=by
 have:=adm (f:=l79.step (fun _=>none) (j7 [] 3) 3) (l:=c) (fun(op:List Int) j=>cg t79 (c0,op,c,(c.length:Int),(j:Int),())) zm (fun _=>(none:Option Bool)) (fun o=>(match o with|none=>0|some _=>1,match o with|none=>cg [.cq tI] (c0,())|some b=>cg [.bool] (b,())))
  (fun op r=>op.length+r.length<=1099511627776) (fun op j x r h hi=>by
  obtain⟨h1,h2⟩:=kq h (cr tI);simp only[List.length_cons]at hi
  have hj:j<4611686018427387904:=by omega
  have hr:c.length=j+1+r.length:=by have:=congrArg List.length h;simp at this;omega
  refine⟨?_,fun s' e=>?_⟩
  ·rw[Ml,Lf.T.kX,kY h1,cond_true,Lf.T.qS,kF h1,cond_true,Int.toNat_natCast,h2,rM hj];have hro:roomy 8 (op.length+1)=true:=jW (by omega) (by omega)
   have e0:(Int.ofNat op.length=128)↔op.length=128:=by show((op.length:Int)=128)↔_;omega
   have e1:(Int.ofNat op.length=0)↔op.length=0:=by show((op.length:Int)=0)↔_;omega
   have e2: ∀ h: ¬ op.length=0,jF .i64 (Int.ofNat op.length) 1=((op.length - 1:Nat):Int):=fun h=>JD (by omega) (by omega)
   have e3:jF .i64 (Int.ofNat c0.length) 1=((c.length - 1:Nat):Int):=by rw[h0];exact JD (by omega) (by omega)
   have e4:((j:Int)=((c.length - 1:Nat):Int))↔r.length=0:=by omega
   have e5: ∀ h: ¬ op.length=0,jA ((op.length - 1:Nat):Int) (Int.ofNat op.length)=true:=fun h=>kF (by omega)
   have e6: ∀ h: ¬ op.length=0,mS 0 ((op.length - 1:Nat):Int) (Int.ofNat op.length)=true:=fun h=>by rw[CY];exact⟨by omega,by omega,by show _<=(op.length:Int);omega⟩
   unfold zm;simp only[Lf.T.kX,Lf.T.qS,Lf.T.w5,hro,e0,e3,e4,cZ,cond_true];by_cases x2:x.1=2
   ·by_cases q:op.length=128<;>simp[x2,q,Ue]
   ·by_cases x3:x.1=3
    ·by_cases q:op.length=128<;>simp[x3,q,Ue]
    ·by_cases x4:x.1=4
     ·by_cases q:op.length=128<;>simp[x4,q,Ue]
     ·by_cases x5:x.1=5
      ·by_cases q:op.length=0
       ·simp[x5,q,e1,Ue]
       ·have q1:decide (Int.ofNat op.length=0)=false:=decide_eq_false (by rw[e1];exact q);by_cases q2:op.getD (op.length - 1) 0=4
        ·simp only[x5,q1,e2 q,e5 q,Int.toNat_natCast,show op.getD (op.length - 1) (cr i64)=4 from q2];have q4:=q2;rw[List.getD_eq_getElem?_getD]at q4;simp[q,q4,Ue]
        ·have q3: ¬ op.getD (op.length - 1) (cr i64)=4:=q2;simp only[x5,q1,e2 q,e5 q,Int.toNat_natCast,decide_eq_false q3];have q4:=q2;rw[List.getD_eq_getElem?_getD]at q4;simp[q,q4,Ue]
      ·by_cases Hg:x.1=11
       ·by_cases q:op.length=0
        ·simp[Hg,q,e1,Ue]
        ·have q1:decide (Int.ofNat op.length=0)=false:=decide_eq_false (by rw[e1];exact q);simp only[Hg,q1,e2 q,e6 q,Int.toNat_natCast];simp[q,Ue]
       ·simp[x2,x3,x4,x5,Hg,Ue]
  ·unfold zm at e
   repeat' split at e
   all_goals first|(cases e;done)|(cases e;simp;omega)|(cases e;omega)) (fun s j h hj hi=>by
  have:j=c.length:=by have:=List.drop_eq_nil_iff.1 h;omega
  subst this;rw[Ml,Lf.T.kX,km (Nat.le_refl _)]
  rfl) c 0 [] rfl (by omega) (by simpa using hc)
 exact this
def g79:ca t79->T (Nat×List Pl):=fun x=>.ck ((decide (x.2.1.length=0)&&decide (x.2.2.2.1=(x.2.2.1.length:Int)))&&(decide (x.2.2.2.2.1=0)&&(decide (x.1.length=x.2.2.1.length)&&decide (x.2.2.1.length<=1099511627776))))
 (.br (Mk x.2.2.1).isNone (.ok (0,cg [.cq tI] (x.1,()))) (.ok (1,cg [.bool] (ly x.2.2.1,()))))
theorem alN(x:ca t79)(k:Nat)(q:List Pl)(h:(g79 x).val=some (k,q)):oU (l79.step (fun _=>none) (j7 [] 3) 3) (cg t79 x) k q:=by
 obtain⟨c,op,c2,n,i,⟨⟩⟩:=x;obtain⟨h1,h2⟩:=Lf.T.cw h;simp only[Bool.and_eq_true,decide_eq_true_eq]at h1;obtain⟨⟨a1,a2⟩,a3,a5,a4⟩:=h1;have a1:=List.eq_nil_of_length_eq_zero a1;subst a1;subst a2;subst a3;have:=ady c c2 a5 a4;rw[Lf.T.kX]at h2;unfold ly at h2;cases hm:Mk c2 with
 |none=>rw[hm]at h2 this;cases h2;exact this
 |some b=>rw[hm]at h2 this;cases h2;exact this
def s79:jJ:=kR (Ps [.im tI]) [] (Ps [.bo]) [.cq tI] [.bool] fun x=>.ck (decide (x.1.length<=1099511627776)) (.ok (ly x.1,()))
theorem alO{cb:cx}(W:World cb):s79.Ok 191 cb:=by
 have C:=W.in .nil 3;have hl:lE Rx.w (w6 l79 t79 g79) (fun n d=>nO (cb n d) n (.bl 0 (.lp l79.body))):=oW C (cp _) (m:=3) alN;refine j4 C (W.st 191 _ rfl) rfl (L:=vF [(0,w6 l79 t79 g79)]) (mz.pH (.cons (b:=l79.body) (by kernel_rfl) hl .nil)) (m:=3) rfl ?_;rintro⟨c,⟨⟩⟩ q h;obtain⟨h1,h2⟩:=Lf.T.cw h;cases h2
 have e:(mN (Ps [.im tI]) [] (Ps [.bo]) (vF [(0,w6 l79 t79 g79)]) Tryz.alD 3 (j7 [] 3) (cg [.cq tI] (c,()))).val=
  bif ((decide (([]:List Int).length=0)&&decide ((c.length:Int)=(c.length:Int)))&&(decide ((0:Int)=0)&&(decide (c.length=c.length)&&decide (c.length<=1099511627776))))then
   (bif (Mk c).isNone then some (cg [.bool] (false,()))else some (cg [.bool] (ly c,())))else none:=by kernel_rfl
 have uR:decide (c.length<=1099511627776)=true:=h1;rw[e,uR];unfold ly;cases Mk c<;>simp
abbrev ng:Ty:=.pair i64 (.pair i64 (.pair i64 (.pair i64 .str)))
abbrev sr:List Ty:=[i64,i64,.bool,.cq i64,.cq i64]
def OP:List (den ng):=(j9 [.cq ng] (mN .nil [] (Ps [.im ng]) (fun _=>none) Tryz.x60 3 (j7 [] 3) [])).1
def JH:List (den ng):=(j9 [.cq ng] (mN .nil [] (Ps [.im ng]) (fun _=>none) Tryz.x61 3 (j7 [] 3) [])).1
def s22:jJ:=kR .nil [] (Ps [.im ng]) [] [.cq ng] fun _=>.ok (OP,())
def s23:jJ:=kR .nil [] (Ps [.im ng]) [] [.cq ng] fun _=>.ok (JH,())
theorem alP{cb:cx}(W:World cb):s22.Ok 60 cb:=by
 refine j4 (W.in .nil 3) (W.st 60 _ rfl) rfl (cp _) (m:=3) rfl ?_;rintro⟨⟩ q h;cases h;exact yh (to:=[.cq ng]) (x:=mN .nil [] (Ps [.im ng]) (fun _=>none) Tryz.x60 3 (j7 [] 3) []) (by kernel_rfl)
theorem alQ{cb:cx}(W:World cb):s23.Ok 61 cb:=by
 refine j4 (W.in .nil 3) (W.st 61 _ rfl) rfl (cp _) (m:=3) rfl ?_;rintro⟨⟩ q h;cases h;exact yh (to:=[.cq ng]) (x:=mN .nil [] (Ps [.im ng]) (fun _=>none) Tryz.x61 3 (j7 [] 3) []) (by kernel_rfl)
abbrev pB:n9:=.pt 0 (Ps [.n .i64,.n .i64,.bo,.im i64,.im i64])
abbrev pC:n9:=.pt 0 (Ps [.n .i64,.n .i64,.bo,.ow i64,.ow i64])
abbrev Gi:List Ty:=[i64,i64,.bool,.cq i64,.cq i64,i64,i64,.bool,.cq i64,.cq i64,.bool,.cq u8,i64,i64]
def Mm:qV:=⟨2,mV Tryz.x25.code 2,[2,7,8,42,43,44],Ps [pB,pC,.bo,.im u8,.n .i64,.n .i64],[⟨.s7,[2,7],Ps [pB,pC]⟩]⟩
def QA(s:Bool×List Int×List Int)(c:Int):Bool×List Int×List Int:=
 if c=58 then(true,s.2)else(if s.1 then(s.1,s.2.1,s.2.2++[if c=108 then 126 else if c=118 then 123 else 127])else(s.1,s.2.1++[if c=108 then 126 else if c=118 then 123 else 127],s.2.2))
def Hh(s:List Int):List Int×List Int:=(s.foldl QA (false,[],[])).2
theorem Ii(f l:Int)(p:Bool)(a b:List Int)(f2 l2:Int)(p2:Bool)(a2 b2:List Int)(o:Bool)(s:List Int)(n i:Int):Mm.step (fun _=>none) (j7 [] 3) 3 (cg Gi (f,l,p,a,b,f2,l2,p2,a2,b2,o,s,n,i,()))=
 .br (decide (i<n)) (.ck (jA i (Int.ofNat s.length)) (let x:=s.getD i.toNat (cr u8)
  let nx:=fun(t:Int)=>T.br o (.ck (roomy 8 (b2.length+1)) (.ok (Rs.next (cg Gi (f,l,p,a,b,f2,l2,p2,a2,app b2 [t],o,s,n,jR .i64 i 1,())))))
   (.ck (roomy 8 (a2.length+1)) (.ok (Rs.next (cg Gi (f,l,p,a,b,f2,l2,p2,app a2 [t],b2,o,s,n,jR .i64 i 1,())))))
  .br (decide (x=58)) (.ok (Rs.next (cg Gi (f,l,p,a,b,f2,l2,p2,a2,b2,true,s,n,jR .i64 i 1,())))) (.br (decide (x=108)) (nx 126) (.br (decide (x=118)) (nx 123) (nx 127)))))
  (.ok (.out 0 (cg [i64,i64,.bool,.cq i64,.cq i64,i64,i64,.bool,.cq i64,.cq i64] (f,l,p,a,b,f2,l2,p2,a2,b2,())))):=by kernel_rfl
theorem Xm(f l:Int)(p:Bool)(a b:List Int)(f2 l2:Int)(p2:Bool)(s:List Int)(hs:s.length<=1000):
 oU (Mm.step (fun _=>none) (j7 [] 3) 3) (cg Gi (f,l,p,a,b,f2,l2,p2,[],[],false,s,(s.length:Int),0,())) 0 (cg [i64,i64,.bool,.cq i64,.cq i64,i64,i64,.bool,.cq i64,.cq i64] (f,l,p,a,b,f2,l2,p2,(Hh s).1,(Hh s).2,())):=by
 have:=SL (f:=Mm.step (fun _=>none) (j7 [] 3) 3) (l:=s) (fun(q:Bool×List Int×List Int) j=>cg Gi (f,l,p,a,b,f2,l2,p2,q.2.1,q.2.2,q.1,s,(s.length:Int),(j:Int),())) (fun q x=>.inl (QA q x)) (fun q=>(0,cg [i64,i64,.bool,.cq i64,.cq i64,i64,i64,.bool,.cq i64,.cq i64] (f,l,p,a,b,f2,l2,p2,q.2.1,q.2.2,())))
  (fun q r=>(q.2.1.length+r.length<=2000/\q.2.2.length+r.length<=2000)) (fun q j x r h hi=>by
  obtain⟨o,a2,b2⟩:=q;obtain⟨h1,h2⟩:=kq h (cr u8);simp only[List.length_cons]at hi
  have hj:j<4611686018427387904:=by omega
  have r1:roomy 8 (a2.length+1)=true:=jW (by omega) (by omega);have r2:roomy 8 (b2.length+1)=true:=jW (by omega) (by omega);refine⟨?_,fun s' e=>?_⟩
  ·rw[Ii,Lf.T.kX,kY h1,cond_true,Lf.T.qS,kF h1,cond_true,Int.toNat_natCast,h2,rM hj];unfold QA;simp only[Lf.T.kX,Lf.T.qS,Lf.T.w5,r1,r2,cZ,cond_true];by_cases x1:x=58
   ·simp[x1,Hf]
   ·by_cases x2:x=108
    ·cases o<;>simp[x2,Hf]
    ·by_cases x3:x=118
     ·cases o<;>simp[x3,Hf]
     ·cases o<;>simp[x1,x2,x3,Hf]
  ·cases e;unfold QA;split
   ·simp only;omega
   ·split<;>simp<;>omega) (fun q j h hj hi=>by
  have:j=s.length:=by have:=List.drop_eq_nil_iff.1 h;omega
  subst this;rw[Ii,Lf.T.kX,km (Nat.le_refl _)]
  rfl) s 0 (false,[],[]) rfl (by omega) (by simp;omega)
 rw[mP]at this;exact this
def alR:ca Gi->T (Nat×List Pl):=fun x=>.ck (((decide (x.2.2.2.2.2.2.2.2.1.length=0)&&decide (x.2.2.2.2.2.2.2.2.2.1.length=0))&& !x.2.2.2.2.2.2.2.2.2.2.1)&&((decide (x.2.2.2.2.2.2.2.2.2.2.2.2.1=(x.2.2.2.2.2.2.2.2.2.2.2.1.length:Int))&&decide (x.2.2.2.2.2.2.2.2.2.2.2.2.2.1=0))&&decide (x.2.2.2.2.2.2.2.2.2.2.2.1.length<=1000)))
 (.ok (0,cg [i64,i64,.bool,.cq i64,.cq i64,i64,i64,.bool,.cq i64,.cq i64] (x.1,x.2.1,x.2.2.1,x.2.2.2.1,x.2.2.2.2.1,x.2.2.2.2.2.1,x.2.2.2.2.2.2.1,x.2.2.2.2.2.2.2.1,(Hh x.2.2.2.2.2.2.2.2.2.2.2.1).1,(Hh x.2.2.2.2.2.2.2.2.2.2.2.1).2,())))
theorem adz(x:ca Gi)(k:Nat)(q:List Pl)(h:(alR x).val=some (k,q)):oU (Mm.step (fun _=>none) (j7 [] 3) 3) (cg Gi x) k q:=by
 obtain⟨f,l,p,a,b,f2,l2,p2,a2,b2,o,s,n,i,⟨⟩⟩:=x;obtain⟨h1,h2⟩:=Lf.T.cw h;cases h2;simp only[Bool.and_eq_true,decide_eq_true_eq,Bool.not_eq_true']at h1;obtain⟨⟨⟨b1,Uf⟩,b3⟩,⟨b4,b5⟩,b6⟩:=h1;have b1:=List.eq_nil_of_length_eq_zero b1;have Uf:=List.eq_nil_of_length_eq_zero Uf;subst b1;subst Uf;subst b3;subst b4;subst b5;exact Xm f l p a b f2 l2 p2 s b6
abbrev t11:List Ty:=[i64,i64,i64,.bool,.cq i64,.cq i64,.bool,.cq ng,i64,i64]
def Ug:qV:=⟨0,mV Tryz.x25.code 0,[0,2,3,16,17,18],Ps [.n .i64,pB,.bo,.im ng,.n .i64,.n .i64],[⟨.s7,[2],Ps [pB]⟩,⟨.rt,[2,3],Ps [pB,.bo]⟩]⟩
def SN(r:den ng):List Int:=r.2.2.2.2.data.toList.map fun b=>Int.ofNat b.toNat
def JI(r:den ng):ca sr:=(r.2.2.1,r.2.2.2.1,!(eqStr r.2.2.2.2 ⟨#[]⟩),(Hh (SN r)).1,(Hh (SN r)).2,())
def Hj(op:Int)(_:Unit)(r:den ng)(_:List (den ng)):Unit ⊕ Option (ca sr):=bif (bif decide (op<r.1)then true else decide (r.2.1<op))then .inl ()else .inr (some (JI r))
def s9(op:Int)(rs:List (den ng)):Option (ca sr):=nP (Hj op) (fun _=>none) rs ()
def L11:Nat->Option mB:=vF [(2,w6 Mm Gi alR)]
theorem Mn(op f l:Int)(p:Bool)(a b:List Int)(ok:Bool)(rs:List (den ng))(n i:Int):(Ug.step L11 (j7 [] 3) 3 (cg t11 (op,f,l,p,a,b,ok,rs,n,i,()))).val=
 bif decide (i<n)then(bif jA i (Int.ofNat rs.length)then(bif (bif decide (op<(rs.getD i.toNat (cr ng)).1)then true else decide ((rs.getD i.toNat (cr ng)).2.1<op))then some (Rs.next (cg t11 (op,f,l,p,a,b,ok,rs,n,jR .i64 i 1,())))
  else(bif ((true&&true)&&true)&&((decide (((SN (rs.getD i.toNat (cr ng))).length:Int)=((SN (rs.getD i.toNat (cr ng))).length:Int))&&true)&&decide ((SN (rs.getD i.toNat (cr ng))).length<=1000))then some (Rs.out 1 (cg [i64,i64,.bool,.cq i64,.cq i64,.bool] ((JI (rs.getD i.toNat (cr ng))).1,(JI (rs.getD i.toNat (cr ng))).2.1,(JI (rs.getD i.toNat (cr ng))).2.2.1,(JI (rs.getD i.toNat (cr ng))).2.2.2.1,(JI (rs.getD i.toNat (cr ng))).2.2.2.2.1,true,())))else none))else none)else some (.out 0 (cg sr (f,l,p,a,b,()))):=by kernel_rfl
def vz(rs:List (den ng)):Bool:=jC (fun r=>decide ((SN r).length<=1000)) rs
theorem Mo{r:den ng}{rs:List (den ng)}(h:vz (r::rs)=true):(SN r).length<=1000/\vz rs=true:=by
 have h:(bif decide ((SN r).length<=1000)then vz rs else false)=true:=h;by_cases q:(SN r).length<=1000
 ·rw[decide_eq_true q]at h;exact⟨q,h⟩
 ·rw[decide_eq_false q]at h;cases h
theorem adA(op f l:Int)(p:Bool)(a b:List Int)(ok:Bool)(rs:List (den ng))(hl:rs.length<=1000)(hs:vz rs=true):
 oU (Ug.step L11 (j7 [] 3) 3) (cg t11 (op,f,l,p,a,b,ok,rs,(rs.length:Int),0,())) (match s9 op rs with|none=>0|some _=>1) (match s9 op rs with|none=>cg sr (f,l,p,a,b,())|some y=>cg [i64,i64,.bool,.cq i64,.cq i64,.bool] (y.1,y.2.1,y.2.2.1,y.2.2.2.1,y.2.2.2.2.1,true,())):=by
 have:=adm (f:=Ug.step L11 (j7 [] 3) 3) (l:=rs) (fun(_:Unit) j=>cg t11 (op,f,l,p,a,b,ok,rs,(rs.length:Int),(j:Int),())) (Hj op) (fun _=>(none:Option (ca sr)))
  (fun o=>(match o with|none=>0|some _=>1,match o with|none=>cg sr (f,l,p,a,b,())|some y=>cg [i64,i64,.bool,.cq i64,.cq i64,.bool] (y.1,y.2.1,y.2.2.1,y.2.2.2.1,y.2.2.2.2.1,true,()))) (fun _ r=>vz r=true) (fun q j x r h hi=>by
  obtain⟨h1,h2⟩:=kq h (cr ng)
  have hj:j<4611686018427387904:=by omega
  obtain⟨k1,k2⟩:=Mo hi;refine⟨?_,fun _ _=>k2⟩;rw[Mn,kY h1,cond_true,kF h1,cond_true,Int.toNat_natCast,h2,rM hj];unfold Hj;cases hc:(bif decide (op<x.1)then true else decide (x.2.1<op))with
  |true=>simp only[cond_true,Ue]
  |false=>simp only[cond_false,Ue,decide_eq_true k1,decide_true,Bool.and_self,cond_true]) (fun q j h hj hi=>by
  have:j=rs.length:=by have:=List.drop_eq_nil_iff.1 h;omega
  subst this;rw[Mn,km (Nat.le_refl _)]
  rfl) rs 0 () rfl (by omega) hs
 exact this
def g11:ca t11->T (Nat×List Pl):=fun x=>.ck ((decide (x.2.2.2.2.2.2.2.2.1=(x.2.2.2.2.2.2.2.1.length:Int))&&decide (x.2.2.2.2.2.2.2.2.2.1=0))&&(decide (x.2.2.2.2.2.2.2.1.length<=1000)&&vz x.2.2.2.2.2.2.2.1))
 (.br (s9 x.1 x.2.2.2.2.2.2.2.1).isNone (.ok (0,cg sr (x.2.1,x.2.2.1,x.2.2.2.1,x.2.2.2.2.1,x.2.2.2.2.2.1,()))) (let y:=(s9 x.1 x.2.2.2.2.2.2.2.1).getD (zJ sr); .ok (1,cg [i64,i64,.bool,.cq i64,.cq i64,.bool] (y.1,y.2.1,y.2.2.1,y.2.2.2.1,y.2.2.2.2.1,true,()))))
theorem alS(x:ca t11)(k:Nat)(q:List Pl)(h:(g11 x).val=some (k,q)):oU (Ug.step L11 (j7 [] 3) 3) (cg t11 x) k q:=by
 obtain⟨op,f,l,p,a,b,ok,rs,n,i,⟨⟩⟩:=x;obtain⟨h1,h2⟩:=Lf.T.cw h;simp only[Bool.and_eq_true,decide_eq_true_eq]at h1;obtain⟨⟨b1,b2⟩,b3,b4⟩:=h1;subst b1;subst b2;have:=adA op f l p a b ok rs b3 b4;rw[Lf.T.kX]at h2;cases hm:s9 op rs with
 |none=>rw[hm]at h2 this;cases h2;exact this
 |some y=>rw[hm]at h2 this;cases h2;exact this
def OQ(op:Int):Option (ca sr):=s9 op (bif decide (64768<=op)then JH else OP)
def kZ(op:Int):ca sr:=(OQ op).getD (0,0,false,[],[],())
def zn(op:Int):Bool:=(OQ op).isSome
def e11:List (Nat×jJ):=[(60,s22),(61,s23)]
theorem alT{cb:cx}(W:World cb):j1 cb e11:=.cons (alP W) (.cons (alQ W) .nil)
def s11:jJ:=kR (Ps [.n .i64]) [] (Ps [.tu (Ps [.ag (Ps [.n .i64,.n .i64,.bo,.im i64,.im i64]),.bo])]) [i64] [i64,i64,.bool,.cq i64,.cq i64,.bool] fun x=>let y:=kZ x.1; .ok (y.1,y.2.1,y.2.2.1,y.2.2.2.1,y.2.2.2.2.1,zn x.1,())
theorem Xn:((vz OP&&Nat.ble OP.length 1000)&&(vz JH&&Nat.ble JH.length 1000))=true:=by kernel_rfl
abbrev vA:List Ty:=[i64,i64,.bool,.cq i64,.cq i64,.bool]
def r11(op:Int)(rs:List (den ng)):Option (List Pl):=bif (decide ((rs.length:Int)=(rs.length:Int))&&decide ((0:Int)=0))&&(decide (rs.length<=1000)&&vz rs)then
 (bif (s9 op rs).isNone then some (cg vA (0,0,false,[],[],false,()))else some (cg vA (((s9 op rs).getD (zJ sr)).1,((s9 op rs).getD (zJ sr)).2.1,((s9 op rs).getD (zJ sr)).2.2.1,((s9 op rs).getD (zJ sr)).2.2.2.1,((s9 op rs).getD (zJ sr)).2.2.2.2.1,true,())))else none
theorem Xo(op:Int)(rs:List (den ng))(h1:rs.length<=1000)(h2:vz rs=true):r11 op rs=some (cg vA (((s9 op rs).getD (0,0,false,[],[],())).1,((s9 op rs).getD (0,0,false,[],[],())).2.1,((s9 op rs).getD (0,0,false,[],[],())).2.2.1,((s9 op rs).getD (0,0,false,[],[],())).2.2.2.1,((s9 op rs).getD (0,0,false,[],[],())).2.2.2.2.1,(s9 op rs).isSome,())):=by
 unfold r11;rw[decide_eq_true h1,h2];cases s9 op rs with
 |none=>simp
 |some y=>simp
theorem C6{cb:cx}(W:World cb):s11.Ok 25 cb:=by
 have C:=W.in (alT W) 3;have C0:=W.in .nil 3;have hi:lE Rx.w (w6 Mm Gi alR) (fun n d=>nO (cb n d) n (.bl 2 (.lp Mm.body))):=oW C0 (cp _) (m:=3) adz;have ho:lE Rx.w (w6 Ug t11 g11) (fun n d=>nO (cb n d) n (.bl 0 (.lp Ug.body))):=oW C0 (L:=L11) (mz.pH (.cons (b:=Mm.body) (by kernel_rfl) hi .nil)) (m:=3) alS;refine j4 C (W.st 25 _ rfl) rfl (L:=vF [(0,w6 Ug t11 g11)]) (mz.pH (.cons (b:=Ug.body) (by kernel_rfl) ho .nil)) (m:=3) rfl ?_;rintro⟨op,⟨⟩⟩ q h;cases h
 have e:(mN (Ps [.n .i64]) [] (Ps [.tu (Ps [.ag (Ps [.n .i64,.n .i64,.bo,.im i64,.im i64]),.bo])]) (vF [(0,w6 Ug t11 g11)]) Tryz.x25 3 (j7 e11 3) (cg [i64] (op,()))).val=
  bif decide (64768<=op)then r11 op JH else r11 op OP:=by kernel_rfl
 have hs:=Xn;rw[Bool.and_eq_true,Bool.and_eq_true,Bool.and_eq_true]at hs;rw[e,Xo op JH (Nat.le_of_ble_eq_true hs.2.2) hs.2.1,Xo op OP (Nat.le_of_ble_eq_true hs.1.2) hs.1.1];unfold kZ zn OQ;cases decide (64768<=op)<;>rfl
end Go.Proofs.Vd
noncomputable section
namespace Go.Ab.Lf
def adB(to:List Ty)(t:T (List Pl)):Bool:=
 T.rec (motive:=fun _=>Bool) false (fun l=>(toT to l).isSome) (fun _ _ _ a b=>a&&b) (fun _ _ _=>false) t
theorem EA{to:List Ty}: ∀ {t:T (List Pl)},adB to t=true->mf to t=true
 | .bad,h=>by cases h
 | .ok l,h=>by
  have h:(toT to l).isSome=true:=h;show(match toT to l with|some _=>true|none=>false)=true;cases hq:toT to l with
  |none=>rw[hq]at h;cases h
  |some y=>rfl
 | .br c a b,h=>by
  have h:(adB to a&&adB to b)=true:=h;obtain⟨h1,h2⟩:=Bool.and_eq_true_iff.1 h;have q1:=EA h1;have q2:=EA h2;unfold mf at*;rw[T.kX];cases c
  ·exact q2
  ·exact q1
 | .ck c a,h=>by cases h
theorem aiZ{call:lL}{cb:cx}(C:vu call cb){f:FuncId}{b:Cv}(hb:sJ cb f b)(vU:Nat.ble b.ntmps 512=true){L:Nat->Option mB}(hL:pH Rx.w cb L b.code){m:Nat}{P:n9}{ptr:List Nat}{Q:n9}{ti to:List Ty}{out:ca ti->ca to}
 (h0:jC (fun g=> !(Nat.beq g 0)) ptr=true)(h1: ∀ x,adB to (mN P ptr Q L b m call (cg ti x))=true)(h2: ∀ x,out x=j9 to (mN P ptr Q L b m call (cg ti x))):(kR P ptr Q ti to fun x=>.ok (out x)).Ok f cb:=by
 refine j4 C hb vU hL (m:=m) h0 fun x y h=>?_
 cases h;rw[h2];exact yh (EA (h1 x))
end Go.Ab.Lf
namespace Go.Proofs.Vd
open Go.Ab Go.Ab.Lf
set_option maxRecDepth 100000
abbrev pI:n9:=.ag (Ps [.n .i64,.n .i64,.n .i64,.n .u64,.n .u64,.im i64])
abbrev t87:List Ty:=[i64,i64,i64,u64,u64,.cq i64,i64]
def zK(x:ca t87):ca [.bool]:=j9 [.bool] (mN (Ps [pI,.n .i64]) [] (Ps [.bo]) (fun _=>none) Tryz.alH 3 (j7 [] 3) (cg t87 x))
def s87:jJ:=kR (Ps [pI,.n .i64]) [] (Ps [.bo]) t87 [.bool] fun x=>.ok (zK x)
theorem alU{cb:cx}(W:World cb):s87.Ok 204 cb:=by
 refine aiZ (W.in .nil 3) (W.st 204 _ rfl) rfl (cp _) (m:=3) rfl ?_ (fun _=>rfl);rintro⟨o,a,b,lo,hi,l,f,⟨⟩⟩
 kernel_rfl
def sK(n:Int):Bool:=bif decide (0<=n)then decide (n<4294967296)else false
def s89:jJ:=kR (Ps [.n .i64]) [] (Ps [.bo]) [i64] [.bool] fun x=>.ok (sK x.1,())
theorem alV{cb:cx}(W:World cb):s89.Ok 206 cb:=by
 refine j4 (W.in .nil 3) (W.st 206 _ rfl) rfl (cp _) (m:=3) rfl ?_;rintro⟨n,⟨⟩⟩ q h;cases h
 kernel_rfl
abbrev tV:List Ty:=[u8,u8,u8,u8,u8,u8,u8,u8,u8,u8,u8,u8,u8,u8,u8,u8]
abbrev pV:n9:=.ag (Ps [.n .u8,.n .u8,.n .u8,.n .u8,.n .u8,.n .u8,.n .u8,.n .u8,.n .u8,.n .u8,.n .u8,.n .u8,.n .u8,.n .u8,.n .u8,.n .u8])
def ai0(x:ca [u64,u64]):ca tV:=j9 tV (mN (Ps [.ag (Ps [.n .u64,.n .u64])]) [] (Ps [pV]) (fun _=>none) Tryz.x39 20 (j7 [] 20) (cg [u64,u64] x))
def s81:jJ:=kR (Ps [.ag (Ps [.n .u64,.n .u64])]) [] (Ps [pV]) [u64,u64] tV fun x=>.ok (ai0 x)
theorem Xp{cb:cx}(W:World cb):s81.Ok 39 cb:=by
 refine aiZ (W.in .nil 20) (W.st 39 _ rfl) rfl (cp _) (m:=20) rfl ?_ (fun _=>rfl);rintro⟨lo,hi,⟨⟩⟩
 kernel_rfl
end Go.Proofs.Vd
noncomputable section
namespace Go.Proofs.Vd
open Go.Ab Go.Ab.Lf
set_option maxRecDepth 100000
def mVL(lo hi:Int):List Int:=let y:=ai0 (lo,hi,());[y.1,y.2.1,y.2.2.1,y.2.2.2.1,y.2.2.2.2.1,y.2.2.2.2.2.1,y.2.2.2.2.2.2.1,y.2.2.2.2.2.2.2.1,y.2.2.2.2.2.2.2.2.1,y.2.2.2.2.2.2.2.2.2.1,y.2.2.2.2.2.2.2.2.2.2.1,y.2.2.2.2.2.2.2.2.2.2.2.1,y.2.2.2.2.2.2.2.2.2.2.2.2.1,y.2.2.2.2.2.2.2.2.2.2.2.2.2.1,y.2.2.2.2.2.2.2.2.2.2.2.2.2.2.1,y.2.2.2.2.2.2.2.2.2.2.2.2.2.2.2.1]
def Mp(a lo hi f:Int):List Int:=bif decide (f=9)then sZ (cI .i64 (cI .i32 lo))else bif decide (f=10)then sZ (cI .i64 lo)else bif decide (f=13)then [cI .u8 a]else bif decide (f=14)then [0]else mVL lo hi
def QB(a lo f:Int):Bool:=bif decide (f=9)then decide (lo<4294967296)else bif decide (f=10)then true else bif decide (f=13)then(bif decide (0<=a)then decide (a<256)else false)else true
theorem SO(a lo hi f:Int):(Mp a lo hi f).length<=16:=by
 unfold Mp;have:=yk (cI .i64 (cI .i32 lo));have:=yk (cI .i64 lo);have h:(mVL lo hi).length=16:=rfl;cases decide (f=9)<;>cases decide (f=10)<;>cases decide (f=13)<;>cases decide (f=14)<;>simp only[cond_true,cond_false,List.length_cons,List.length_nil]<;>omega
abbrev t90:List Ty:=[.cq u8,i64,i64,i64,u64,u64,.cq i64,i64]
def e90:List (Nat×jJ):=[(39,s81),(205,s88)]
theorem alW{cb:cx}(W:World cb):j1 cb e90:=.cons (Xp W) (.cons (Xl W) .nil)
def s90:jJ:=kR (Ps [.ow u8,pI,.n .i64]) [] (Ps [.tu (Ps [.ow u8,.bo])]) t90 [.cq u8,.bool] fun x=>
 .ck (decide (x.1.length+16<=1099511627776)) (.ok (x.1++Mp x.2.2.1 x.2.2.2.2.1 x.2.2.2.2.2.1 x.2.2.2.2.2.2.2.1,QB x.2.2.1 x.2.2.2.2.1 x.2.2.2.2.2.2.2.1,()))
abbrev r2(b:List Int)(o:Bool):Option (List Pl):=some (cg [.cq u8,.bool] (b,o,()))
theorem alX(out:List Int)(o a b lo hi:Int)(l:List Int)(f:Int):(mN (Ps [.ow u8,pI,.n .i64]) [] (Ps [.tu (Ps [.ow u8,.bo])]) (fun _=>none) Tryz.asY 3 (j7 e90 3) (cg t90 (out,o,a,b,lo,hi,l,f,()))).val=
 bif decide (f=9)then(bif (decide (-9223372036854775808<=cI .i64 (cI .i32 lo))&&decide (cI .i64 (cI .i32 lo)<9223372036854775808))then bif decide (lo=lo)then bif roomy 1 (out.length+(sZ (cI .i64 (cI .i32 lo))).length)then bif decide (lo=lo)then r2 (app out (sZ (cI .i64 (cI .i32 lo)))) (decide (lo<4294967296))else none else none else none else none)
 else bif decide (f=10)then(bif (decide (-9223372036854775808<=cI .i64 lo)&&decide (cI .i64 lo<9223372036854775808))then bif roomy 1 (out.length+(sZ (cI .i64 lo)).length)then r2 (app out (sZ (cI .i64 lo))) true else none else none)
 else bif decide (f=13)then(bif roomy 1 (out.length+[cI .u8 a].length)then bif decide (a=a)then bif decide (0<=a)then r2 (app out [cI .u8 a]) (decide (a<256))else r2 (app out [cI .u8 a]) false else none else none)
 else bif decide (f=14)then(bif roomy 1 (out.length+[(0:Int)].length)then r2 (app out [0]) true else none)
 else(bif roomy 1 (out.length+(mVL lo hi).length)then r2 (app out (mVL lo hi)) true else none):=by kernel_rfl
theorem alY{cb:cx}(W:World cb):s90.Ok 207 cb:=by
 refine j4 (W.in (alW W) 3) (W.st 207 _ rfl) rfl (cp _) (m:=3) rfl ?_;rintro⟨out,o,a,b,lo,hi,l,f,⟨⟩⟩ q h;obtain⟨h1,h2⟩:=Lf.T.cw h;cases h2;rw[alX];have h1:out.length+16<=1099511627776:=of_decide_eq_true h1;have k1:=yk (cI .i64 (cI .i32 lo));have k2:=yk (cI .i64 lo);have k3:(mVL lo hi).length=16:=rfl;have c1:=Qx (cI .i32 lo);have c2:=Qx lo
 rw[jW (n:=out.length+(sZ (cI .i64 (cI .i32 lo))).length) (by omega) (by omega),jW (n:=out.length+(sZ (cI .i64 lo)).length) (by omega) (by omega),jW (n:=out.length+[cI .u8 a].length) (by omega) (by simp;omega),
  jW (n:=out.length+[(0:Int)].length) (by omega) (by simp;omega),jW (n:=out.length+(mVL lo hi).length) (by omega) (by omega),decide_eq_true c1.1,decide_eq_true c1.2,decide_eq_true c2.1,decide_eq_true c2.2]
 unfold Mp QB;simp only[cZ,Bool.and_self,cond_true,decide_true];cases decide (f=9)<;>cases decide (f=10)<;>cases decide (f=13)<;>cases decide (f=14)<;>cases decide (0<=a)<;>rfl
abbrev pBI:n9:=.pt 0 (Ps [.n .i64,.n .i64,.n .i64,.n .u64,.n .u64,.im i64])
abbrev Hk:List Ty:=[i64,i64,i64,u64,u64,.cq i64,.bool,.cq u8,.cq u8,.cq i64,i64,i64]
abbrev adD:List Ty:=[i64,i64,i64,u64,u64,.cq i64,.bool,.cq u8,.cq u8]
def l80:qV:=⟨2,mV Tryz.alE.code 2,[1,5,6,7,101,102,103],Ps [pBI,.bo,.ow u8,.ow u8,.im i64,.n .i64,.n .i64],[⟨.s7,[1,5,6,7],Ps [pBI,.bo,.ow u8,.ow u8]⟩]⟩
def e80:List (Nat×jJ):=[(25,s11),(162,s65),(204,s87),(205,s88),(206,s89),(207,s90)]
def DH(s:List Int×Bool)(x:Int):List Int×Bool:=(s.1++qc (cI .u64 x),bif s.2 then sK x else false)
def yl(s:List Int×Bool)(l:List Int):List Int×Bool:=l.foldl DH s
def g80:ca Hk->T (Nat×List Pl):=fun x=>.ck (decide (x.2.2.2.2.2.2.2.2.2.2.1=(x.2.2.2.2.2.2.2.2.2.1.length:Int))&&(decide (x.2.2.2.2.2.2.2.2.2.2.2.1=0)&&decide (x.2.2.2.2.2.2.2.1.length+10*x.2.2.2.2.2.2.2.2.2.1.length<=1099511627776)))
 (.ok (0,cg adD (x.1,x.2.1,x.2.2.1,x.2.2.2.1,x.2.2.2.2.1,x.2.2.2.2.2.1,(yl (x.2.2.2.2.2.2.2.1,x.2.2.2.2.2.2.1) x.2.2.2.2.2.2.2.2.2.1).2,(yl (x.2.2.2.2.2.2.2.1,x.2.2.2.2.2.2.1) x.2.2.2.2.2.2.2.2.2.1).1,x.2.2.2.2.2.2.2.2.1,())))
def L80:Nat->Option mB:=vF [(2,w6 l80 Hk g80)]
theorem Xr{cb:cx}(W:World cb):j1 cb e80:=.cons (C6 W) (.cons (Xj W) (.cons (alU W) (.cons (Xl W) (.cons (alV W) (.cons (alY W) .nil)))))
theorem Xs(l:List Int): ∀ s:List Int×Bool,(yl s l).1.length<=s.1.length+10*l.length:=by
 induction l with
 |nil=>intro s;simp[yl]
 |cons x l ih=>
  intro s;have:=ih (DH s x);have h:=qZ (cI .u64 x);have e:yl s (x::l)=yl (DH s x) l:=rfl;rw[e]
  have e2:(DH s x).1.length=s.1.length+(qc (cI .u64 x)).length:=by simp[DH]
  simp only[List.length_cons];omega
theorem Mq(o a b lo hi:Int)(l:List Int)(k:Bool)(out al s:List Int)(n i:Int):(l80.step (fun _=>none) (j7 e80 3) 3 (cg Hk (o,a,b,lo,hi,l,k,out,al,s,n,i,()))).val=
 bif decide (i<n)then(bif jA i (Int.ofNat s.length)then(bif (decide (0<=cI .u64 (s.getD i.toNat (cr i64)))&&decide (cI .u64 (s.getD i.toNat (cr i64))<18446744073709551616))then(bif roomy 1 (out.length+(qc (cI .u64 (s.getD i.toNat (cr i64)))).length)then
  (bif k then some (Rs.next (cg Hk (o,a,b,lo,hi,l,sK (s.getD i.toNat (cr i64)),app out (qc (cI .u64 (s.getD i.toNat (cr i64)))),al,s,n,jR .i64 i 1,())))
  else some (Rs.next (cg Hk (o,a,b,lo,hi,l,false,app out (qc (cI .u64 (s.getD i.toNat (cr i64)))),al,s,n,jR .i64 i 1,()))))else none)else none)else none)else some (Rs.out 0 (cg adD (o,a,b,lo,hi,l,k,out,al,()))):=by kernel_rfl
theorem adE(o a b lo hi:Int)(l:List Int)(k:Bool)(out al s:List Int)(hs:out.length+10*s.length<=1099511627776):
 oU (l80.step (fun _=>none) (j7 e80 3) 3) (cg Hk (o,a,b,lo,hi,l,k,out,al,s,(s.length:Int),0,())) 0 (cg adD (o,a,b,lo,hi,l,(yl (out,k) s).2,(yl (out,k) s).1,al,())):=by
 have:=SL (f:=l80.step (fun _=>none) (j7 e80 3) 3) (l:=s) (fun(q:List Int×Bool) j=>cg Hk (o,a,b,lo,hi,l,q.2,q.1,al,s,(s.length:Int),(j:Int),())) (fun q x=>.inl (DH q x)) (fun q=>(0,cg adD (o,a,b,lo,hi,l,q.2,q.1,al,())))
  (fun q r=>q.1.length+10*r.length<=1099511627776) (fun q j x r h A7=>by
  obtain⟨out,k⟩:=q;obtain⟨h1,h2⟩:=kq h (cr i64);simp only[List.length_cons]at A7
  have hr:s.length=j+1+r.length:=by have:=congrArg List.length h;simp at this;omega
  have hj:j<4611686018427387904:=by omega
  have hp:=qZ (cI .u64 x);have c:=uS x;have r1:roomy 1 (out.length+(qc (cI .u64 x)).length)=true:=jW (by omega) (by omega);refine⟨?_,fun s' e=>?_⟩
  ·rw[Mq,kY h1,cond_true,kF h1,cond_true,Int.toNat_natCast,h2,rM hj,decide_eq_true c.1,decide_eq_true c.2,r1,cZ];unfold DH;cases k<;>rfl
  ·cases e;simp only[DH,List.length_append];omega) (fun q j h hj hi=>by
  have:j=s.length:=by have:=List.drop_eq_nil_iff.1 h;omega
  subst this;rw[Mq,km (Nat.le_refl _)]
  rfl) s 0 (out,k) rfl (by omega) hs
 rw[mP]at this;exact this
theorem alZ(x:ca Hk)(k:Nat)(q:List Pl)(h:(g80 x).val=some (k,q)):oU (l80.step (fun _=>none) (j7 e80 3) 3) (cg Hk x) k q:=by
 obtain⟨o,a,b,lo,hi,l,kk,out,al,s,n,i,⟨⟩⟩:=x;obtain⟨h1,h2⟩:=Lf.T.cw h;cases h2;simp only[Bool.and_eq_true,decide_eq_true_eq]at h1;obtain⟨b1,b2,b3⟩:=h1;subst b1;subst b2;exact adE o a b lo hi l kk out al s b3
def cy{α:Type}(c:Bool)(x:Option α):Option α:=bif c then x else none
def zL{α:Type}(K:List Int->Bool->α)(p:List Int)(o a b lo hi:Int)(l:List Int):Option α:=
 let f:=(kZ o).1
 let A:=qc (cI .u64 a)
 let B:=qc (cI .u64 b)
 let one:=[cI .u8 (jR .i64 a 128)]
 let ct:=cy (roomy 1 (p.length+one.length)) (some (K (app p one) true))
 let al:=cy (roomy 1 (p.length+A.length)) (cy (decide (a=a)) (some (K (app p A) (sK a))))
 let rg:=(decide (0<=cI .u64 b)&&decide (cI .u64 b<18446744073709551616))
 let two:=cy (roomy 1 (p.length+A.length)) (cy (decide (b=b)) (cy (decide (a=a)) (cy rg (cy (decide (a=a)) (cy (roomy 1 ((app p A).length+B.length)) (cy (decide (a=a)) (bif sK a then some (K (app (app p A) B) (sK b))else some (K (app (app p A) B) false))))))))
 let al0:=qc (cI .u64 (Int.ofNat l.length))
 let tb:=yl (app p al0,zn o) l
 bif decide (f=1)then some (K p true)
 else bif decide (f=2)then(bif decide (a= -64)then ct else bif decide (a= -1)then ct else bif decide (a= -2)then ct else bif decide (a= -5)then ct else
  cy (decide (-9223372036854775808<=a)&&decide (a<9223372036854775808)) (cy (decide (a=a)) (cy (roomy 1 (p.length+(sZ a).length)) (cy (decide (a=a)) (some (K (app p (sZ a)) (sK a)))))))
 else bif decide (f=3)then al else bif decide (f=5)then al
 else bif decide (f=4)then cy (decide (0<=cI .u64 (Int.ofNat l.length))&&decide (cI .u64 (Int.ofNat l.length)<18446744073709551616)) (cy (roomy 1 (p.length+al0.length))
  (cy (decide ((Int.ofNat l.length)=Int.ofNat l.length)&&(decide ((0:Int)=0)&&decide ((app p al0).length+10*l.length<=1099511627776))) (cy (roomy 1 (tb.1.length+A.length)) (bif tb.2 then some (K (app tb.1 A) (sK a))else some (K (app tb.1 A) false)))))
 else bif decide (f=6)then two else bif decide (f=7)then two
 else bif decide (f=8)then cy (roomy 1 (p.length+A.length)) (cy (decide (b=b)) (cy rg (cy (roomy 1 ((app p A).length+B.length)) (cy (roomy 1 ((app (app p A) B).length+[cI .u8 lo].length)) (cy (decide (a=a))
  (bif sK a then(bif sK b then some (K (app (app (app p A) B) [cI .u8 lo]) (decide (lo<256)))else some (K (app (app (app p A) B) [cI .u8 lo]) false))else some (K (app (app (app p A) B) [cI .u8 lo]) false)))))))
 else cy (decide (p.length+16<=1099511627776)) (some (K (p++Mp a lo hi f) (QB a lo f)))
abbrev k2(b:List Int)(o:Bool):List Pl:=cg [.cq u8,.bool] (b,o,())
def zM{α:Type}(K:List Int->Bool->α)(o a b lo hi:Int)(l:List Int):Option α:=
 let f:=(kZ o).1
 let p:=app [253] (qc (cI .u64 (jF .i64 o 64768)))
 let rga:=(decide (0<=cI .u64 a)&&decide (cI .u64 a<18446744073709551616))
 bif !zn o then some (K [] false)else bif !(zK (o,a,b,lo,hi,l,f,())).1 then some (K [] false)else
 bif decide (64768<=o)then cy (decide (0<=cI .u64 (jF .i64 o 64768))&&decide (cI .u64 (jF .i64 o 64768)<18446744073709551616)) (cy (roomy 1 ([(253:Int)].length+(qc (cI .u64 (jF .i64 o 64768))).length)) (cy rga (zL K p o a b lo hi l)))
 else cy rga (zL K [cI .u8 o] o a b lo hi l)
abbrev t80:List Ty:=[i64,i64,i64,u64,u64,.cq i64]
theorem al1(o a b lo hi:Int)(l:List Int):(mN (Ps [pI]) [] (Ps [.tu (Ps [.ow u8,.bo])]) L80 Tryz.alE 3 (j7 e80 3) (cg t80 (o,a,b,lo,hi,l,()))).val=zM k2 o a b lo hi l:=by kernel_rfl
def Gd(n:Nat)(F: ∀ α:Type,(List Int->Bool->α)->Option α):Prop:= ∃ B O,B.length<=n/\ ∀ α K,F α K=some (K B O)
theorem Gd.bif{n:Nat}{c:Bool}{F1 F2: ∀ α:Type,(List Int->Bool->α)->Option α}(h1:Gd n F1)(h2:Gd n F2):Gd n (fun α K=>bif c then F1 α K else F2 α K):=by
 cases c
 ·exact h2
 ·exact h1
theorem Gd.ck{n:Nat}{c:Bool}{F: ∀ α:Type,(List Int->Bool->α)->Option α}(h1:c=true)(h2:Gd n F):Gd n (fun α K=>cy c (F α K)):=by
 subst h1;exact h2
theorem Gd.some{n:Nat}{B:List Int}{O:Bool}(h:B.length<=n):Gd n (fun _ K=>some (K B O)):=⟨B,O,h,fun _ _=>rfl⟩
theorem Mr(p:List Int)(o a b lo hi:Int)(l:List Int)(hp:p.length<=11)(h1: -9223372036854775808<=a)(h2:a<9223372036854775808)(hl:10*l.length+100<=1099511627776):
 Gd (11+30+10*l.length) (fun _ K=>zL K p o a b lo hi l):=by
 have cA:=qZ (cI .u64 a);have cB:=qZ (cI .u64 b);have cL:=qZ (cI .u64 (Int.ofNat l.length));have cS:=yk a;have cM:=Xs l (p++qc (cI .u64 (Int.ofNat l.length)),zn o);have r1:=uS a;have r2:=uS b;have r3:=uS (Int.ofNat l.length);have cC:=SO a lo hi (kZ o).1;simp only[List.length_append]at cM;dsimp only[zL];simp only[cZ];refine(.bif (.some ?_) (.bif (.bif (.ck ?_ (.some ?_)) (.bif (.ck ?_ (.some ?_)) (.bif (.ck ?_ (.some ?_)) (.bif (.ck ?_ (.some ?_)) (.ck ?_ (.ck ?_ (.ck ?_ (.ck ?_ (.some ?_))))))))) (.bif (.ck ?_ (.ck ?_ (.some ?_))) (.bif (.ck ?_ (.ck ?_ (.some ?_))) (.bif (.ck ?_ (.ck ?_ (.ck ?_ (.ck ?_ (.bif (.some ?_) (.some ?_)))))) (.bif (.ck ?_ (.ck ?_ (.ck ?_ (.ck ?_ (.ck ?_ (.ck ?_ (.ck ?_ (.bif (.some ?_) (.some ?_))))))))) (.bif (.ck ?_ (.ck ?_ (.ck ?_ (.ck ?_ (.ck ?_ (.ck ?_ (.ck ?_ (.bif (.some ?_) (.some ?_))))))))) (.bif (.ck ?_ (.ck ?_ (.ck ?_ (.ck ?_ (.ck ?_ (.ck ?_ (.bif (.bif (.some ?_) (.some ?_)) (.some ?_)))))))) (.ck ?_ (.some ?_))))))))))
 all_goals try (with_reducible apply jW)
 all_goals try simp only[Bool.and_eq_true,decide_eq_true_eq,List.length_append,List.length_cons,List.length_nil]
 all_goals first
  |omega
  |trivial
  |(refine⟨?_,?_,?_⟩<;>first|rfl|trivial|omega)
theorem Ms(o a b lo hi:Int)(l:List Int)(h1: -9223372036854775808<=a)(h2:a<9223372036854775808)(hl:10*l.length+100<=1099511627776):
 Gd (11+30+10*l.length) (fun _ K=>zM K o a b lo hi l):=by
 have cO:=qZ (cI .u64 (jF .i64 o 64768));have r1:=uS a;have r2:=uS (jF .i64 o 64768);dsimp only[zM];simp only[cZ];refine .bif (.some (by simp)) (.bif (.some (by simp)) (.bif (.ck ?_ (.ck ?_ (.ck ?_ (Mr _ o a b lo hi l ?_ h1 h2 hl)))) (.ck ?_ (Mr _ o a b lo hi l ?_ h1 h2 hl))))
 ·simp only[Bool.and_eq_true,decide_eq_true_eq];omega
 ·apply jW
  ·omega
  ·simp only[List.length_cons,List.length_nil];omega
 ·simp only[Bool.and_eq_true,decide_eq_true_eq];omega
 ·simp only[List.length_append,List.length_cons,List.length_nil];omega
 ·simp only[Bool.and_eq_true,decide_eq_true_eq];omega
 ·simp
def j8(x:ca t80):List Int×Bool:=(zM Prod.mk x.1 x.2.1 x.2.2.1 x.2.2.2.1 x.2.2.2.2.1 x.2.2.2.2.2.1).getD ([],false)
def Xt(x:ca t80):Bool:=(decide (-9223372036854775808<=x.2.1)&&decide (x.2.1<9223372036854775808))&&decide (10*x.2.2.2.2.2.1.length+100<=1099511627776)
def s80:jJ:=kR (Ps [pI]) [] (Ps [.tu (Ps [.ow u8,.bo])]) t80 [.cq u8,.bool] fun x=>.ck (Xt x) (.ok ((j8 x).1,(j8 x).2,()))
theorem EB{x:ca t80}(h:Xt x=true):(j8 x).1.length<=41+10*x.2.2.2.2.2.1.length/\ ∀ (α:Type) (K:List Int->Bool->α),zM K x.1 x.2.1 x.2.2.1 x.2.2.2.1 x.2.2.2.2.1 x.2.2.2.2.2.1=some (K (j8 x).1 (j8 x).2):=by
 simp only[Xt,Bool.and_eq_true,decide_eq_true_eq]at h;obtain⟨B,O,hB,hK⟩:=Ms x.1 x.2.1 x.2.2.1 x.2.2.2.1 x.2.2.2.2.1 x.2.2.2.2.2.1 h.1.1 h.1.2 h.2
 have e:j8 x=(B,O):=by unfold j8;exact congrArg (fun z=>z.getD ([],false)) (hK _ Prod.mk)
 rw[e];exact⟨hB,hK⟩
theorem al2{cb:cx}(W:World cb):s80.Ok 192 cb:=by
 have hl:lE Rx.w (w6 l80 Hk g80) (fun n d=>nO (cb n d) n (.bl 2 (.lp l80.body))):=oW (W.in (Xr W) 3) (cp _) (m:=3) alZ;refine j4 (W.in (Xr W) 3) (W.st 192 _ rfl) rfl (L:=L80) (mz.pH (.cons (b:=l80.body) (by kernel_rfl) hl .nil)) (m:=3) rfl ?_;rintro⟨o,a,b,lo,hi,l,⟨⟩⟩ q h;obtain⟨h1,h2⟩:=Lf.T.cw h;cases h2;rw[al1];exact(EB h1).2 _ k2
abbrev JJ:List Ty:=[.cq u8,.cq tI,i64,i64]
def l67:qV:=⟨0,mV Tryz.alA.code 0,[4,12,13,14],Ps [.ow u8,.im tI,.n .i64,.n .i64],[⟨.s7,[4],Ps [.ow u8]⟩,⟨.rt,[2,3],Ps [.ow u8,.n .i64]⟩]⟩
def e67:List (Nat×jJ):=[(191,s79),(192,s80)]
theorem Xu{cb:cx}(W:World cb):j1 cb e67:=.cons (alO W) (.cons (al2 W) .nil)
def mI(x:den tI):ca t80:=(x.1,x.2.1,x.2.2.1,x.2.2.2.1,x.2.2.2.2.1,x.2.2.2.2.2,())
def Hl(out:List Int)(x:den tI)(_:List (den tI)):List Int ⊕ Option (List Int):=bif (j8 (mI x)).2 then .inl (out++(j8 (mI x)).1)else .inr none
def uH(c:List (den tI))(out:List Int):Option (List Int):=nP Hl some c out
def xI(c:List (den tI)):Nat:=c.foldr (fun x n=>41+10*x.2.2.2.2.2.length+n) 0
theorem Gj(x:den tI)(c:List (den tI)):xI (x::c)=41+10*List.length x.2.2.2.2.2+xI c:=rfl
theorem QC(c:List (den tI)):41*c.length<=xI c:=by
 induction c with
 |nil=>simp[xI]
 |cons x c ih=>rw[Gj];simp only[List.length_cons];omega
def Mt(c:List (den tI)):Bool:=jC (fun x=>Xt (mI x)) c
theorem qz{α:Type}{p:α->Bool}{x:α}{l:List α}(h:jC p (x::l)=true):p x=true/\jC p l=true:=by
 have h:(bif p x then jC p l else false)=true:=h;cases q:p x with
 |true=>rw[q]at h;exact⟨rfl,h⟩
 |false=>rw[q]at h;cases h
def wI(c:List (den tI)):Bool:=Mt c&&decide (xI c<=1099511627776)
theorem Mu(out:List Int)(c:List (den tI))(n i:Int):(l67.step (fun _=>none) (j7 e67 3) 3 (cg JJ (out,c,n,i,()))).val=
 bif decide (i<n)then bif jA i (Int.ofNat c.length)then bif Xt (mI (c.getD i.toNat (cr tI)))then bif !(j8 (mI (c.getD i.toNat (cr tI)))).2 then some (Rs.out 1 (cg [.cq u8,i64] ([],1,())))
  else bif roomy 1 (out.length+(j8 (mI (c.getD i.toNat (cr tI)))).1.length)then some (Rs.next (cg JJ (app out (j8 (mI (c.getD i.toNat (cr tI)))).1,c,n,jR .i64 i 1,())))else none else none else none else some (Rs.out 0 (cg [.cq u8] (out,()))):=by kernel_rfl
theorem Xv(c:List (den tI))(hc:Mt c=true): ∀ (out y:List Int),uH c out=some y->y.length<=out.length+xI c:=by
 induction c with
 |nil=>
  intro out y h;cases h;exact Nat.le_add_right _ _
 |cons x c ih=>
  intro out y h;obtain⟨h1,h2⟩:=qz hc;have hp:(j8 (mI x)).1.length<=41+10*List.length x.2.2.2.2.2:=(EB h1).1;have e:uH (x::c) out=(match Hl out x c with| .inl s=>uH c s| .inr o=>o):=by
   show nP Hl some (x::c) out=_;rw[nP];cases Hl out x c<;>rfl
  rw[e]at h;unfold Hl at h;cases q:(j8 (mI x)).2 with
  |true=>
   rw[q]at h;have:=ih h2 _ _ h;rw[Gj];simp only[List.length_append]at this;omega
  |false=>rw[q]at h;cases h
theorem adF(out:List Int)(c:List (den tI))(hc:Mt c=true)(hs:out.length+xI c<=1099511627776):
 oU (l67.step (fun _=>none) (j7 e67 3) 3) (cg JJ (out,c,(c.length:Int),0,())) (match uH c out with|some _=>0|none=>1) (match uH c out with|some y=>cg [.cq u8] (y,())|none=>cg [.cq u8,i64] ([],1,())):=by
 have hl:=QC c;have:=adm (f:=l67.step (fun _=>none) (j7 e67 3) 3) (l:=c) (fun(out:List Int) j=>cg JJ (out,c,(c.length:Int),(j:Int),())) Hl (fun q=>(some q:Option (List Int)))
  (fun o=>(match o with|some _=>0|none=>1,match o with|some y=>cg [.cq u8] (y,())|none=>cg [.cq u8,i64] ([],1,()))) (fun out r=>Mt r=true/\out.length+xI r<=1099511627776) (fun out j x r h hi=>by
  obtain⟨h1,h2⟩:=kq h (cr tI);obtain⟨k0,k3⟩:=hi;obtain⟨k1,k2⟩:=qz k0
  have hr:c.length=j+1+r.length:=by have:=congrArg List.length h;simp at this;omega
  rw[Gj]at k3;have hp:(j8 (mI x)).1.length<=41+10*List.length x.2.2.2.2.2:=(EB k1).1
  have hj:j<4611686018427387904:=by omega
  have hro:roomy 1 (out.length+(j8 (mI x)).1.length)=true:=jW (by omega) (by omega);refine⟨?_,fun s' e=>?_⟩
  ·rw[Mu,kY h1,cond_true,kF h1,cond_true,Int.toNat_natCast,h2,rM hj,k1,hro,cZ];unfold Hl;cases(j8 (mI x)).2<;>rfl
  ·unfold Hl at e;cases q:(j8 (mI x)).2 with
   |true=>rw[q]at e;cases e;refine⟨k2,?_⟩;rw[List.length_append];omega
   |false=>rw[q]at e;cases e) (fun q j h hj hi=>by
  have:j=c.length:=by have:=List.drop_eq_nil_iff.1 h;omega
  subst this;rw[Mu,km (Nat.le_refl _)]
  rfl) c 0 out rfl (by omega) ⟨hc,hs⟩
 exact this
def g67:ca JJ->T (Nat×List Pl):=fun x=>.ck ((decide (x.1.length=0)&&wI x.2.1)&&(decide (x.2.2.1=(x.2.1.length:Int))&&decide (x.2.2.2.1=0)))
 (.br (uH x.2.1 []).isSome (.ok (0,cg [.cq u8] ((uH x.2.1 []).getD [],()))) (.ok (1,cg [.cq u8,i64] ([],1,()))))
theorem al3(x:ca JJ)(k:Nat)(q:List Pl)(h:(g67 x).val=some (k,q)):oU (l67.step (fun _=>none) (j7 e67 3) 3) (cg JJ x) k q:=by
 obtain⟨out,c,n,i,⟨⟩⟩:=x;obtain⟨h1,h2⟩:=Lf.T.cw h;simp only[Bool.and_eq_true,decide_eq_true_eq,wI]at h1;obtain⟨⟨b1,b2,b3⟩,b4,b5⟩:=h1;have b1:=List.eq_nil_of_length_eq_zero b1;subst b1;subst b4;subst b5;have:=adF [] c b2 (by simpa using b3);rw[Lf.T.kX]at h2;cases hm:uH c []with
 |none=>rw[hm]at h2 this;cases h2;exact this
 |some y=>rw[hm]at h2 this;cases h2;exact this
def Mv(c:List (den tI)):Option (List Int):=bif ly c then uH c []else none
def wb(c:List (den tI)):List Int:=(Mv c).getD []
def uI(c:List (den tI)):Int:=bif (Mv c).isSome then 0 else 1
theorem Gk(c:List (den tI))(hc:Mt c=true):(wb c).length<=xI c:=by
 unfold wb Mv;cases ly c with
 |false=>exact Nat.zero_le _
 |true=>
  cases h:uH c []with
  |none=>simp
  |some y=>have:=Xv c hc _ _ h;simpa using this
def L67:Nat->Option mB:=vF [(0,w6 l67 JJ g67)]
def s67:jJ:=kR (Ps [.im tI]) [] (Ps [.tu (Ps [.ow u8,.n .i64])]) [.cq tI] [.cq u8,i64] fun x=>.ck (wI x.1) (.ok (wb x.1,uI x.1,()))
theorem al4(c:List (den tI)):(mN (Ps [.im tI]) [] (Ps [.tu (Ps [.ow u8,.n .i64])]) L67 Tryz.alA 3 (j7 e67 3) (cg [.cq tI] (c,()))).val=
 bif decide (c.length<=1099511627776)then bif !ly c then some (cg [.cq u8,i64] ([],1,()))else bif (decide ((0:Nat)=0)&&wI c)&&(decide ((c.length:Int)=(c.length:Int))&&decide ((0:Int)=0))then
  bif (uH c []).isSome then some (cg [.cq u8,i64] ((uH c []).getD [],0,()))else some (cg [.cq u8,i64] ([],1,()))else none else none:=by kernel_rfl
theorem al5{cb:cx}(W:World cb):s67.Ok 164 cb:=by
 have hl:lE Rx.w (w6 l67 JJ g67) (fun n d=>nO (cb n d) n (.bl 0 (.lp l67.body))):=oW (W.in (Xu W) 3) (cp _) (m:=3) al3;refine j4 (W.in (Xu W) 3) (W.st 164 _ rfl) rfl (L:=L67) (mz.pH (.cons (b:=l67.body) (by kernel_rfl) hl .nil)) (m:=3) rfl ?_;rintro⟨c,⟨⟩⟩ q h;obtain⟨h1,h2⟩:=Lf.T.cw h;cases h2;have h1:wI c=true:=h1;have hw:=QC c
 have h3:xI c<=1099511627776:=by simp only[wI,Bool.and_eq_true,decide_eq_true_eq]at h1;exact h1.2
 have h4:c.length<=1099511627776:=by omega
 rw[al4,decide_eq_true h4,h1];unfold wb uI Mv;cases ly c with
 |false=>rfl
 |true=>
  simp only[decide_true,Bool.and_self,cond_true,Bool.not_true,cond_false];cases uH c []<;>rfl
end Go.Proofs.Vd
