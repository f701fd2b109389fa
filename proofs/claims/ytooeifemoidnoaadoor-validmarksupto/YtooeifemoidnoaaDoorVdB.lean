import Derived.Test.YtooeifemoidnoaaDoorLfG
import Derived.Test.YtooeifemoidnoaaDoorEnvD
import Derived.KernelRfl
noncomputable section
namespace Go.Proofs
open Go.Ab Go.Ab.Lf
set_option maxRecDepth 100000
def Tryd.xs:Tr FbK:=(.node (.node (.node (.node (.node (.node (.node .nil (some Tryd.x63) .nil) (some Tryd.x31) (.node .nil none .nil)) none (.node (.node .nil (some Tryd.x79) .nil) (some Tryd.x47) (.node .nil none .nil))) (some Tryd.x7) (.node (.node (.node .nil (some Tryd.x71) .nil) (some Tryd.x39) (.node .nil none .nil)) (some Tryd.x23) (.node (.node .nil (some Tryd.x87) .nil) (some Tryd.x55) .nil))) (some Tryd.x3) (.node (.node (.node (.node .nil (some Tryd.x67) .nil) (some Tryd.x35) (.node .nil none .nil)) (some Tryd.x19) (.node (.node .nil (some Tryd.x83) .nil) (some Tryd.x51) .nil)) (some Tryd.x11) (.node (.node (.node .nil (some Tryd.x75) .nil) (some Tryd.x43) (.node .nil none .nil)) none (.node (.node .nil (some Tryd.x91) .nil) (some Tryd.x59) .nil)))) none (.node (.node (.node (.node (.node .nil (some Tryd.x65) .nil) (some Tryd.x33) (.node .nil none .nil)) none (.node (.node .nil (some Tryd.x81) .nil) (some Tryd.x49) .nil)) (some Tryd.x9) (.node (.node (.node .nil (some Tryd.x73) .nil) (some Tryd.x41) (.node .nil none .nil)) none (.node (.node .nil (some Tryd.x89) .nil) (some Tryd.x57) .nil))) none (.node (.node (.node (.node .nil (some Tryd.x69) .nil) (some Tryd.x37) (.node .nil none .nil)) (some Tryd.x21) (.node (.node .nil (some Tryd.x85) .nil) (some Tryd.x53) .nil)) none (.node (.node (.node .nil (some Tryd.x77) .nil) (some Tryd.x45) (.node .nil none .nil)) (some Tryd.x29) (.node (.node .nil none .nil) (some Tryd.x61) .nil))))) none (.node (.node (.node (.node (.node (.node .nil none .nil) (some Tryd.x32) (.node .nil none .nil)) none (.node (.node .nil (some Tryd.x80) .nil) (some Tryd.x48) (.node .nil none .nil))) (some Tryd.x8) (.node (.node (.node .nil (some Tryd.x72) .nil) (some Tryd.x40) (.node .nil none .nil)) none (.node (.node .nil (some Tryd.x88) .nil) (some Tryd.x56) .nil))) none (.node (.node (.node (.node .nil (some Tryd.x68) .nil) (some Tryd.x36) (.node .nil none .nil)) (some Tryd.x20) (.node (.node .nil (some Tryd.x84) .nil) (some Tryd.x52) .nil)) (some Tryd.x12) (.node (.node (.node .nil (some Tryd.x76) .nil) (some Tryd.x44) (.node .nil none .nil)) (some Tryd.x28) (.node (.node .nil none .nil) (some Tryd.x60) .nil)))) none (.node (.node (.node (.node (.node .nil none .nil) (some Tryd.x34) (.node .nil none .nil)) (some Tryd.x18) (.node (.node .nil (some Tryd.x82) .nil) (some Tryd.x50) .nil)) (some Tryd.x10) (.node (.node (.node .nil (some Tryd.x74) .nil) (some Tryd.x42) (.node .nil none .nil)) none (.node (.node .nil (some Tryd.x90) .nil) (some Tryd.x58) .nil))) none (.node (.node (.node (.node .nil (some Tryd.x70) .nil) (some Tryd.x38) (.node .nil none .nil)) (some Tryd.x22) (.node (.node .nil (some Tryd.x86) .nil) (some Tryd.x54) .nil)) (some Tryd.x14) (.node (.node (.node .nil none .nil) (some Tryd.x46) (.node .nil none .nil)) (some Tryd.x30) (.node (.node .nil none .nil) (some Tryd.x62) .nil))))))
def bkD:FuncId->Option FbK:=fun f=>bif (Nat.beq f 7||(Nat.beq f 57||Nat.beq f 66))then none else Tryd.xs.get f
end Go.Proofs

noncomputable section
variable {cal:Go.Ab.Lf.CallN}
namespace Go.Proofs.Vd
open Go.Ab Go.Ab.Lf
set_option maxRecDepth 100000
abbrev i64:Ty:=.int .i64
abbrev u64:Ty:=.int .u64
abbrev u8:Ty:=.int .u8
abbrev tI:Ty:=.pair i64 (.pair i64 (.pair i64 (.pair u64 (.pair u64 (.sli i64)))))
abbrev Ps(l:List Pat):Pat:=l.foldr .cons .nil
abbrev pOut(g:Nat):Pat:=.pt g (Ps [.ow u8,.bo])
def inD(l:List (Nat×Fsp))(m:Nat):CallQ:=inl bkD (entL l) m 12
structure World(cal:CallN):Prop where
 st: ∀ f b,bkD f=some b->StepOk cal f b
theorem World.in(W:World cal){l:List (Nat×Fsp)}(h:EnOk cal l)(m:Nat):SimC (inD l m) cal:=inl_ok W.st h.ok 12
theorem roomy_le{b n:Nat}(hb:b<=64)(h:n<=1099511627776):roomy b n=true:=by
 rw[roomy_iff]
 refine⟨?_,by omega⟩
 calc n*b<=1099511627776*64:=Nat.mul_le_mul h hb
  _<=70368744177664:=by decide
def s28:Fsp:=mkF (Ps [pOut 0,.bo]) [2] (Ps [.tu .nil,pOut 2]) [.sli u8,.bool,.bool] [.sli u8,.bool] fun x=>.ok (x.1,x.2.1|| !x.2.2.1,())
def s31:Fsp:=mkF (Ps [pOut 0,.im u8]) [2] (Ps [.tu .nil,pOut 2]) [.sli u8,.bool,.sli u8] [.sli u8,.bool] fun x=>.ck (decide (x.1.length+x.2.2.1.length<=1099511627776)) (.ok (x.1++x.2.2.1,x.2.1,()))
theorem s28_ok(W:World cal):s28.Ok 28 cal:=by
 refine mkF_ok (W.in .nil 3) (W.st 28 _ rfl) rfl (okL_none _) (m:=3) rfl ?_
 rintro⟨b,x,y,⟨⟩⟩ q h
 cases h
 cases x<;>kernel_rfl
theorem s31_ok(W:World cal):s31.Ok 31 cal:=by
 refine mkF_ok (W.in .nil 3) (W.st 31 _ rfl) rfl (okL_none _) (m:=3) rfl ?_
 rintro⟨b,x,y,⟨⟩⟩ q h
 obtain⟨h1,h2⟩:=Lf.T.ck_some h
 cases h2
 have e:(fnT (Ps [pOut 0,.im u8]) [2] (Ps [.tu .nil,pOut 2]) (fun _=>none) Tryd.x31 3 (inD [] 3) (ofT [.sli u8,.bool,.sli u8] (b,x,y,()))).val=bif roomy 1 (b.length+y.length)then some (ofT [.sli u8,.bool] (app b y,x,()))else none:=by kernel_rfl
 rw[e,roomy_le (by omega) (by simpa using h1),app_eq]
 rfl
def preF:Nat->Int->List Int
 |0,_=>[]
 |k+1,n=>if 128<=n then orW .u8 (cvtW .u8 n) 128::preF k (shrW .u64 n 7)else []
def lastF:Nat->Int->Int
 |0,n=>n
 |k+1,n=>if 128<=n then lastF k (shrW .u64 n 7)else n
def putU(n:Int):List Int:=preF 9 n++[cvtW .u8 (lastF 9 n)]
theorem preF_len: ∀ (k:Nat) (n:Int),(preF k n).length<=k
 |0,_=>Nat.le_refl _
 |k+1,n=>by
  unfold preF
  split
  ·have:=preF_len k (shrW .u64 n 7);simp;omega
  ·simp
theorem putU_len(n:Int):(putU n).length<=10:=by have:=preF_len 9 n;unfold putU;simp;omega
abbrev t65:List Ty:=[.sli u8,u64,.sli u64,i64,i64]
def l65:Lop:=⟨2,lpOf Tryd.x65.code 2,[3,5,6,7,8],Ps [.ow u8,.n .u64,.im u64,.n .i64,.n .i64],[⟨.brk,[3,5,6,7,8],Ps [.ow u8,.n .u64,.im u64,.n .i64,.n .i64]⟩]⟩
theorem l65_step(o:List Int)(n:Int)(l:List Int)(a i:Int):l65.step (fun _=>none) (inD [] 3) 3 (ofT t65 (o,n,l,a,i,()))=
 .br (decide (128<=n)) (.ck (roomy 1 (o.length+1)) (.ok (.next (ofT t65 (app o [orW .u8 (cvtW .u8 n) 128],shrW .u64 n 7,l,a,i,()))))) (.ok (.out 0 (ofT t65 (o,n,l,a,i,())))):=by kernel_rfl
theorem shr7(n:Int):shrW .u64 n 7=n.fdiv 128:=rfl
theorem l65_rch: ∀ (k:Nat) (o:List Int) (n:Int) (l:List Int) (a i:Int),0<=n->n<128 ^ (k+1)->o.length+k<=1099511627776->
 Rch (l65.step (fun _=>none) (inD [] 3) 3) (ofT t65 (o,n,l,a,i,())) 0 (ofT t65 (o++preF k n,lastF k n,l,a,i,()))
 |0,o,n,l,a,i,h0,h1,h2=>by
  refine .last ?_
  rw[l65_step,Lf.T.val_br]
  have:decide (128<=n)=false:=decide_eq_false (by omega)
  rw[this]
  simp[preF,lastF,Lf.T.val_ok]
 |k+1,o,n,l,a,i,h0,h1,h2=>by
  by_cases hn:128<=n
  ·have hs:shrW .u64 n 7=n / 128:=by rw[shr7,Int.fdiv_eq_ediv_of_nonneg _ (by omega)]
   have ih:=l65_rch k (o++[orW .u8 (cvtW .u8 n) 128]) (n / 128) l a i (by omega) (by
    rw[Int.pow_succ]at h1
    exact Int.ediv_lt_of_lt_mul (by omega) h1) (by simp;omega)
   refine .more (pl':=ofT t65 (o++[orW .u8 (cvtW .u8 n) 128],n / 128,l,a,i,())) ?_ ?_
   ·rw[l65_step,Lf.T.val_br,decide_eq_true hn,cond_true,Lf.T.val_ck,roomy_le (by omega) (by omega),app_eq,hs]
    rfl
   ·have e1:preF (k+1) n=orW .u8 (cvtW .u8 n) 128::preF k (n / 128):=by rw[<-hs];exact if_pos hn
    have e2:lastF (k+1) n=lastF k (n / 128):=by rw[<-hs];exact if_pos hn
    rw[e1,e2]
    simpa using ih
  ·refine .last ?_
   rw[l65_step,Lf.T.val_br,decide_eq_false hn]
   have e1:preF (k+1) n=[]:=if_neg hn
   have e2:lastF (k+1) n=n:=if_neg hn
   rw[e1,e2,List.append_nil]
   rfl
def g65:denT t65->T (Nat×List Pl):=fun x=>.ck ((decide (0<=x.2.1)&&decide (x.2.1<18446744073709551616))&&decide (x.1.length+10<=1099511627776)) (.ok (0,ofT t65 (x.1++preF 9 x.2.1,lastF 9 x.2.1,x.2.2.1,x.2.2.2.1,x.2.2.2.2.1,())))
def s65:Fsp:=mkF (Ps [.im u64]) [] (Ps [.ow u8]) [.sli u64] [.sli u8] fun x=>match x.1 with
 | [n]=>.ck (decide (0<=n)&&decide (n<18446744073709551616)) (.ok (putU n,()))
 | _=>.bad
theorem s65_ok(W:World cal):s65.Ok 65 cal:=by
 have hl:SimD Rx.w (mkL l65 t65 g65) (fun n d=>aCd (cal n d) n (.bl 2 (.lp l65.body))):=by
  refine mkL_ok (W.in .nil 3) (okL_none _) (m:=3) ?_
  rintro⟨o,n,l,a,i,⟨⟩⟩ k q h
  obtain⟨h1,h2⟩:=Lf.T.ck_some h
  cases h2
  simp only[Bool.and_eq_true,decide_eq_true_eq]at h1
  exact l65_rch 9 o n l a i h1.1.1 (Int.lt_trans h1.1.2 (by decide)) (by omega)
 refine mkF_ok (W.in .nil 3) (W.st 65 _ rfl) rfl (L:=pcL [(2,mkL l65 t65 g65)]) (PcOk.okL (.cons (b:=l65.body) (by kernel_rfl) hl .nil)) (m:=3) rfl ?_
 rintro⟨l,⟨⟩⟩ q h
 change (match l with| [n]=>(.ck (decide (0<=n)&&decide (n<18446744073709551616)) (.ok (putU n,())):T (denT [.sli u8]))| _=>.bad).val=some q at h
 split at h
 ·rename_i n
  obtain⟨h1,h2⟩:=Lf.T.ck_some h
  cases h2
  have e:(fnT (Ps [.im u64]) [] (Ps [.ow u8]) (pcL [(2,mkL l65 t65 g65)]) Tryd.x65 3 (inD [] 3) (ofT [.sli u64] ([n],()))).val=
   bif (decide (0<=n)&&decide (n<18446744073709551616))&&true then(bif roomy 1 ((preF 9 n).length+1)then some (ofT [.sli u8] (app (preF 9 n) [cvtW .u8 (lastF 9 n)],()))else none)else none:=by kernel_rfl
  rw[e,h1,roomy_le (by omega) (by have:=preF_len 9 n;omega),app_eq]
  rfl
 ·cases h
end Go.Proofs.Vd

noncomputable section
variable {cal:Go.Ab.Lf.CallN}
namespace Go.Proofs.Vd
open Go.Ab Go.Ab.Lf
set_option maxRecDepth 100000
def mNum1(s:List Int×Bool)(n:Int):List Int×Bool:=(s.1++putU (cvtW .u64 n),s.2|| !(decide (0<=n)&&decide (n<4294967296)))
def mNums(s:List Int×Bool)(l:List Int):List Int×Bool:=l.foldl mNum1 s
abbrev t32:List Ty:=[.sli u8,.bool,.sli i64,i64,i64]
abbrev P32:Pat:=Ps [pOut 2,.im i64,.n .i64,.n .i64]
def l32:Lop:=⟨0,lpOf Tryd.x32.code 0,[0,6,7,8],P32,[⟨.brk,[0,6,7,8],P32⟩]⟩
def e32:List (Nat×Fsp):=[(28,s28),(65,s65)]
theorem e32_ok(W:World cal):EnOk cal e32:=.cons (s28_ok W) (.cons (s65_ok W) .nil)
theorem l32_step(b:List Int)(bad:Bool)(l:List Int)(n i:Int):l32.step (fun _=>none) (inD e32 3) 3 (ofT t32 (b,bad,l,n,i,()))=
 .br (decide (i<n)) (.ck (ixOk i (Int.ofNat l.length)) (let x:=l.getD i.toNat (dflt i64)
  .br (decide (0<=x)) (.ck (decide (0<=cvtW .u64 x)&&decide (cvtW .u64 x<18446744073709551616)) (.ck (roomy 1 (b.length+(putU (cvtW .u64 x)).length)) (.ok (.next (ofT t32 (app b (putU (cvtW .u64 x)),bad|| !decide (x<4294967296),l,n,addW .i64 i 1,()))))))
   (.ck (decide (0<=cvtW .u64 x)&&decide (cvtW .u64 x<18446744073709551616)) (.ck (roomy 1 (b.length+(putU (cvtW .u64 x)).length)) (.ok (.next (ofT t32 (app b (putU (cvtW .u64 x)),bad|| !false,l,n,addW .i64 i 1,()))))))))
  (.ok (.out 0 (ofT t32 (b,bad,l,n,i,())))):=by kernel_rfl
theorem l32_rch(l:List Int)(b:List Int)(bad:Bool)(hl:b.length+10*l.length<=1099511627776):
 Rch (l32.step (fun _=>none) (inD e32 3) 3) (ofT t32 (b,bad,l,(l.length:Int),0,())) 0 (ofT t32 ((mNums (b,bad) l).1,(mNums (b,bad) l).2,l,(l.length:Int),(l.length:Int),())):=by
 have:=rng (f:=l32.step (fun _=>none) (inD e32 3) 3) (l:=l) (fun(s:List Int×Bool) j=>ofT t32 (s.1,s.2,l,(l.length:Int),(j:Int),())) (fun s x=>.inl (mNum1 s x)) (fun s=>(0,ofT t32 (s.1,s.2,l,(l.length:Int),(l.length:Int),()))) (fun s r=>s.1.length+10*r.length<=1099511627776) (fun s j x r h hi=>by
  obtain⟨b,bad⟩:=s
  obtain⟨h1,h2⟩:=drop_get h (dflt i64)
  have hp:=putU_len (cvtW .u64 x)
  simp only[List.length_cons]at hi
  refine⟨?_,fun s' e=>by cases e;simp only[mNum1,List.length_append];omega⟩
  have hj:j<4611686018427387904:=by omega
  rw[l32_step,Lf.T.val_br,lt_nat h1,cond_true,Lf.T.val_ck,ix_nat h1,cond_true,Int.toNat_natCast,h2,add1 hj]
  simp only[Lf.T.val_br,Lf.T.val_ck,(cvt_u64 x).1,(cvt_u64 x).2,decide_true,Bool.and_true,cond_true,roomy_le (b:=1) (n:=b.length+(putU (cvtW .u64 x)).length) (by omega) (by omega),app_eq]
  unfold mNum1
  by_cases hx:0<=x
  ·simp[hx,rsOf,Lf.T.val_ok]
  ·simp[hx,rsOf,Lf.T.val_ok]) (fun s j h hj hi=>by
  have:j=l.length:=by have:=List.drop_eq_nil_iff.1 h;omega
  subst this
  rw[l32_step,Lf.T.val_br,lt_natF (Nat.le_refl _)]
  rfl) l 0 (b,bad) rfl (by omega) hl
 rw[foldX_inl]at this
 exact this
def g32:denT t32->T (Nat×List Pl):=fun x=>.ck (decide (x.2.2.2.1=(x.2.2.1.length:Int))&&(decide (x.2.2.2.2.1=0)&&decide (x.1.length+10*x.2.2.1.length<=1099511627776)))
 (.ok (0,ofT t32 ((mNums (x.1,x.2.1) x.2.2.1).1,(mNums (x.1,x.2.1) x.2.2.1).2,x.2.2.1,(x.2.2.1.length:Int),(x.2.2.1.length:Int),())))
def s32:Fsp:=mkF (Ps [pOut 0,.im i64]) [2] (Ps [.tu .nil,pOut 2]) [.sli u8,.bool,.sli i64] [.sli u8,.bool] fun x=>.ck (decide (x.1.length+10*x.2.2.1.length<=1099511627776)) (.ok ((mNums (x.1,x.2.1) x.2.2.1).1,(mNums (x.1,x.2.1) x.2.2.1).2,()))
theorem s32_ok(W:World cal):s32.Ok 32 cal:=by
 have C:=W.in (e32_ok W) 3
 have hl:SimD Rx.w (mkL l32 t32 g32) (fun n d=>aCd (cal n d) n (.bl 0 (.lp l32.body))):=by
  refine mkL_ok C (okL_none _) (m:=3) ?_
  rintro⟨b,bad,l,n,i,⟨⟩⟩ k q h
  obtain⟨h1,h2⟩:=Lf.T.ck_some h
  cases h2
  simp only[Bool.and_eq_true,decide_eq_true_eq]at h1
  obtain⟨rfl,rfl,h3⟩:=h1
  exact l32_rch l b bad h3
 refine mkF_ok C (W.st 32 _ rfl) rfl (L:=pcL [(0,mkL l32 t32 g32)]) (PcOk.okL (.cons (b:=l32.body) (by kernel_rfl) hl .nil)) (m:=3) rfl ?_
 rintro⟨b,bad,l,⟨⟩⟩ q h
 obtain⟨h1,h2⟩:=Lf.T.ck_some h
 cases h2
 have e:(fnT (Ps [pOut 0,.im i64]) [2] (Ps [.tu .nil,pOut 2]) (pcL [(0,mkL l32 t32 g32)]) Tryd.x32 3 (inD e32 3) (ofT [.sli u8,.bool,.sli i64] (b,bad,l,()))).val=
  bif (decide ((l.length:Int)=(l.length:Int))&&(decide ((0:Int)=0)&&decide (b.length+10*l.length<=1099511627776)))then some (ofT [.sli u8,.bool] ((mNums (b,bad) l).1,(mNums (b,bad) l).2,()))else none:=by kernel_rfl
 have h1':decide (b.length+10*l.length<=1099511627776)=true:=h1
 rw[e,h1']
 simp
end Go.Proofs.Vd

noncomputable section
variable {cal:Go.Ab.Lf.CallN}
namespace Go.Proofs.Vd
open Go.Ab Go.Ab.Lf
set_option maxRecDepth 100000
def mKind1(s:List Int×Bool)(t:Int):List Int×Bool:=(s.1++[cvtW .u8 t],s.2|| !(decide (t=127)||(decide (t=126)||decide (t=123))))
def mKinds(s:List Int×Bool)(l:List Int):List Int×Bool:=l.foldl mKind1 s
def l33:Lop:=⟨0,lpOf Tryd.x33.code 0,[0,6,7,8],P32,[⟨.brk,[0,6,7,8],P32⟩]⟩
def e33:List (Nat×Fsp):=[(28,s28),(31,s31)]
theorem e33_ok(W:World cal):EnOk cal e33:=.cons (s28_ok W) (.cons (s31_ok W) .nil)
theorem l33_step(b:List Int)(bad:Bool)(l:List Int)(n i:Int):l33.step (fun _=>none) (inD e33 3) 3 (ofT t32 (b,bad,l,n,i,()))=
 .br (decide (i<n)) (.ck (ixOk i (Int.ofNat l.length)) (let x:=l.getD i.toNat (dflt i64)
  let r:=fun c=>T.ck (decide (b.length+[cvtW .u8 x].length<=1099511627776)) (T.ok (Rs.next (ofT t32 (b++[cvtW .u8 x],bad|| !c,l,n,addW .i64 i 1,()))))
  .br (decide (x=127)) (r true) (.br (decide (x=126)) (r true) (r (decide (x=123))))))
  (.ok (.out 0 (ofT t32 (b,bad,l,n,i,())))):=by kernel_rfl
theorem l33_rch(l:List Int)(b:List Int)(bad:Bool)(hl:b.length+l.length<=1099511627776):
 Rch (l33.step (fun _=>none) (inD e33 3) 3) (ofT t32 (b,bad,l,(l.length:Int),0,())) 0 (ofT t32 ((mKinds (b,bad) l).1,(mKinds (b,bad) l).2,l,(l.length:Int),(l.length:Int),())):=by
 have:=rng (f:=l33.step (fun _=>none) (inD e33 3) 3) (l:=l) (fun(s:List Int×Bool) j=>ofT t32 (s.1,s.2,l,(l.length:Int),(j:Int),())) (fun s x=>.inl (mKind1 s x)) (fun s=>(0,ofT t32 (s.1,s.2,l,(l.length:Int),(l.length:Int),()))) (fun s r=>s.1.length+r.length<=1099511627776) (fun s j x r h hi=>by
  obtain⟨b,bad⟩:=s
  obtain⟨h1,h2⟩:=drop_get h (dflt i64)
  simp only[List.length_cons]at hi
  refine⟨?_,fun s' e=>by cases e;simp[mKind1];omega⟩
  have hj:j<4611686018427387904:=by omega
  rw[l33_step,Lf.T.val_br,lt_nat h1,cond_true,Lf.T.val_ck,ix_nat h1,cond_true,Int.toNat_natCast,h2,add1 hj]
  have hb:b.length+1<=1099511627776:=by omega
  unfold mKind1
  by_cases h3:x=127
  ·simp[h3,rsOf,Lf.T.val_ok,Lf.T.val_br,Lf.T.val_ck,hb]
  ·by_cases h4:x=126
   ·simp[h4,rsOf,Lf.T.val_ok,Lf.T.val_br,Lf.T.val_ck,hb]
   ·simp[h3,h4,rsOf,Lf.T.val_ok,Lf.T.val_br,Lf.T.val_ck,hb]) (fun s j h hj hi=>by
  have:j=l.length:=by have:=List.drop_eq_nil_iff.1 h;omega
  subst this
  rw[l33_step,Lf.T.val_br,lt_natF (Nat.le_refl _)]
  rfl) l 0 (b,bad) rfl (by omega) hl
 rw[foldX_inl]at this
 exact this
def g33:denT t32->T (Nat×List Pl):=fun x=>.ck (decide (x.2.2.2.1=(x.2.2.1.length:Int))&&(decide (x.2.2.2.2.1=0)&&decide (x.1.length+x.2.2.1.length<=1099511627776)))
 (.ok (0,ofT t32 ((mKinds (x.1,x.2.1) x.2.2.1).1,(mKinds (x.1,x.2.1) x.2.2.1).2,x.2.2.1,(x.2.2.1.length:Int),(x.2.2.1.length:Int),())))
def s33:Fsp:=mkF (Ps [pOut 0,.im i64]) [2] (Ps [.tu .nil,pOut 2]) [.sli u8,.bool,.sli i64] [.sli u8,.bool] fun x=>.ck (decide (x.1.length+x.2.2.1.length<=1099511627776)) (.ok ((mKinds (x.1,x.2.1) x.2.2.1).1,(mKinds (x.1,x.2.1) x.2.2.1).2,()))
theorem s33_ok(W:World cal):s33.Ok 33 cal:=by
 have C:=W.in (e33_ok W) 3
 have hl:SimD Rx.w (mkL l33 t32 g33) (fun n d=>aCd (cal n d) n (.bl 0 (.lp l33.body))):=by
  refine mkL_ok C (okL_none _) (m:=3) ?_
  rintro⟨b,bad,l,n,i,⟨⟩⟩ k q h
  obtain⟨h1,h2⟩:=Lf.T.ck_some h
  cases h2
  simp only[Bool.and_eq_true,decide_eq_true_eq]at h1
  obtain⟨rfl,rfl,h3⟩:=h1
  exact l33_rch l b bad h3
 refine mkF_ok C (W.st 33 _ rfl) rfl (L:=pcL [(0,mkL l33 t32 g33)]) (PcOk.okL (.cons (b:=l33.body) (by kernel_rfl) hl .nil)) (m:=3) rfl ?_
 rintro⟨b,bad,l,⟨⟩⟩ q h
 obtain⟨h1,h2⟩:=Lf.T.ck_some h
 cases h2
 have e:(fnT (Ps [pOut 0,.im i64]) [2] (Ps [.tu .nil,pOut 2]) (pcL [(0,mkL l33 t32 g33)]) Tryd.x33 3 (inD e33 3) (ofT [.sli u8,.bool,.sli i64] (b,bad,l,()))).val=
  bif (decide ((l.length:Int)=(l.length:Int))&&(decide ((0:Int)=0)&&decide (b.length+l.length<=1099511627776)))then some (ofT [.sli u8,.bool] ((mKinds (b,bad) l).1,(mKinds (b,bad) l).2,()))else none:=by kernel_rfl
 have h1':decide (b.length+l.length<=1099511627776)=true:=h1
 rw[e,h1']
 simp
def preS:Nat->Int->List Int
 |0,_=>[]
 |k+1,n=>if n< -64∨63<n then orW .u8 (cvtW .u8 n) 128::preS k (shrW .i64 n 7)else []
def lastS:Nat->Int->Int
 |0,n=>n
 |k+1,n=>if n< -64∨63<n then lastS k (shrW .i64 n 7)else n
def putS(n:Int):List Int:=preS 9 n++[cvtW .u8 (andW .i64 (lastS 9 n) 127)]
theorem preS_len: ∀ (k:Nat) (n:Int),(preS k n).length<=k
 |0,_=>Nat.le_refl _
 |k+1,n=>by
  unfold preS
  split
  ·have:=preS_len k (shrW .i64 n 7);simp;omega
  ·simp
theorem putS_len(n:Int):(putS n).length<=10:=by have:=preS_len 9 n;unfold putS;simp;omega
abbrev t88:List Ty:=[.sli u8,i64,.sli i64,i64,i64]
abbrev P88:Pat:=Ps [.ow u8,.n .i64,.im i64,.n .i64,.n .i64]
def l88:Lop:=⟨2,lpOf Tryd.x88.code 2,[3,5,6,7,8],P88,[⟨.brk,[3,5,6,7,8],P88⟩]⟩
theorem l88_step(o:List Int)(n:Int)(l:List Int)(a i:Int):l88.step (fun _=>none) (inD [] 3) 3 (ofT t88 (o,n,l,a,i,()))=
 .br (bif decide (n< -64)then true else decide (63<n)) (.ck (roomy 1 (o.length+1)) (.ok (.next (ofT t88 (app o [orW .u8 (cvtW .u8 n) 128],shrW .i64 n 7,l,a,i,()))))) (.ok (.out 0 (ofT t88 (o,n,l,a,i,())))):=by kernel_rfl
theorem shr7s(n:Int):shrW .i64 n 7=n.fdiv 128:=rfl
theorem l88_rch: ∀ (k:Nat) (o:List Int) (n:Int) (l:List Int) (a i:Int),-64*128 ^ k<=n->n<64*128 ^ k->o.length+k<=1099511627776->
 Rch (l88.step (fun _=>none) (inD [] 3) 3) (ofT t88 (o,n,l,a,i,())) 0 (ofT t88 (o++preS k n,lastS k n,l,a,i,()))
 |0,o,n,l,a,i,h0,h1,h2=>by
  refine .last ?_
  rw[l88_step,Lf.T.val_br]
  have e1:decide (n< -64)=false:=decide_eq_false (by omega)
  have e2:decide (63<n)=false:=decide_eq_false (by omega)
  rw[e1,e2]
  simp[preS,lastS,Lf.T.val_ok]
 |k+1,o,n,l,a,i,h0,h1,h2=>by
  by_cases hn:n< -64∨63<n
  ·have hs:shrW .i64 n 7=n / 128:=by rw[shr7s,Int.fdiv_eq_ediv_of_nonneg _ (by omega)]
   rw[Int.pow_succ]at h0 h1
   have ih:=l88_rch k (o++[orW .u8 (cvtW .u8 n) 128]) (n / 128) l a i (by omega) (by omega) (by simp;omega)
   refine .more (pl':=ofT t88 (o++[orW .u8 (cvtW .u8 n) 128],n / 128,l,a,i,())) ?_ ?_
   ·have hc:(bif decide (n< -64)then true else decide (63<n))=true:=by
     rcases hn with h|h
     ·simp[h]
     ·by_cases q:n< -64<;>simp[q,h]
    rw[l88_step,Lf.T.val_br,hc,cond_true,Lf.T.val_ck,roomy_le (by omega) (by omega),app_eq,hs]
    rfl
   ·have e1:preS (k+1) n=orW .u8 (cvtW .u8 n) 128::preS k (n / 128):=by rw[<-hs];exact if_pos hn
    have e2:lastS (k+1) n=lastS k (n / 128):=by rw[<-hs];exact if_pos hn
    rw[e1,e2]
    simpa using ih
  ·refine .last ?_
   have e1:decide (n< -64)=false:=decide_eq_false (by omega)
   have e2:decide (63<n)=false:=decide_eq_false (by omega)
   rw[l88_step,Lf.T.val_br,e1,e2]
   have e1:preS (k+1) n=[]:=if_neg hn
   have e2:lastS (k+1) n=n:=if_neg hn
   rw[e1,e2,List.append_nil]
   rfl
def g88:denT t88->T (Nat×List Pl):=fun x=>.ck ((decide (-9223372036854775808<=x.2.1)&&decide (x.2.1<9223372036854775808))&&decide (x.1.length+10<=1099511627776)) (.ok (0,ofT t88 (x.1++preS 9 x.2.1,lastS 9 x.2.1,x.2.2.1,x.2.2.2.1,x.2.2.2.2.1,())))
def s88:Fsp:=mkF (Ps [.im i64]) [] (Ps [.ow u8]) [.sli i64] [.sli u8] fun x=>match x.1 with
 | [n]=>.ck (decide (-9223372036854775808<=n)&&decide (n<9223372036854775808)) (.ok (putS n,()))
 | _=>.bad
theorem s88_ok(W:World cal):s88.Ok 88 cal:=by
 have hl:SimD Rx.w (mkL l88 t88 g88) (fun n d=>aCd (cal n d) n (.bl 2 (.lp l88.body))):=by
  refine mkL_ok (W.in .nil 3) (okL_none _) (m:=3) ?_
  rintro⟨o,n,l,a,i,⟨⟩⟩ k q h
  obtain⟨h1,h2⟩:=Lf.T.ck_some h
  cases h2
  simp only[Bool.and_eq_true,decide_eq_true_eq]at h1
  exact l88_rch 9 o n l a i (Int.le_trans (by decide) h1.1.1) (Int.lt_trans h1.1.2 (by decide)) (by omega)
 refine mkF_ok (W.in .nil 3) (W.st 88 _ rfl) rfl (L:=pcL [(2,mkL l88 t88 g88)]) (PcOk.okL (.cons (b:=l88.body) (by kernel_rfl) hl .nil)) (m:=3) rfl ?_
 rintro⟨l,⟨⟩⟩ q h
 change (match l with| [n]=>(.ck (decide (-9223372036854775808<=n)&&decide (n<9223372036854775808)) (.ok (putS n,())):T (denT [.sli u8]))| _=>.bad).val=some q at h
 split at h
 ·rename_i n
  obtain⟨h1,h2⟩:=Lf.T.ck_some h
  cases h2
  have e:(fnT (Ps [.im i64]) [] (Ps [.ow u8]) (pcL [(2,mkL l88 t88 g88)]) Tryd.x88 3 (inD [] 3) (ofT [.sli i64] ([n],()))).val=
   bif (decide (-9223372036854775808<=n)&&decide (n<9223372036854775808))&&true then(bif roomy 1 ((preS 9 n).length+1)then some (ofT [.sli u8] (app (preS 9 n) [cvtW .u8 (andW .i64 (lastS 9 n) 127)],()))else none)else none:=by kernel_rfl
  rw[e,h1,roomy_le (by omega) (by have:=preS_len 9 n;omega),app_eq]
  rfl
 ·cases h
end Go.Proofs.Vd

noncomputable section
variable {cal:Go.Ab.Lf.CallN}
namespace Go.Proofs.Vd
open Go.Ab Go.Ab.Lf
set_option maxRecDepth 100000
def mClG(op:List Int)(x:den tI)(r:List (den tI)):List Int ⊕ Option Bool:=
 if x.1=2∨x.1=3∨x.1=4 then(if op.length=128 then .inr (some false)else .inl (op++[x.1]))
 else if x.1=5 then(if op.length=0∨ ¬ op.getD (op.length - 1) 0=4 then .inr (some false)else .inl (op.set (op.length - 1) 5))
 else if x.1=11 then(if op.length=0 then .inr (some (decide (r.length=0)))else .inl (op.take (op.length - 1)))
 else .inl op
def mClX(c:List (den tI)):Option Bool:=foldR mClG (fun _=>none) c []
def mClosed(c:List (den tI)):Bool:=(mClX c).getD false
abbrev t79:List Ty:=[.sli tI,.sli i64,.sli tI,i64,i64]
def l79:Lop:=⟨0,lpOf Tryd.x79.code 0,[0,3,7,8,9],Ps [.im tI,.ow i64,.im tI,.n .i64,.n .i64],[⟨.brk,[0],.cons (.im tI) .nil⟩,⟨.rt,[2],.cons .bo .nil⟩]⟩
theorem l79_step(c0 c:List (den tI))(op:List Int)(n i:Int):l79.step (fun _=>none) (inD [] 3) 3 (ofT t79 (c0,op,c,n,i,()))=
 .br (decide (i<n)) (.ck (ixOk i (Int.ofNat c.length)) (let x:Int:=(c.getD i.toNat (dflt tI)).1
  let nx:=fun(q:List Int)=>T.ok (Rs.next (ofT t79 (c0,q,c,n,addW .i64 i 1,())))
  let fl:=T.ok (Rs.out 1 (ofT [.bool] (false,())))
  let opn:=T.br (decide (Int.ofNat op.length=128)) fl (.ck (roomy 8 (op.length+1)) (nx (app op [x])))
  let at':=subW .i64 (Int.ofNat op.length) 1
  .br (decide (x=2)) opn (.br (decide (x=3)) opn (.br (decide (x=4)) opn
   (.br (decide (x=5)) (.ck (bif decide (Int.ofNat op.length=0)then true else ixOk at' (Int.ofNat op.length))
     (.br (bif decide (Int.ofNat op.length=0)then true else !decide (op.getD at'.toNat (dflt i64)=4)) fl (.ck (ixOk at' (Int.ofNat op.length)) (nx (op.set at'.toNat 5)))))
    (.br (decide (x=11)) (.br (decide (Int.ofNat op.length=0)) (T.ok (Rs.out 1 (ofT [.bool] (decide (i=subW .i64 (Int.ofNat c0.length) 1),())))) (.ck (cutOk 0 at' (Int.ofNat op.length)) (nx ((op.drop 0).take (at'.toNat - 0)))))
     (nx op)))))))
  (.ok (.out 0 (ofT [.sli tI] (c0,())))):=by kernel_rfl
theorem l79_rch(c0 c:List (den tI))(h0:c0.length=c.length)(hc:c.length<=1099511627776):
 Rch (l79.step (fun _=>none) (inD [] 3) 3) (ofT t79 (c0,[],c,(c.length:Int),0,())) (match mClX c with|none=>0|some _=>1) (match mClX c with|none=>ofT [.sli tI] (c0,())|some b=>ofT [.bool] (b,())):=by
 have:=rngR (f:=l79.step (fun _=>none) (inD [] 3) 3) (l:=c) (fun(op:List Int) j=>ofT t79 (c0,op,c,(c.length:Int),(j:Int),())) mClG (fun _=>(none:Option Bool)) (fun o=>(match o with|none=>0|some _=>1,match o with|none=>ofT [.sli tI] (c0,())|some b=>ofT [.bool] (b,())))
  (fun op r=>op.length+r.length<=1099511627776) (fun op j x r h hi=>by
  obtain⟨h1,h2⟩:=drop_get h (dflt tI)
  simp only[List.length_cons]at hi
  have hj:j<4611686018427387904:=by omega
  have hr:c.length=j+1+r.length:=by have:=congrArg List.length h;simp at this;omega
  refine⟨?_,fun s' e=>?_⟩
  ·rw[l79_step,Lf.T.val_br,lt_nat h1,cond_true,Lf.T.val_ck,ix_nat h1,cond_true,Int.toNat_natCast,h2,add1 hj]
   have hro:roomy 8 (op.length+1)=true:=roomy_le (by omega) (by omega)
   have e0:(Int.ofNat op.length=128)↔op.length=128:=by show((op.length:Int)=128)↔_;omega
   have e1:(Int.ofNat op.length=0)↔op.length=0:=by show((op.length:Int)=0)↔_;omega
   have e2: ∀ h: ¬ op.length=0,subW .i64 (Int.ofNat op.length) 1=((op.length - 1:Nat):Int):=fun h=>sub1 (by omega) (by omega)
   have e3:subW .i64 (Int.ofNat c0.length) 1=((c.length - 1:Nat):Int):=by rw[h0];exact sub1 (by omega) (by omega)
   have e4:((j:Int)=((c.length - 1:Nat):Int))↔r.length=0:=by omega
   have e5: ∀ h: ¬ op.length=0,ixOk ((op.length - 1:Nat):Int) (Int.ofNat op.length)=true:=fun h=>ix_nat (by omega)
   have e6: ∀ h: ¬ op.length=0,cutOk 0 ((op.length - 1:Nat):Int) (Int.ofNat op.length)=true:=fun h=>by rw[cutOk_iff];exact⟨by omega,by omega,by show _<=(op.length:Int);omega⟩
   unfold mClG
   simp only[Lf.T.val_br,Lf.T.val_ck,Lf.T.val_ok,hro,e0,e3,e4,app_eq,cond_true]
   by_cases x2:x.1=2
   ·by_cases q:op.length=128<;>simp[x2,q,rsR]
   ·by_cases x3:x.1=3
    ·by_cases q:op.length=128<;>simp[x3,q,rsR]
    ·by_cases x4:x.1=4
     ·by_cases q:op.length=128<;>simp[x4,q,rsR]
     ·by_cases x5:x.1=5
      ·by_cases q:op.length=0
       ·simp[x5,q,e1,rsR]
       ·have q1:decide (Int.ofNat op.length=0)=false:=decide_eq_false (by rw[e1];exact q)
        by_cases q2:op.getD (op.length - 1) 0=4
        ·simp only[x5,q1,e2 q,e5 q,Int.toNat_natCast,show op.getD (op.length - 1) (dflt i64)=4 from q2]
         have q4:=q2
         rw[List.getD_eq_getElem?_getD]at q4
         simp[q,q4,rsR]
        ·have q3: ¬ op.getD (op.length - 1) (dflt i64)=4:=q2
         simp only[x5,q1,e2 q,e5 q,Int.toNat_natCast,decide_eq_false q3]
         have q4:=q2
         rw[List.getD_eq_getElem?_getD]at q4
         simp[q,q4,rsR]
      ·by_cases x11:x.1=11
       ·by_cases q:op.length=0
        ·simp[x11,q,e1,rsR]
        ·have q1:decide (Int.ofNat op.length=0)=false:=decide_eq_false (by rw[e1];exact q)
         simp only[x11,q1,e2 q,e6 q,Int.toNat_natCast]
         simp[q,rsR]
       ·simp[x2,x3,x4,x5,x11,rsR]
  ·unfold mClG at e
   repeat' split at e
   all_goals first|(cases e;done)|(cases e;simp;omega)|(cases e;omega)) (fun s j h hj hi=>by
  have:j=c.length:=by have:=List.drop_eq_nil_iff.1 h;omega
  subst this
  rw[l79_step,Lf.T.val_br,lt_natF (Nat.le_refl _)]
  rfl) c 0 [] rfl (by omega) (by simpa using hc)
 exact this
def g79:denT t79->T (Nat×List Pl):=fun x=>.ck ((decide (x.2.1.length=0)&&decide (x.2.2.2.1=(x.2.2.1.length:Int)))&&(decide (x.2.2.2.2.1=0)&&(decide (x.1.length=x.2.2.1.length)&&decide (x.2.2.1.length<=1099511627776))))
 (.br (mClX x.2.2.1).isNone (.ok (0,ofT [.sli tI] (x.1,()))) (.ok (1,ofT [.bool] (mClosed x.2.2.1,()))))
theorem g79_ok(x:denT t79)(k:Nat)(q:List Pl)(h:(g79 x).val=some (k,q)):Rch (l79.step (fun _=>none) (inD [] 3) 3) (ofT t79 x) k q:=by
 obtain⟨c,op,c2,n,i,⟨⟩⟩:=x
 obtain⟨h1,h2⟩:=Lf.T.ck_some h
 simp only[Bool.and_eq_true,decide_eq_true_eq]at h1
 obtain⟨⟨a1,a2⟩,a3,a5,a4⟩:=h1
 have a1:=List.eq_nil_of_length_eq_zero a1
 subst a1;subst a2;subst a3
 have:=l79_rch c c2 a5 a4
 rw[Lf.T.val_br]at h2
 unfold mClosed at h2
 cases hm:mClX c2 with
 |none=>rw[hm]at h2 this;cases h2;exact this
 |some b=>rw[hm]at h2 this;cases h2;exact this
def s79:Fsp:=mkF (Ps [.im tI]) [] (Ps [.bo]) [.sli tI] [.bool] fun x=>.ck (decide (x.1.length<=1099511627776)) (.ok (mClosed x.1,()))
theorem s79_ok(W:World cal):s79.Ok 79 cal:=by
 have C:=W.in .nil 3
 have hl:SimD Rx.w (mkL l79 t79 g79) (fun n d=>aCd (cal n d) n (.bl 0 (.lp l79.body))):=mkL_ok C (okL_none _) (m:=3) g79_ok
 refine mkF_ok C (W.st 79 _ rfl) rfl (L:=pcL [(0,mkL l79 t79 g79)]) (PcOk.okL (.cons (b:=l79.body) (by kernel_rfl) hl .nil)) (m:=3) rfl ?_
 rintro⟨c,⟨⟩⟩ q h
 obtain⟨h1,h2⟩:=Lf.T.ck_some h
 cases h2
 have e:(fnT (Ps [.im tI]) [] (Ps [.bo]) (pcL [(0,mkL l79 t79 g79)]) Tryd.x79 3 (inD [] 3) (ofT [.sli tI] (c,()))).val=
  bif ((decide (([]:List Int).length=0)&&decide ((c.length:Int)=(c.length:Int)))&&(decide ((0:Int)=0)&&(decide (c.length=c.length)&&decide (c.length<=1099511627776))))then
   (bif (mClX c).isNone then some (ofT [.bool] (false,()))else some (ofT [.bool] (mClosed c,())))else none:=by kernel_rfl
 have h1':decide (c.length<=1099511627776)=true:=h1
 rw[e,h1']
 unfold mClosed
 cases mClX c<;>simp
end Go.Proofs.Vd

noncomputable section
variable {cal:Go.Ab.Lf.CallN}
namespace Go.Proofs.Vd
open Go.Ab Go.Ab.Lf
set_option maxRecDepth 100000
abbrev tRow:Ty:=.pair i64 (.pair i64 (.pair i64 (.pair i64 .str)))
abbrev tInf:List Ty:=[i64,i64,.bool,.sli i64,.sli i64]
def mSca:List (den tRow):=(outV1 [.sli tRow] (fnT .nil [] (Ps [.im tRow]) (fun _=>none) Tryd.x22 3 (inD [] 3) [])).1
def mVec:List (den tRow):=(outV1 [.sli tRow] (fnT .nil [] (Ps [.im tRow]) (fun _=>none) Tryd.x23 3 (inD [] 3) [])).1
def s22:Fsp:=mkF .nil [] (Ps [.im tRow]) [] [.sli tRow] fun _=>.ok (mSca,())
def s23:Fsp:=mkF .nil [] (Ps [.im tRow]) [] [.sli tRow] fun _=>.ok (mVec,())
theorem s22_ok(W:World cal):s22.Ok 22 cal:=by
 refine mkF_ok (W.in .nil 3) (W.st 22 _ rfl) rfl (okL_none _) (m:=3) rfl ?_
 rintro⟨⟩ q h
 cases h
 exact outV1_ok (to:=[.sli tRow]) (x:=fnT .nil [] (Ps [.im tRow]) (fun _=>none) Tryd.x22 3 (inD [] 3) []) (by kernel_rfl)
theorem s23_ok(W:World cal):s23.Ok 23 cal:=by
 refine mkF_ok (W.in .nil 3) (W.st 23 _ rfl) rfl (okL_none _) (m:=3) rfl ?_
 rintro⟨⟩ q h
 cases h
 exact outV1_ok (to:=[.sli tRow]) (x:=fnT .nil [] (Ps [.im tRow]) (fun _=>none) Tryd.x23 3 (inD [] 3) []) (by kernel_rfl)
abbrev pB:Pat:=.pt 0 (Ps [.n .i64,.n .i64,.bo,.im i64,.im i64])
abbrev pC:Pat:=.pt 0 (Ps [.n .i64,.n .i64,.bo,.ow i64,.ow i64])
abbrev t11i:List Ty:=[i64,i64,.bool,.sli i64,.sli i64,i64,i64,.bool,.sli i64,.sli i64,.bool,.sli u8,i64,i64]
def l11i:Lop:=⟨2,lpOf Tryd.x11.code 2,[2,7,8,42,43,44],Ps [pB,pC,.bo,.im u8,.n .i64,.n .i64],[⟨.brk,[2,7],Ps [pB,pC]⟩]⟩
def mSig1(s:Bool×List Int×List Int)(c:Int):Bool×List Int×List Int:=
 if c=58 then(true,s.2)else(if s.1 then(s.1,s.2.1,s.2.2++[if c=108 then 126 else if c=118 then 123 else 127])else(s.1,s.2.1++[if c=108 then 126 else if c=118 then 123 else 127],s.2.2))
def mSig(s:List Int):List Int×List Int:=(s.foldl mSig1 (false,[],[])).2
theorem l11i_step(f l:Int)(p:Bool)(a b:List Int)(f2 l2:Int)(p2:Bool)(a2 b2:List Int)(o:Bool)(s:List Int)(n i:Int):l11i.step (fun _=>none) (inD [] 3) 3 (ofT t11i (f,l,p,a,b,f2,l2,p2,a2,b2,o,s,n,i,()))=
 .br (decide (i<n)) (.ck (ixOk i (Int.ofNat s.length)) (let x:=s.getD i.toNat (dflt u8)
  let nx:=fun(t:Int)=>T.br o (.ck (roomy 8 (b2.length+1)) (.ok (Rs.next (ofT t11i (f,l,p,a,b,f2,l2,p2,a2,app b2 [t],o,s,n,addW .i64 i 1,())))))
   (.ck (roomy 8 (a2.length+1)) (.ok (Rs.next (ofT t11i (f,l,p,a,b,f2,l2,p2,app a2 [t],b2,o,s,n,addW .i64 i 1,())))))
  .br (decide (x=58)) (.ok (Rs.next (ofT t11i (f,l,p,a,b,f2,l2,p2,a2,b2,true,s,n,addW .i64 i 1,())))) (.br (decide (x=108)) (nx 126) (.br (decide (x=118)) (nx 123) (nx 127)))))
  (.ok (.out 0 (ofT [i64,i64,.bool,.sli i64,.sli i64,i64,i64,.bool,.sli i64,.sli i64] (f,l,p,a,b,f2,l2,p2,a2,b2,())))):=by kernel_rfl
theorem l11i_rch(f l:Int)(p:Bool)(a b:List Int)(f2 l2:Int)(p2:Bool)(s:List Int)(hs:s.length<=1000):
 Rch (l11i.step (fun _=>none) (inD [] 3) 3) (ofT t11i (f,l,p,a,b,f2,l2,p2,[],[],false,s,(s.length:Int),0,())) 0 (ofT [i64,i64,.bool,.sli i64,.sli i64,i64,i64,.bool,.sli i64,.sli i64] (f,l,p,a,b,f2,l2,p2,(mSig s).1,(mSig s).2,())):=by
 have:=rng (f:=l11i.step (fun _=>none) (inD [] 3) 3) (l:=s) (fun(q:Bool×List Int×List Int) j=>ofT t11i (f,l,p,a,b,f2,l2,p2,q.2.1,q.2.2,q.1,s,(s.length:Int),(j:Int),())) (fun q x=>.inl (mSig1 q x)) (fun q=>(0,ofT [i64,i64,.bool,.sli i64,.sli i64,i64,i64,.bool,.sli i64,.sli i64] (f,l,p,a,b,f2,l2,p2,q.2.1,q.2.2,())))
  (fun q r=>(q.2.1.length+r.length<=2000/\q.2.2.length+r.length<=2000)) (fun q j x r h hi=>by
  obtain⟨o,a2,b2⟩:=q
  obtain⟨h1,h2⟩:=drop_get h (dflt u8)
  simp only[List.length_cons]at hi
  have hj:j<4611686018427387904:=by omega
  have r1:roomy 8 (a2.length+1)=true:=roomy_le (by omega) (by omega)
  have r2:roomy 8 (b2.length+1)=true:=roomy_le (by omega) (by omega)
  refine⟨?_,fun s' e=>?_⟩
  ·rw[l11i_step,Lf.T.val_br,lt_nat h1,cond_true,Lf.T.val_ck,ix_nat h1,cond_true,Int.toNat_natCast,h2,add1 hj]
   unfold mSig1
   simp only[Lf.T.val_br,Lf.T.val_ck,Lf.T.val_ok,r1,r2,app_eq,cond_true]
   by_cases x1:x=58
   ·simp[x1,rsOf]
   ·by_cases x2:x=108
    ·cases o<;>simp[x2,rsOf]
    ·by_cases x3:x=118
     ·cases o<;>simp[x3,rsOf]
     ·cases o<;>simp[x1,x2,x3,rsOf]
  ·cases e
   unfold mSig1
   split
   ·simp only;omega
   ·split<;>simp<;>omega) (fun q j h hj hi=>by
  have:j=s.length:=by have:=List.drop_eq_nil_iff.1 h;omega
  subst this
  rw[l11i_step,Lf.T.val_br,lt_natF (Nat.le_refl _)]
  rfl) s 0 (false,[],[]) rfl (by omega) (by simp;omega)
 rw[foldX_inl]at this
 exact this
def g11i:denT t11i->T (Nat×List Pl):=fun x=>.ck (((decide (x.2.2.2.2.2.2.2.2.1.length=0)&&decide (x.2.2.2.2.2.2.2.2.2.1.length=0))&& !x.2.2.2.2.2.2.2.2.2.2.1)&&((decide (x.2.2.2.2.2.2.2.2.2.2.2.2.1=(x.2.2.2.2.2.2.2.2.2.2.2.1.length:Int))&&decide (x.2.2.2.2.2.2.2.2.2.2.2.2.2.1=0))&&decide (x.2.2.2.2.2.2.2.2.2.2.2.1.length<=1000)))
 (.ok (0,ofT [i64,i64,.bool,.sli i64,.sli i64,i64,i64,.bool,.sli i64,.sli i64] (x.1,x.2.1,x.2.2.1,x.2.2.2.1,x.2.2.2.2.1,x.2.2.2.2.2.1,x.2.2.2.2.2.2.1,x.2.2.2.2.2.2.2.1,(mSig x.2.2.2.2.2.2.2.2.2.2.2.1).1,(mSig x.2.2.2.2.2.2.2.2.2.2.2.1).2,())))
theorem g11i_ok(x:denT t11i)(k:Nat)(q:List Pl)(h:(g11i x).val=some (k,q)):Rch (l11i.step (fun _=>none) (inD [] 3) 3) (ofT t11i x) k q:=by
 obtain⟨f,l,p,a,b,f2,l2,p2,a2,b2,o,s,n,i,⟨⟩⟩:=x
 obtain⟨h1,h2⟩:=Lf.T.ck_some h
 cases h2
 simp only[Bool.and_eq_true,decide_eq_true_eq,Bool.not_eq_true']at h1
 obtain⟨⟨⟨b1,b2'⟩,b3⟩,⟨b4,b5⟩,b6⟩:=h1
 have b1:=List.eq_nil_of_length_eq_zero b1
 have b2':=List.eq_nil_of_length_eq_zero b2'
 subst b1;subst b2';subst b3;subst b4;subst b5
 exact l11i_rch f l p a b f2 l2 p2 s b6
abbrev t11:List Ty:=[i64,i64,i64,.bool,.sli i64,.sli i64,.bool,.sli tRow,i64,i64]
def l11:Lop:=⟨0,lpOf Tryd.x11.code 0,[0,2,3,16,17,18],Ps [.n .i64,pB,.bo,.im tRow,.n .i64,.n .i64],[⟨.brk,[2],Ps [pB]⟩,⟨.rt,[2,3],Ps [pB,.bo]⟩]⟩
def mBy(r:den tRow):List Int:=r.2.2.2.2.data.toList.map fun b=>Int.ofNat b.toNat
def mInf(r:den tRow):denT tInf:=(r.2.2.1,r.2.2.2.1,!(eqStr r.2.2.2.2 ⟨#[]⟩),(mSig (mBy r)).1,(mSig (mBy r)).2,())
def mOfG(op:Int)(_:Unit)(r:den tRow)(_:List (den tRow)):Unit ⊕ Option (denT tInf):=bif (bif decide (op<r.1)then true else decide (r.2.1<op))then .inl ()else .inr (some (mInf r))
def mOfX(op:Int)(rs:List (den tRow)):Option (denT tInf):=foldR (mOfG op) (fun _=>none) rs ()
def L11:Nat->Option CdR:=pcL [(2,mkL l11i t11i g11i)]
theorem l11_step(op f l:Int)(p:Bool)(a b:List Int)(ok:Bool)(rs:List (den tRow))(n i:Int):(l11.step L11 (inD [] 3) 3 (ofT t11 (op,f,l,p,a,b,ok,rs,n,i,()))).val=
 bif decide (i<n)then(bif ixOk i (Int.ofNat rs.length)then(bif (bif decide (op<(rs.getD i.toNat (dflt tRow)).1)then true else decide ((rs.getD i.toNat (dflt tRow)).2.1<op))then some (Rs.next (ofT t11 (op,f,l,p,a,b,ok,rs,n,addW .i64 i 1,())))
  else(bif ((true&&true)&&true)&&((decide (((mBy (rs.getD i.toNat (dflt tRow))).length:Int)=((mBy (rs.getD i.toNat (dflt tRow))).length:Int))&&true)&&decide ((mBy (rs.getD i.toNat (dflt tRow))).length<=1000))then some (Rs.out 1 (ofT [i64,i64,.bool,.sli i64,.sli i64,.bool] ((mInf (rs.getD i.toNat (dflt tRow))).1,(mInf (rs.getD i.toNat (dflt tRow))).2.1,(mInf (rs.getD i.toNat (dflt tRow))).2.2.1,(mInf (rs.getD i.toNat (dflt tRow))).2.2.2.1,(mInf (rs.getD i.toNat (dflt tRow))).2.2.2.2.1,true,())))else none))else none)else some (.out 0 (ofT tInf (f,l,p,a,b,()))):=by kernel_rfl
def mShort(rs:List (den tRow)):Bool:=allB (fun r=>decide ((mBy r).length<=1000)) rs
theorem mShort_tail{r:den tRow}{rs:List (den tRow)}(h:mShort (r::rs)=true):(mBy r).length<=1000/\mShort rs=true:=by
 have h:(bif decide ((mBy r).length<=1000)then mShort rs else false)=true:=h
 by_cases q:(mBy r).length<=1000
 ·rw[decide_eq_true q]at h;exact⟨q,h⟩
 ·rw[decide_eq_false q]at h;cases h
theorem l11_rch(op f l:Int)(p:Bool)(a b:List Int)(ok:Bool)(rs:List (den tRow))(hl:rs.length<=1000)(hs:mShort rs=true):
 Rch (l11.step L11 (inD [] 3) 3) (ofT t11 (op,f,l,p,a,b,ok,rs,(rs.length:Int),0,())) (match mOfX op rs with|none=>0|some _=>1) (match mOfX op rs with|none=>ofT tInf (f,l,p,a,b,())|some y=>ofT [i64,i64,.bool,.sli i64,.sli i64,.bool] (y.1,y.2.1,y.2.2.1,y.2.2.2.1,y.2.2.2.2.1,true,())):=by
 have:=rngR (f:=l11.step L11 (inD [] 3) 3) (l:=rs) (fun(_:Unit) j=>ofT t11 (op,f,l,p,a,b,ok,rs,(rs.length:Int),(j:Int),())) (mOfG op) (fun _=>(none:Option (denT tInf)))
  (fun o=>(match o with|none=>0|some _=>1,match o with|none=>ofT tInf (f,l,p,a,b,())|some y=>ofT [i64,i64,.bool,.sli i64,.sli i64,.bool] (y.1,y.2.1,y.2.2.1,y.2.2.2.1,y.2.2.2.2.1,true,()))) (fun _ r=>mShort r=true) (fun q j x r h hi=>by
  obtain⟨h1,h2⟩:=drop_get h (dflt tRow)
  have hj:j<4611686018427387904:=by omega
  obtain⟨k1,k2⟩:=mShort_tail hi
  refine⟨?_,fun _ _=>k2⟩
  rw[l11_step,lt_nat h1,cond_true,ix_nat h1,cond_true,Int.toNat_natCast,h2,add1 hj]
  unfold mOfG
  cases hc:(bif decide (op<x.1)then true else decide (x.2.1<op))with
  |true=>simp only[cond_true,rsR]
  |false=>simp only[cond_false,rsR,decide_eq_true k1,decide_true,Bool.and_self,cond_true]) (fun q j h hj hi=>by
  have:j=rs.length:=by have:=List.drop_eq_nil_iff.1 h;omega
  subst this
  rw[l11_step,lt_natF (Nat.le_refl _)]
  rfl) rs 0 () rfl (by omega) hs
 exact this
def g11:denT t11->T (Nat×List Pl):=fun x=>.ck ((decide (x.2.2.2.2.2.2.2.2.1=(x.2.2.2.2.2.2.2.1.length:Int))&&decide (x.2.2.2.2.2.2.2.2.2.1=0))&&(decide (x.2.2.2.2.2.2.2.1.length<=1000)&&mShort x.2.2.2.2.2.2.2.1))
 (.br (mOfX x.1 x.2.2.2.2.2.2.2.1).isNone (.ok (0,ofT tInf (x.2.1,x.2.2.1,x.2.2.2.1,x.2.2.2.2.1,x.2.2.2.2.2.1,()))) (let y:=(mOfX x.1 x.2.2.2.2.2.2.2.1).getD (dfltT tInf); .ok (1,ofT [i64,i64,.bool,.sli i64,.sli i64,.bool] (y.1,y.2.1,y.2.2.1,y.2.2.2.1,y.2.2.2.2.1,true,()))))
theorem g11_ok(x:denT t11)(k:Nat)(q:List Pl)(h:(g11 x).val=some (k,q)):Rch (l11.step L11 (inD [] 3) 3) (ofT t11 x) k q:=by
 obtain⟨op,f,l,p,a,b,ok,rs,n,i,⟨⟩⟩:=x
 obtain⟨h1,h2⟩:=Lf.T.ck_some h
 simp only[Bool.and_eq_true,decide_eq_true_eq]at h1
 obtain⟨⟨b1,b2⟩,b3,b4⟩:=h1
 subst b1;subst b2
 have:=l11_rch op f l p a b ok rs b3 b4
 rw[Lf.T.val_br]at h2
 cases hm:mOfX op rs with
 |none=>rw[hm]at h2 this;cases h2;exact this
 |some y=>rw[hm]at h2 this;cases h2;exact this
def mOfO(op:Int):Option (denT tInf):=mOfX op (bif decide (64768<=op)then mVec else mSca)
def mOf(op:Int):denT tInf:=(mOfO op).getD (0,0,false,[],[],())
def mIs(op:Int):Bool:=(mOfO op).isSome
def e11:List (Nat×Fsp):=[(22,s22),(23,s23)]
theorem e11_ok(W:World cal):EnOk cal e11:=.cons (s22_ok W) (.cons (s23_ok W) .nil)
def s11:Fsp:=mkF (Ps [.n .i64]) [] (Ps [.tu (Ps [.ag (Ps [.n .i64,.n .i64,.bo,.im i64,.im i64]),.bo])]) [i64] [i64,i64,.bool,.sli i64,.sli i64,.bool] fun x=>let y:=mOf x.1; .ok (y.1,y.2.1,y.2.2.1,y.2.2.2.1,y.2.2.2.2.1,mIs x.1,())
theorem short_ok:((mShort mSca&&Nat.ble mSca.length 1000)&&(mShort mVec&&Nat.ble mVec.length 1000))=true:=by kernel_rfl
abbrev o11:List Ty:=[i64,i64,.bool,.sli i64,.sli i64,.bool]
def r11(op:Int)(rs:List (den tRow)):Option (List Pl):=bif (decide ((rs.length:Int)=(rs.length:Int))&&decide ((0:Int)=0))&&(decide (rs.length<=1000)&&mShort rs)then
 (bif (mOfX op rs).isNone then some (ofT o11 (0,0,false,[],[],false,()))else some (ofT o11 (((mOfX op rs).getD (dfltT tInf)).1,((mOfX op rs).getD (dfltT tInf)).2.1,((mOfX op rs).getD (dfltT tInf)).2.2.1,((mOfX op rs).getD (dfltT tInf)).2.2.2.1,((mOfX op rs).getD (dfltT tInf)).2.2.2.2.1,true,())))else none
theorem r11_eq(op:Int)(rs:List (den tRow))(h1:rs.length<=1000)(h2:mShort rs=true):r11 op rs=some (ofT o11 (((mOfX op rs).getD (0,0,false,[],[],())).1,((mOfX op rs).getD (0,0,false,[],[],())).2.1,((mOfX op rs).getD (0,0,false,[],[],())).2.2.1,((mOfX op rs).getD (0,0,false,[],[],())).2.2.2.1,((mOfX op rs).getD (0,0,false,[],[],())).2.2.2.2.1,(mOfX op rs).isSome,())):=by
 unfold r11
 rw[decide_eq_true h1,h2]
 cases mOfX op rs with
 |none=>simp
 |some y=>simp
theorem s11_ok(W:World cal):s11.Ok 11 cal:=by
 have C:=W.in (e11_ok W) 3
 have C0:=W.in .nil 3
 have hi:SimD Rx.w (mkL l11i t11i g11i) (fun n d=>aCd (cal n d) n (.bl 2 (.lp l11i.body))):=mkL_ok C0 (okL_none _) (m:=3) g11i_ok
 have ho:SimD Rx.w (mkL l11 t11 g11) (fun n d=>aCd (cal n d) n (.bl 0 (.lp l11.body))):=mkL_ok C0 (L:=L11) (PcOk.okL (.cons (b:=l11i.body) (by kernel_rfl) hi .nil)) (m:=3) g11_ok
 refine mkF_ok C (W.st 11 _ rfl) rfl (L:=pcL [(0,mkL l11 t11 g11)]) (PcOk.okL (.cons (b:=l11.body) (by kernel_rfl) ho .nil)) (m:=3) rfl ?_
 rintro⟨op,⟨⟩⟩ q h
 cases h
 have e:(fnT (Ps [.n .i64]) [] (Ps [.tu (Ps [.ag (Ps [.n .i64,.n .i64,.bo,.im i64,.im i64]),.bo])]) (pcL [(0,mkL l11 t11 g11)]) Tryd.x11 3 (inD e11 3) (ofT [i64] (op,()))).val=
  bif decide (64768<=op)then r11 op mVec else r11 op mSca:=by kernel_rfl
 have hs:=short_ok
 rw[Bool.and_eq_true,Bool.and_eq_true,Bool.and_eq_true]at hs
 rw[e,r11_eq op mVec (Nat.le_of_ble_eq_true hs.2.2) hs.2.1,r11_eq op mSca (Nat.le_of_ble_eq_true hs.1.2) hs.1.1]
 unfold mOf mIs mOfO
 cases decide (64768<=op)<;>rfl
end Go.Proofs.Vd
