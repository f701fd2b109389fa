import Derived.Test.YtbplobpobnagkaaGreatDoorLfJ
import Derived.Test.YtbplobpobnagkaaGreatDoorXbS
import Derived.KernelRfl
noncomputable section
namespace Go.Proofs
open Go.Ab Go.Ab.Lf
set_option maxRecDepth 100000
def Tryz.xs:Tr dC:=(.node (.node (.node (.node (.node (.node (.node .nil (some Tryz.x63) .nil) (some Tryz.x31) (.node .nil (some Tryz.x95) .nil)) (some Tryz.x15) (.node (.node .nil (some Tryz.x79) .nil) (some Tryz.x47) (.node .nil (some Tryz.Yq) .nil))) (some Tryz.x7) (.node (.node (.node .nil (some Tryz.x71) .nil) (some Tryz.x39) (.node .nil (some Tryz.SO) .nil)) (some Tryz.x23) (.node (.node .nil (some Tryz.x87) .nil) (some Tryz.x55) .nil))) none (.node (.node (.node (.node .nil (some Tryz.x67) .nil) (some Tryz.x35) (.node .nil (some Tryz.x99) .nil)) (some Tryz.VM) (.node (.node .nil (some Tryz.x83) .nil) (some Tryz.x51) .nil)) (some Tryz.x11) (.node (.node (.node .nil (some Tryz.x75) .nil) (some Tryz.x43) (.node .nil (some Tryz.Yp) .nil)) (some Tryz.x27) (.node (.node .nil (some Tryz.x91) .nil) (some Tryz.x59) .nil)))) none (.node (.node (.node (.node (.node .nil (some Tryz.x65) .nil) (some Tryz.x33) (.node .nil (some Tryz.x97) .nil)) (some Tryz.x17) (.node (.node .nil (some Tryz.x81) .nil) (some Tryz.x49) .nil)) (some Tryz.x9) (.node (.node (.node .nil (some Tryz.x73) .nil) (some Tryz.x41) (.node .nil (some Tryz.Yo) .nil)) (some Tryz.x25) (.node (.node .nil (some Tryz.x89) .nil) (some Tryz.x57) .nil))) none (.node (.node (.node (.node .nil (some Tryz.x69) .nil) (some Tryz.x37) (.node .nil (some Tryz.SN) .nil)) (some Tryz.x21) (.node (.node .nil (some Tryz.x85) .nil) (some Tryz.x53) .nil)) none (.node (.node (.node .nil (some Tryz.x77) .nil) (some Tryz.x45) (.node .nil (some Tryz.SS) .nil)) none (.node (.node .nil (some Tryz.x93) .nil) (some Tryz.x61) .nil))))) none (.node (.node (.node (.node (.node (.node .nil (some Tryz.x64) .nil) (some Tryz.x32) (.node .nil (some Tryz.x96) .nil)) (some Tryz.x16) (.node (.node .nil (some Tryz.x80) .nil) (some Tryz.x48) (.node .nil (some Tryz.ac4) .nil))) (some Tryz.x8) (.node (.node (.node .nil (some Tryz.x72) .nil) (some Tryz.x40) (.node .nil (some Tryz.Yn) .nil)) (some Tryz.x24) (.node (.node .nil (some Tryz.x88) .nil) (some Tryz.x56) .nil))) (some Tryz.x4) (.node (.node (.node (.node .nil (some Tryz.x68) .nil) (some Tryz.x36) (.node .nil (some Tryz.SM) .nil)) (some Tryz.x20) (.node (.node .nil (some Tryz.x84) .nil) (some Tryz.x52) .nil)) (some Tryz.x12) (.node (.node (.node .nil (some Tryz.x76) .nil) (some Tryz.x44) (.node .nil (some Tryz.SQ) .nil)) (some Tryz.x28) (.node (.node .nil (some Tryz.x92) .nil) (some Tryz.x60) .nil)))) none (.node (.node (.node (.node (.node .nil (some Tryz.x66) .nil) (some Tryz.x34) (.node .nil (some Tryz.x98) .nil)) (some Tryz.x18) (.node (.node .nil (some Tryz.x82) .nil) (some Tryz.x50) .nil)) (some Tryz.x10) (.node (.node (.node .nil (some Tryz.x74) .nil) (some Tryz.x42) (.node .nil (some Tryz.SP) .nil)) (some Tryz.x26) (.node (.node .nil (some Tryz.x90) .nil) (some Tryz.x58) .nil))) (some Tryz.x6) (.node (.node (.node (.node .nil (some Tryz.x70) .nil) (some Tryz.x38) (.node .nil (some Tryz.Ym) .nil)) (some Tryz.x22) (.node (.node .nil (some Tryz.x86) .nil) (some Tryz.x54) .nil)) none (.node (.node (.node .nil (some Tryz.x78) .nil) (some Tryz.x46) (.node .nil (some Tryz.ac3) .nil)) (some Tryz.x30) (.node (.node .nil (some Tryz.x94) .nil) (some Tryz.x62) .nil))))))
end Go.Proofs

noncomputable section
namespace Go.Proofs
open Go.Ab Go.Ab.Lf
set_option maxRecDepth 100000
def bkD:FuncId->Option dC:=fun f=>bif (Nat.beq f 6||Nat.beq f 83)then none else Tryz.xs.get f
end Go.Proofs

noncomputable section
namespace Go.Proofs.Vd
open Go.Ab Go.Ab.Lf
set_option maxRecDepth 100000
abbrev i64:Ty:=.int .i64
abbrev u64:Ty:=.int .u64
abbrev u8:Ty:=.int .u8
abbrev tI:Ty:=.pair i64 (.pair i64 (.pair i64 (.pair u64 (.pair u64 (.ae i64)))))
abbrev Ps(l:List jT):jT:=l.foldr .cons .nil
abbrev gV(g:Nat):jT:=.pt g (Ps [.ow u8,.bo])
def dG(l:List (Nat×cQ))(m:Nat):eL:=inl bkD (Yj l) m 12
structure World(ao:aA):Prop where
 st: ∀ f b,bkD f=some b->mJ ao f b
theorem World.in{ao:aA}(W:World ao){l:List (Nat×cQ)}(h:dc ao l)(m:Nat):oy (dG l m) ao:=Nc W.st h.ok 12
theorem bO{b n:Nat}(hb:b<=64)(h:n<=1099511627776):roomy b n=true:=by
 rw[mm]
 refine⟨?_,by omega⟩
 calc n*b<=1099511627776*64:=Nat.mul_le_mul h hb
  _<=70368744177664:=by decide
def SU:cQ:=iw (Ps [gV 0,.bo]) [2] (Ps [.tu .nil,gV 2]) [.ae u8,.bool,.bool] [.ae u8,.bool] fun x=>.ok (x.1,x.2.1|| !x.2.2.1,())
def s31:cQ:=iw (Ps [gV 0,.im u8]) [2] (Ps [.tu .nil,gV 2]) [.ae u8,.bool,.ae u8] [.ae u8,.bool] fun x=>.ck (decide (x.1.length+x.2.2.1.length<=1099511627776)) (.ok (x.1++x.2.2.1,x.2.1,()))
theorem qU{ao:aA}(W:World ao):SU.Ok 43 ao:=by
 refine dD (W.in .nil 3) (W.st 43 _ rfl) rfl (aE _) (m:=3) rfl ?_
 rintro⟨b,x,y,⟨⟩⟩ q h
 cases h
 cases x<;>kernel_rfl
theorem FZ{ao:aA}(W:World ao):s31.Ok 46 ao:=by
 refine dD (W.in .nil 3) (W.st 46 _ rfl) rfl (aE _) (m:=3) rfl ?_
 rintro⟨b,x,y,⟨⟩⟩ q h
 obtain⟨h1,h2⟩:=Lf.T.aX h
 cases h2
 have e:(ja (Ps [gV 0,.im u8]) [2] (Ps [.tu .nil,gV 2]) (fun _=>none) Tryz.x46 3 (dG [] 3) (aB [.ae u8,.bool,.ae u8] (b,x,y,()))).val=bif roomy 1 (b.length+y.length)then some (aB [.ae u8,.bool] (app b y,x,()))else none:=by kernel_rfl
 rw[e,bO (by omega) (by simpa using h1),bp]
 rfl
def nK:Nat->Int->List Int
 |0,_=>[]
 |k+1,n=>if 128<=n then Mc .u8 (bf .u8 n) 128::nK k (rO .u64 n 7)else []
def uy:Nat->Int->Int
 |0,n=>n
 |k+1,n=>if 128<=n then uy k (rO .u64 n 7)else n
def jr(n:Int):List Int:=nK 9 n++[bf .u8 (uy 9 n)]
theorem yB: ∀ (k:Nat) (n:Int),(nK k n).length<=k
 |0,_=>Nat.le_refl _
 |k+1,n=>by
  unfold nK
  split
  ·have:=yB k (rO .u64 n 7);simp;omega
  ·simp
theorem j8(n:Int):(jr n).length<=10:=by have:=yB 9 n;unfold jr;simp;omega
abbrev t65:List Ty:=[.ae u8,u64,.ae u64,i64,i64]
def Yr:j4:=⟨2,fK Tryz.x82.code 2,[3,5,6,7,8],Ps [.ow u8,.n .u64,.im u64,.n .i64,.n .i64],[⟨.lN,[3,5,6,7,8],Ps [.ow u8,.n .u64,.im u64,.n .i64,.n .i64]⟩]⟩
theorem yC(o:List Int)(n:Int)(l:List Int)(a i:Int):Yr.step (fun _=>none) (dG [] 3) 3 (aB t65 (o,n,l,a,i,()))=
 .br (decide (128<=n)) (.ck (roomy 1 (o.length+1)) (.ok (.next (aB t65 (app o [Mc .u8 (bf .u8 n) 128],rO .u64 n 7,l,a,i,()))))) (.ok (.out 0 (aB t65 (o,n,l,a,i,())))):=by kernel_rfl
theorem aiK(n:Int):rO .u64 n 7=n.fdiv 128:=rfl
theorem HL: ∀ (k:Nat) (o:List Int) (n:Int) (l:List Int) (a i:Int),0<=n->n<128 ^ (k+1)->o.length+k<=1099511627776->
 gM (Yr.step (fun _=>none) (dG [] 3) 3) (aB t65 (o,n,l,a,i,())) 0 (aB t65 (o++nK k n,uy k n,l,a,i,()))
 |0,o,n,l,a,i,h0,h1,h2=>by
  refine .last ?_
  rw[yC,Lf.T.dZ]
  have:decide (128<=n)=false:=decide_eq_false (by omega)
  rw[this]
  simp[nK,uy,Lf.T.pH]
 |k+1,o,n,l,a,i,h0,h1,h2=>by
  by_cases hn:128<=n
  ·have hs:rO .u64 n 7=n / 128:=by rw[aiK,Int.fdiv_eq_ediv_of_nonneg _ (by omega)]
   have ih:=HL k (o++[Mc .u8 (bf .u8 n) 128]) (n / 128) l a i (by omega) (by
    rw[Int.pow_succ]at h1
    exact Int.ediv_lt_of_lt_mul (by omega) h1) (by simp;omega)
   refine .more (pl':=aB t65 (o++[Mc .u8 (bf .u8 n) 128],n / 128,l,a,i,())) ?_ ?_
   ·rw[yC,Lf.T.dZ,decide_eq_true hn,cond_true,Lf.T.j2,bO (by omega) (by omega),bp,hs]
    rfl
   ·have e1:nK (k+1) n=Mc .u8 (bf .u8 n) 128::nK k (n / 128):=by rw[<-hs];exact if_pos hn
    have e2:uy (k+1) n=uy k (n / 128):=by rw[<-hs];exact if_pos hn
    rw[e1,e2]
    simpa using ih
  ·refine .last ?_
   rw[yC,Lf.T.dZ,decide_eq_false hn]
   have e1:nK (k+1) n=[]:=if_neg hn
   have e2:uy (k+1) n=n:=if_neg hn
   rw[e1,e2,List.append_nil]
   rfl
def g65:aj t65->T (Nat×List Pl):=fun x=>.ck ((decide (0<=x.2.1)&&decide (x.2.1<18446744073709551616))&&decide (x.1.length+10<=1099511627776)) (.ok (0,aB t65 (x.1++nK 9 x.2.1,uy 9 x.2.1,x.2.2.1,x.2.2.2.1,x.2.2.2.2.1,())))
def s65:cQ:=iw (Ps [.im u64]) [] (Ps [.ow u8]) [.ae u64] [.ae u8] fun x=>match x.1 with
 | [n]=>.ck (decide (0<=n)&&decide (n<18446744073709551616)) (.ok (jr n,()))
 | _=>.bad
theorem Ng{ao:aA}(W:World ao):s65.Ok 82 ao:=by
 have hl:ep Rx.w (pK Yr t65 g65) (fun n d=>gy (ao n d) n (.bl 2 (.lp Yr.body))):=by
  refine iH (W.in .nil 3) (aE _) (m:=3) ?_
  rintro⟨o,n,l,a,i,⟨⟩⟩ k q h
  obtain⟨h1,h2⟩:=Lf.T.aX h
  cases h2
  simp only[Bool.and_eq_true,decide_eq_true_eq]at h1
  exact HL 9 o n l a i h1.1.1 (Int.lt_trans h1.1.2 (by decide)) (by omega)
 refine dD (W.in .nil 3) (W.st 82 _ rfl) rfl (L:=qg [(2,pK Yr t65 g65)]) (fx.jq (.cons (b:=Yr.body) (by kernel_rfl) hl .nil)) (m:=3) rfl ?_
 rintro⟨l,⟨⟩⟩ q h
 change (match l with| [n]=>(.ck (decide (0<=n)&&decide (n<18446744073709551616)) (.ok (jr n,())):T (aj [.ae u8]))| _=>.bad).val=some q at h
 split at h
 ·rename_i n
  obtain⟨h1,h2⟩:=Lf.T.aX h
  cases h2
  have e:(ja (Ps [.im u64]) [] (Ps [.ow u8]) (qg [(2,pK Yr t65 g65)]) Tryz.x82 3 (dG [] 3) (aB [.ae u64] ([n],()))).val=
   bif (decide (0<=n)&&decide (n<18446744073709551616))&&true then(bif roomy 1 ((nK 9 n).length+1)then some (aB [.ae u8] (app (nK 9 n) [bf .u8 (uy 9 n)],()))else none)else none:=by kernel_rfl
  rw[e,h1,bO (by omega) (by have:=yB 9 n;omega),bp]
  rfl
 ·cases h
end Go.Proofs.Vd

noncomputable section
namespace Go.Proofs.Vd
open Go.Ab Go.Ab.Lf
set_option maxRecDepth 100000
def uz(s:List Int×Bool)(n:Int):List Int×Bool:=(s.1++jr (bf .u64 n),s.2|| !(decide (0<=n)&&decide (n<4294967296)))
def cx(s:List Int×Bool)(l:List Int):List Int×Bool:=l.foldl uz s
abbrev t32:List Ty:=[.ae u8,.bool,.ae i64,i64,i64]
abbrev P32:jT:=Ps [gV 2,.im i64,.n .i64,.n .i64]
def VN:j4:=⟨0,fK Tryz.x47.code 0,[0,6,7,8],P32,[⟨.lN,[0,6,7,8],P32⟩]⟩
def e32:List (Nat×cQ):=[(43,SU),(82,s65)]
theorem Ys{ao:aA}(W:World ao):dc ao e32:=.cons (qU W) (.cons (Ng W) .nil)
theorem DD(b:List Int)(bad:Bool)(l:List Int)(n i:Int):VN.step (fun _=>none) (dG e32 3) 3 (aB t32 (b,bad,l,n,i,()))=
 .br (decide (i<n)) (.ck (bm i (Int.ofNat l.length)) (let x:=l.getD i.toNat (aq i64)
  .br (decide (0<=x)) (.ck (decide (0<=bf .u64 x)&&decide (bf .u64 x<18446744073709551616)) (.ck (roomy 1 (b.length+(jr (bf .u64 x)).length)) (.ok (.next (aB t32 (app b (jr (bf .u64 x)),bad|| !decide (x<4294967296),l,n,cr .i64 i 1,()))))))
   (.ck (decide (0<=bf .u64 x)&&decide (bf .u64 x<18446744073709551616)) (.ck (roomy 1 (b.length+(jr (bf .u64 x)).length)) (.ok (.next (aB t32 (app b (jr (bf .u64 x)),bad|| !false,l,n,cr .i64 i 1,()))))))))
  (.ok (.out 0 (aB t32 (b,bad,l,n,i,())))):=by kernel_rfl
theorem SW(l:List Int)(b:List Int)(bad:Bool)(hl:b.length+10*l.length<=1099511627776):
 gM (VN.step (fun _=>none) (dG e32 3) 3) (aB t32 (b,bad,l,(l.length:Int),0,())) 0 (aB t32 ((cx (b,bad) l).1,(cx (b,bad) l).2,l,(l.length:Int),(l.length:Int),())):=by
 have:=JD (f:=VN.step (fun _=>none) (dG e32 3) 3) (l:=l) (fun(s:List Int×Bool) j=>aB t32 (s.1,s.2,l,(l.length:Int),(j:Int),())) (fun s x=>.inl (uz s x)) (fun s=>(0,aB t32 (s.1,s.2,l,(l.length:Int),(l.length:Int),()))) (fun s r=>s.1.length+10*r.length<=1099511627776) (fun s j x r h hi=>by
  obtain⟨b,bad⟩:=s
  obtain⟨h1,h2⟩:=dm h (aq i64)
  have hp:=j8 (bf .u64 x)
  simp only[List.length_cons]at hi
  refine⟨?_,fun s' e=>by cases e;simp only[uz,List.length_append];omega⟩
  have hj:j<4611686018427387904:=by omega
  rw[DD,Lf.T.dZ,ed h1,cond_true,Lf.T.j2,cN h1,cond_true,Int.toNat_natCast,h2,kv hj]
  simp only[Lf.T.dZ,Lf.T.j2,(ng x).1,(ng x).2,decide_true,Bool.and_true,cond_true,bO (b:=1) (n:=b.length+(jr (bf .u64 x)).length) (by omega) (by omega),bp]
  unfold uz
  by_cases hx:0<=x
  ·simp[hx,zA,Lf.T.pH]
  ·simp[hx,zA,Lf.T.pH]) (fun s j h hj hi=>by
  have:j=l.length:=by have:=List.drop_eq_nil_iff.1 h;omega
  subst this
  rw[DD,Lf.T.dZ,di (Nat.le_refl _)]
  rfl) l 0 (b,bad) rfl (by omega) hl
 rw[fH]at this
 exact this
def g32:aj t32->T (Nat×List Pl):=fun x=>.ck (decide (x.2.2.2.1=(x.2.2.1.length:Int))&&(decide (x.2.2.2.2.1=0)&&decide (x.1.length+10*x.2.2.1.length<=1099511627776)))
 (.ok (0,aB t32 ((cx (x.1,x.2.1) x.2.2.1).1,(cx (x.1,x.2.1) x.2.2.1).2,x.2.2.1,(x.2.2.1.length:Int),(x.2.2.1.length:Int),())))
def s32:cQ:=iw (Ps [gV 0,.im i64]) [2] (Ps [.tu .nil,gV 2]) [.ae u8,.bool,.ae i64] [.ae u8,.bool] fun x=>.ck (decide (x.1.length+10*x.2.2.1.length<=1099511627776)) (.ok ((cx (x.1,x.2.1) x.2.2.1).1,(cx (x.1,x.2.1) x.2.2.1).2,()))
theorem yD{ao:aA}(W:World ao):s32.Ok 47 ao:=by
 have C:=W.in (Ys W) 3
 have hl:ep Rx.w (pK VN t32 g32) (fun n d=>gy (ao n d) n (.bl 0 (.lp VN.body))):=by
  refine iH C (aE _) (m:=3) ?_
  rintro⟨b,bad,l,n,i,⟨⟩⟩ k q h
  obtain⟨h1,h2⟩:=Lf.T.aX h
  cases h2
  simp only[Bool.and_eq_true,decide_eq_true_eq]at h1
  obtain⟨rfl,rfl,h3⟩:=h1
  exact SW l b bad h3
 refine dD C (W.st 47 _ rfl) rfl (L:=qg [(0,pK VN t32 g32)]) (fx.jq (.cons (b:=VN.body) (by kernel_rfl) hl .nil)) (m:=3) rfl ?_
 rintro⟨b,bad,l,⟨⟩⟩ q h
 obtain⟨h1,h2⟩:=Lf.T.aX h
 cases h2
 have e:(ja (Ps [gV 0,.im i64]) [2] (Ps [.tu .nil,gV 2]) (qg [(0,pK VN t32 g32)]) Tryz.x47 3 (dG e32 3) (aB [.ae u8,.bool,.ae i64] (b,bad,l,()))).val=
  bif (decide ((l.length:Int)=(l.length:Int))&&(decide ((0:Int)=0)&&decide (b.length+10*l.length<=1099511627776)))then some (aB [.ae u8,.bool] ((cx (b,bad) l).1,(cx (b,bad) l).2,()))else none:=by kernel_rfl
 have nW:decide (b.length+10*l.length<=1099511627776)=true:=h1
 rw[e,nW]
 simp
end Go.Proofs.Vd

noncomputable section
namespace Go.Proofs.Vd
open Go.Ab Go.Ab.Lf
set_option maxRecDepth 100000
def pO(s:List Int×Bool)(t:Int):List Int×Bool:=(s.1++[bf .u8 t],s.2|| !(decide (t=127)||(decide (t=126)||decide (t=123))))
def fq(s:List Int×Bool)(l:List Int):List Int×Bool:=l.foldl pO s
def VO:j4:=⟨0,fK Tryz.x48.code 0,[0,6,7,8],P32,[⟨.lN,[0,6,7,8],P32⟩]⟩
def e33:List (Nat×cQ):=[(43,SU),(46,s31)]
theorem Yt{ao:aA}(W:World ao):dc ao e33:=.cons (qU W) (.cons (FZ W) .nil)
theorem DE(b:List Int)(bad:Bool)(l:List Int)(n i:Int):VO.step (fun _=>none) (dG e33 3) 3 (aB t32 (b,bad,l,n,i,()))=
 .br (decide (i<n)) (.ck (bm i (Int.ofNat l.length)) (let x:=l.getD i.toNat (aq i64)
  let r:=fun c=>T.ck (decide (b.length+[bf .u8 x].length<=1099511627776)) (T.ok (Rs.next (aB t32 (b++[bf .u8 x],bad|| !c,l,n,cr .i64 i 1,()))))
  .br (decide (x=127)) (r true) (.br (decide (x=126)) (r true) (r (decide (x=123))))))
  (.ok (.out 0 (aB t32 (b,bad,l,n,i,())))):=by kernel_rfl
theorem SX(l:List Int)(b:List Int)(bad:Bool)(hl:b.length+l.length<=1099511627776):
 gM (VO.step (fun _=>none) (dG e33 3) 3) (aB t32 (b,bad,l,(l.length:Int),0,())) 0 (aB t32 ((fq (b,bad) l).1,(fq (b,bad) l).2,l,(l.length:Int),(l.length:Int),())):=by
 have:=JD (f:=VO.step (fun _=>none) (dG e33 3) 3) (l:=l) (fun(s:List Int×Bool) j=>aB t32 (s.1,s.2,l,(l.length:Int),(j:Int),())) (fun s x=>.inl (pO s x)) (fun s=>(0,aB t32 (s.1,s.2,l,(l.length:Int),(l.length:Int),()))) (fun s r=>s.1.length+r.length<=1099511627776) (fun s j x r h hi=>by
  obtain⟨b,bad⟩:=s
  obtain⟨h1,h2⟩:=dm h (aq i64)
  simp only[List.length_cons]at hi
  refine⟨?_,fun s' e=>by cases e;simp[pO];omega⟩
  have hj:j<4611686018427387904:=by omega
  rw[DE,Lf.T.dZ,ed h1,cond_true,Lf.T.j2,cN h1,cond_true,Int.toNat_natCast,h2,kv hj]
  have hb:b.length+1<=1099511627776:=by omega
  unfold pO
  by_cases h3:x=127
  ·simp[h3,zA,Lf.T.pH,Lf.T.dZ,Lf.T.j2,hb]
  ·by_cases h4:x=126
   ·simp[h4,zA,Lf.T.pH,Lf.T.dZ,Lf.T.j2,hb]
   ·simp[h3,h4,zA,Lf.T.pH,Lf.T.dZ,Lf.T.j2,hb]) (fun s j h hj hi=>by
  have:j=l.length:=by have:=List.drop_eq_nil_iff.1 h;omega
  subst this
  rw[DE,Lf.T.dZ,di (Nat.le_refl _)]
  rfl) l 0 (b,bad) rfl (by omega) hl
 rw[fH]at this
 exact this
def g33:aj t32->T (Nat×List Pl):=fun x=>.ck (decide (x.2.2.2.1=(x.2.2.1.length:Int))&&(decide (x.2.2.2.2.1=0)&&decide (x.1.length+x.2.2.1.length<=1099511627776)))
 (.ok (0,aB t32 ((fq (x.1,x.2.1) x.2.2.1).1,(fq (x.1,x.2.1) x.2.2.1).2,x.2.2.1,(x.2.2.1.length:Int),(x.2.2.1.length:Int),())))
def s33:cQ:=iw (Ps [gV 0,.im i64]) [2] (Ps [.tu .nil,gV 2]) [.ae u8,.bool,.ae i64] [.ae u8,.bool] fun x=>.ck (decide (x.1.length+x.2.2.1.length<=1099511627776)) (.ok ((fq (x.1,x.2.1) x.2.2.1).1,(fq (x.1,x.2.1) x.2.2.1).2,()))
theorem Nh{ao:aA}(W:World ao):s33.Ok 48 ao:=by
 have C:=W.in (Yt W) 3
 have hl:ep Rx.w (pK VO t32 g33) (fun n d=>gy (ao n d) n (.bl 0 (.lp VO.body))):=by
  refine iH C (aE _) (m:=3) ?_
  rintro⟨b,bad,l,n,i,⟨⟩⟩ k q h
  obtain⟨h1,h2⟩:=Lf.T.aX h
  cases h2
  simp only[Bool.and_eq_true,decide_eq_true_eq]at h1
  obtain⟨rfl,rfl,h3⟩:=h1
  exact SX l b bad h3
 refine dD C (W.st 48 _ rfl) rfl (L:=qg [(0,pK VO t32 g33)]) (fx.jq (.cons (b:=VO.body) (by kernel_rfl) hl .nil)) (m:=3) rfl ?_
 rintro⟨b,bad,l,⟨⟩⟩ q h
 obtain⟨h1,h2⟩:=Lf.T.aX h
 cases h2
 have e:(ja (Ps [gV 0,.im i64]) [2] (Ps [.tu .nil,gV 2]) (qg [(0,pK VO t32 g33)]) Tryz.x48 3 (dG e33 3) (aB [.ae u8,.bool,.ae i64] (b,bad,l,()))).val=
  bif (decide ((l.length:Int)=(l.length:Int))&&(decide ((0:Int)=0)&&decide (b.length+l.length<=1099511627776)))then some (aB [.ae u8,.bool] ((fq (b,bad) l).1,(fq (b,bad) l).2,()))else none:=by kernel_rfl
 have nW:decide (b.length+l.length<=1099511627776)=true:=h1
 rw[e,nW]
 simp
def wE:Nat->Int->List Int
 |0,_=>[]
 |k+1,n=>if n< -64∨63<n then Mc .u8 (bf .u8 n) 128::wE k (rO .i64 n 7)else []
def uA:Nat->Int->Int
 |0,n=>n
 |k+1,n=>if n< -64∨63<n then uA k (rO .i64 n 7)else n
def lL(n:Int):List Int:=wE 9 n++[bf .u8 (Xu .i64 (uA 9 n) 127)]
theorem yE: ∀ (k:Nat) (n:Int),(wE k n).length<=k
 |0,_=>Nat.le_refl _
 |k+1,n=>by
  unfold wE
  split
  ·have:=yE k (rO .i64 n 7);simp;omega
  ·simp
theorem qV(n:Int):(lL n).length<=10:=by have:=yE 9 n;unfold lL;simp;omega
abbrev t88:List Ty:=[.ae u8,i64,.ae i64,i64,i64]
abbrev P88:jT:=Ps [.ow u8,.n .i64,.im i64,.n .i64,.n .i64]
def Yu:j4:=⟨2,fK Tryz.SS.code 2,[3,5,6,7,8],P88,[⟨.lN,[3,5,6,7,8],P88⟩]⟩
theorem yF(o:List Int)(n:Int)(l:List Int)(a i:Int):Yu.step (fun _=>none) (dG [] 3) 3 (aB t88 (o,n,l,a,i,()))=
 .br (bif decide (n< -64)then true else decide (63<n)) (.ck (roomy 1 (o.length+1)) (.ok (.next (aB t88 (app o [Mc .u8 (bf .u8 n) 128],rO .i64 n 7,l,a,i,()))))) (.ok (.out 0 (aB t88 (o,n,l,a,i,())))):=by kernel_rfl
theorem ac7(n:Int):rO .i64 n 7=n.fdiv 128:=rfl
theorem HM: ∀ (k:Nat) (o:List Int) (n:Int) (l:List Int) (a i:Int),-64*128 ^ k<=n->n<64*128 ^ k->o.length+k<=1099511627776->
 gM (Yu.step (fun _=>none) (dG [] 3) 3) (aB t88 (o,n,l,a,i,())) 0 (aB t88 (o++wE k n,uA k n,l,a,i,()))
 |0,o,n,l,a,i,h0,h1,h2=>by
  refine .last ?_
  rw[yF,Lf.T.dZ]
  have e1:decide (n< -64)=false:=decide_eq_false (by omega)
  have e2:decide (63<n)=false:=decide_eq_false (by omega)
  rw[e1,e2]
  simp[wE,uA,Lf.T.pH]
 |k+1,o,n,l,a,i,h0,h1,h2=>by
  by_cases hn:n< -64∨63<n
  ·have hs:rO .i64 n 7=n / 128:=by rw[ac7,Int.fdiv_eq_ediv_of_nonneg _ (by omega)]
   rw[Int.pow_succ]at h0 h1
   have ih:=HM k (o++[Mc .u8 (bf .u8 n) 128]) (n / 128) l a i (by omega) (by omega) (by simp;omega)
   refine .more (pl':=aB t88 (o++[Mc .u8 (bf .u8 n) 128],n / 128,l,a,i,())) ?_ ?_
   ·have hc:(bif decide (n< -64)then true else decide (63<n))=true:=by
     rcases hn with h|h
     ·simp[h]
     ·by_cases q:n< -64<;>simp[q,h]
    rw[yF,Lf.T.dZ,hc,cond_true,Lf.T.j2,bO (by omega) (by omega),bp,hs]
    rfl
   ·have e1:wE (k+1) n=Mc .u8 (bf .u8 n) 128::wE k (n / 128):=by rw[<-hs];exact if_pos hn
    have e2:uA (k+1) n=uA k (n / 128):=by rw[<-hs];exact if_pos hn
    rw[e1,e2]
    simpa using ih
  ·refine .last ?_
   have e1:decide (n< -64)=false:=decide_eq_false (by omega)
   have e2:decide (63<n)=false:=decide_eq_false (by omega)
   rw[yF,Lf.T.dZ,e1,e2]
   have e1:wE (k+1) n=[]:=if_neg hn
   have e2:uA (k+1) n=n:=if_neg hn
   rw[e1,e2,List.append_nil]
   rfl
def g88:aj t88->T (Nat×List Pl):=fun x=>.ck ((decide (-9223372036854775808<=x.2.1)&&decide (x.2.1<9223372036854775808))&&decide (x.1.length+10<=1099511627776)) (.ok (0,aB t88 (x.1++wE 9 x.2.1,uA 9 x.2.1,x.2.2.1,x.2.2.2.1,x.2.2.2.2.1,())))
def s88:cQ:=iw (Ps [.im i64]) [] (Ps [.ow u8]) [.ae i64] [.ae u8] fun x=>match x.1 with
 | [n]=>.ck (decide (-9223372036854775808<=n)&&decide (n<9223372036854775808)) (.ok (lL n,()))
 | _=>.bad
theorem Ni{ao:aA}(W:World ao):s88.Ok 109 ao:=by
 have hl:ep Rx.w (pK Yu t88 g88) (fun n d=>gy (ao n d) n (.bl 2 (.lp Yu.body))):=by
  refine iH (W.in .nil 3) (aE _) (m:=3) ?_
  rintro⟨o,n,l,a,i,⟨⟩⟩ k q h
  obtain⟨h1,h2⟩:=Lf.T.aX h
  cases h2
  simp only[Bool.and_eq_true,decide_eq_true_eq]at h1
  exact HM 9 o n l a i (Int.le_trans (by decide) h1.1.1) (Int.lt_trans h1.1.2 (by decide)) (by omega)
 refine dD (W.in .nil 3) (W.st 109 _ rfl) rfl (L:=qg [(2,pK Yu t88 g88)]) (fx.jq (.cons (b:=Yu.body) (by kernel_rfl) hl .nil)) (m:=3) rfl ?_
 rintro⟨l,⟨⟩⟩ q h
 change (match l with| [n]=>(.ck (decide (-9223372036854775808<=n)&&decide (n<9223372036854775808)) (.ok (lL n,())):T (aj [.ae u8]))| _=>.bad).val=some q at h
 split at h
 ·rename_i n
  obtain⟨h1,h2⟩:=Lf.T.aX h
  cases h2
  have e:(ja (Ps [.im i64]) [] (Ps [.ow u8]) (qg [(2,pK Yu t88 g88)]) Tryz.SS 3 (dG [] 3) (aB [.ae i64] ([n],()))).val=
   bif (decide (-9223372036854775808<=n)&&decide (n<9223372036854775808))&&true then(bif roomy 1 ((wE 9 n).length+1)then some (aB [.ae u8] (app (wE 9 n) [bf .u8 (Xu .i64 (uA 9 n) 127)],()))else none)else none:=by kernel_rfl
  rw[e,h1,bO (by omega) (by have:=yE 9 n;omega),bp]
  rfl
 ·cases h
end Go.Proofs.Vd

noncomputable section
namespace Go.Proofs.Vd
open Go.Ab Go.Ab.Lf
set_option maxRecDepth 100000
def yG(op:List Int)(x:den tI)(r:List (den tI)):List Int ⊕ Option Bool:=
 if x.1=2∨x.1=3∨x.1=4 then(if op.length=128 then .inr (some false)else .inl (op++[x.1]))
 else if x.1=5 then(if op.length=0∨ ¬ op.getD (op.length - 1) 0=4 then .inr (some false)else .inl (op.set (op.length - 1) 5))
 else if x.1=11 then(if op.length=0 then .inr (some (decide (r.length=0)))else .inl (op.take (op.length - 1)))
 else .inl op
def DF(c:List (den tI)):Option Bool:=gq yG (fun _=>none) c []
def iT(c:List (den tI)):Bool:=(DF c).getD false
abbrev t79:List Ty:=[.ae tI,.ae i64,.ae tI,i64,i64]
def SY:j4:=⟨0,fK Tryz.x98.code 0,[0,3,7,8,9],Ps [.im tI,.ow i64,.im tI,.n .i64,.n .i64],[⟨.lN,[0],.cons (.im tI) .nil⟩,⟨.rt,[2],.cons .bo .nil⟩]⟩
theorem DG(c0 c:List (den tI))(op:List Int)(n i:Int):SY.step (fun _=>none) (dG [] 3) 3 (aB t79 (c0,op,c,n,i,()))=
 .br (decide (i<n)) (.ck (bm i (Int.ofNat c.length)) (let x:Int:=(c.getD i.toNat (aq tI)).1
  let nx:=fun(q:List Int)=>T.ok (Rs.next (aB t79 (c0,q,c,n,cr .i64 i 1,())))
  let fl:=T.ok (Rs.out 1 (aB [.bool] (false,())))
  let opn:=T.br (decide (Int.ofNat op.length=128)) fl (.ck (roomy 8 (op.length+1)) (nx (app op [x])))
  let at':=bN .i64 (Int.ofNat op.length) 1
  .br (decide (x=2)) opn (.br (decide (x=3)) opn (.br (decide (x=4)) opn
   (.br (decide (x=5)) (.ck (bif decide (Int.ofNat op.length=0)then true else bm at' (Int.ofNat op.length))
     (.br (bif decide (Int.ofNat op.length=0)then true else !decide (op.getD at'.toNat (aq i64)=4)) fl (.ck (bm at' (Int.ofNat op.length)) (nx (op.set at'.toNat 5)))))
    (.br (decide (x=11)) (.br (decide (Int.ofNat op.length=0)) (T.ok (Rs.out 1 (aB [.bool] (decide (i=bN .i64 (Int.ofNat c0.length) 1),())))) (.ck (dV 0 at' (Int.ofNat op.length)) (nx ((op.drop 0).take (at'.toNat - 0)))))
     (nx op)))))))
  (.ok (.out 0 (aB [.ae tI] (c0,())))):=by kernel_rfl
theorem SZ(c0 c:List (den tI))(h0:c0.length=c.length)(hc:c.length<=1099511627776):
 gM (SY.step (fun _=>none) (dG [] 3) 3) (aB t79 (c0,[],c,(c.length:Int),0,())) (match DF c with|none=>0|some _=>1) (match DF c with|none=>aB [.ae tI] (c0,())|some b=>aB [.bool] (b,())):=by
 have:=SL (f:=SY.step (fun _=>none) (dG [] 3) 3) (l:=c) (fun(op:List Int) j=>aB t79 (c0,op,c,(c.length:Int),(j:Int),())) yG (fun _=>(none:Option Bool)) (fun o=>(match o with|none=>0|some _=>1,match o with|none=>aB [.ae tI] (c0,())|some b=>aB [.bool] (b,())))
  (fun op r=>op.length+r.length<=1099511627776) (fun op j x r h hi=>by
  obtain⟨h1,h2⟩:=dm h (aq tI)
  simp only[List.length_cons]at hi
  have hj:j<4611686018427387904:=by omega
  have hr:c.length=j+1+r.length:=by have:=congrArg List.length h;simp at this;omega
  refine⟨?_,fun s' e=>?_⟩
  ·rw[DG,Lf.T.dZ,ed h1,cond_true,Lf.T.j2,cN h1,cond_true,Int.toNat_natCast,h2,kv hj]
   have hro:roomy 8 (op.length+1)=true:=bO (by omega) (by omega)
   have e0:(Int.ofNat op.length=128)↔op.length=128:=by show((op.length:Int)=128)↔_;omega
   have e1:(Int.ofNat op.length=0)↔op.length=0:=by show((op.length:Int)=0)↔_;omega
   have e2: ∀ h: ¬ op.length=0,bN .i64 (Int.ofNat op.length) 1=((op.length - 1:Nat):Int):=fun h=>BB (by omega) (by omega)
   have e3:bN .i64 (Int.ofNat c0.length) 1=((c.length - 1:Nat):Int):=by rw[h0];exact BB (by omega) (by omega)
   have e4:((j:Int)=((c.length - 1:Nat):Int))↔r.length=0:=by omega
   have e5: ∀ h: ¬ op.length=0,bm ((op.length - 1:Nat):Int) (Int.ofNat op.length)=true:=fun h=>cN (by omega)
   have e6: ∀ h: ¬ op.length=0,dV 0 ((op.length - 1:Nat):Int) (Int.ofNat op.length)=true:=fun h=>by rw[Ar];exact⟨by omega,by omega,by show _<=(op.length:Int);omega⟩
   unfold yG
   simp only[Lf.T.dZ,Lf.T.j2,Lf.T.pH,hro,e0,e3,e4,bp,cond_true]
   by_cases x2:x.1=2
   ·by_cases q:op.length=128<;>simp[x2,q,Kq]
   ·by_cases x3:x.1=3
    ·by_cases q:op.length=128<;>simp[x3,q,Kq]
    ·by_cases x4:x.1=4
     ·by_cases q:op.length=128<;>simp[x4,q,Kq]
     ·by_cases x5:x.1=5
      ·by_cases q:op.length=0
       ·simp[x5,q,e1,Kq]
       ·have q1:decide (Int.ofNat op.length=0)=false:=decide_eq_false (by rw[e1];exact q)
        by_cases q2:op.getD (op.length - 1) 0=4
        ·simp only[x5,q1,e2 q,e5 q,Int.toNat_natCast,show op.getD (op.length - 1) (aq i64)=4 from q2]
         have q4:=q2
         rw[List.getD_eq_getElem?_getD]at q4
         simp[q,q4,Kq]
        ·have q3: ¬ op.getD (op.length - 1) (aq i64)=4:=q2
         simp only[x5,q1,e2 q,e5 q,Int.toNat_natCast,decide_eq_false q3]
         have q4:=q2
         rw[List.getD_eq_getElem?_getD]at q4
         simp[q,q4,Kq]
      ·by_cases x11:x.1=11
       ·by_cases q:op.length=0
        ·simp[x11,q,e1,Kq]
        ·have q1:decide (Int.ofNat op.length=0)=false:=decide_eq_false (by rw[e1];exact q)
         simp only[x11,q1,e2 q,e6 q,Int.toNat_natCast]
         simp[q,Kq]
       ·simp[x2,x3,x4,x5,x11,Kq]
  ·unfold yG at e
   repeat' split at e
   all_goals first|(cases e;done)|(cases e;simp;omega)|(cases e;omega)) (fun s j h hj hi=>by
  have:j=c.length:=by have:=List.drop_eq_nil_iff.1 h;omega
  subst this
  rw[DG,Lf.T.dZ,di (Nat.le_refl _)]
  rfl) c 0 [] rfl (by omega) (by simpa using hc)
 exact this
def g79:aj t79->T (Nat×List Pl):=fun x=>.ck ((decide (x.2.1.length=0)&&decide (x.2.2.2.1=(x.2.2.1.length:Int)))&&(decide (x.2.2.2.2.1=0)&&(decide (x.1.length=x.2.2.1.length)&&decide (x.2.2.1.length<=1099511627776))))
 (.br (DF x.2.2.1).isNone (.ok (0,aB [.ae tI] (x.1,()))) (.ok (1,aB [.bool] (iT x.2.2.1,()))))
theorem Yv(x:aj t79)(k:Nat)(q:List Pl)(h:(g79 x).val=some (k,q)):gM (SY.step (fun _=>none) (dG [] 3) 3) (aB t79 x) k q:=by
 obtain⟨c,op,c2,n,i,⟨⟩⟩:=x
 obtain⟨h1,h2⟩:=Lf.T.aX h
 simp only[Bool.and_eq_true,decide_eq_true_eq]at h1
 obtain⟨⟨a1,a2⟩,a3,a5,a4⟩:=h1
 have a1:=List.eq_nil_of_length_eq_zero a1
 subst a1;subst a2;subst a3
 have:=SZ c c2 a5 a4
 rw[Lf.T.dZ]at h2
 unfold iT at h2
 cases hm:DF c2 with
 |none=>rw[hm]at h2 this;cases h2;exact this
 |some b=>rw[hm]at h2 this;cases h2;exact this
def s79:cQ:=iw (Ps [.im tI]) [] (Ps [.bo]) [.ae tI] [.bool] fun x=>.ck (decide (x.1.length<=1099511627776)) (.ok (iT x.1,()))
theorem Yw{ao:aA}(W:World ao):s79.Ok 98 ao:=by
 have C:=W.in .nil 3
 have hl:ep Rx.w (pK SY t79 g79) (fun n d=>gy (ao n d) n (.bl 0 (.lp SY.body))):=iH C (aE _) (m:=3) Yv
 refine dD C (W.st 98 _ rfl) rfl (L:=qg [(0,pK SY t79 g79)]) (fx.jq (.cons (b:=SY.body) (by kernel_rfl) hl .nil)) (m:=3) rfl ?_
 rintro⟨c,⟨⟩⟩ q h
 obtain⟨h1,h2⟩:=Lf.T.aX h
 cases h2
 have e:(ja (Ps [.im tI]) [] (Ps [.bo]) (qg [(0,pK SY t79 g79)]) Tryz.x98 3 (dG [] 3) (aB [.ae tI] (c,()))).val=
  bif ((decide (([]:List Int).length=0)&&decide ((c.length:Int)=(c.length:Int)))&&(decide ((0:Int)=0)&&(decide (c.length=c.length)&&decide (c.length<=1099511627776))))then
   (bif (DF c).isNone then some (aB [.bool] (false,()))else some (aB [.bool] (iT c,())))else none:=by kernel_rfl
 have nW:decide (c.length<=1099511627776)=true:=h1
 rw[e,nW]
 unfold iT
 cases DF c<;>simp
end Go.Proofs.Vd

noncomputable section
namespace Go.Proofs.Vd
open Go.Ab Go.Ab.Lf
set_option maxRecDepth 100000
abbrev gu:Ty:=.pair i64 (.pair i64 (.pair i64 (.pair i64 .str)))
abbrev lz:List Ty:=[i64,i64,.bool,.ae i64,.ae i64]
def F3:List (den gu):=(e7 [.ae gu] (ja .nil [] (Ps [.im gu]) (fun _=>none) Tryz.SM 3 (dG [] 3) [])).1
def F4:List (den gu):=(e7 [.ae gu] (ja .nil [] (Ps [.im gu]) (fun _=>none) Tryz.SN 3 (dG [] 3) [])).1
def s22:cQ:=iw .nil [] (Ps [.im gu]) [] [.ae gu] fun _=>.ok (F3,())
def s23:cQ:=iw .nil [] (Ps [.im gu]) [] [.ae gu] fun _=>.ok (F4,())
theorem Yx{ao:aA}(W:World ao):s22.Ok 100 ao:=by
 refine dD (W.in .nil 3) (W.st 100 _ rfl) rfl (aE _) (m:=3) rfl ?_
 rintro⟨⟩ q h
 cases h
 exact qP (to:=[.ae gu]) (x:=ja .nil [] (Ps [.im gu]) (fun _=>none) Tryz.SM 3 (dG [] 3) []) (by kernel_rfl)
theorem Yy{ao:aA}(W:World ao):s23.Ok 101 ao:=by
 refine dD (W.in .nil 3) (W.st 101 _ rfl) rfl (aE _) (m:=3) rfl ?_
 rintro⟨⟩ q h
 cases h
 exact qP (to:=[.ae gu]) (x:=ja .nil [] (Ps [.im gu]) (fun _=>none) Tryz.SN 3 (dG [] 3) []) (by kernel_rfl)
abbrev pB:jT:=.pt 0 (Ps [.n .i64,.n .i64,.bo,.im i64,.im i64])
abbrev pC:jT:=.pt 0 (Ps [.n .i64,.n .i64,.bo,.ow i64,.ow i64])
abbrev yH:List Ty:=[i64,i64,.bool,.ae i64,.ae i64,i64,i64,.bool,.ae i64,.ae i64,.bool,.ae u8,i64,i64]
def DH:j4:=⟨2,fK Tryz.x88.code 2,[2,7,8,42,43,44],Ps [pB,pC,.bo,.im u8,.n .i64,.n .i64],[⟨.lN,[2,7],Ps [pB,pC]⟩]⟩
def HN(s:Bool×List Int×List Int)(c:Int):Bool×List Int×List Int:=
 if c=58 then(true,s.2)else(if s.1 then(s.1,s.2.1,s.2.2++[if c=108 then 126 else if c=118 then 123 else 127])else(s.1,s.2.1++[if c=108 then 126 else if c=118 then 123 else 127],s.2.2))
def zF(s:List Int):List Int×List Int:=(s.foldl HN (false,[],[])).2
theorem Aw(f l:Int)(p:Bool)(a b:List Int)(f2 l2:Int)(p2:Bool)(a2 b2:List Int)(o:Bool)(s:List Int)(n i:Int):DH.step (fun _=>none) (dG [] 3) 3 (aB yH (f,l,p,a,b,f2,l2,p2,a2,b2,o,s,n,i,()))=
 .br (decide (i<n)) (.ck (bm i (Int.ofNat s.length)) (let x:=s.getD i.toNat (aq u8)
  let nx:=fun(t:Int)=>T.br o (.ck (roomy 8 (b2.length+1)) (.ok (Rs.next (aB yH (f,l,p,a,b,f2,l2,p2,a2,app b2 [t],o,s,n,cr .i64 i 1,())))))
   (.ck (roomy 8 (a2.length+1)) (.ok (Rs.next (aB yH (f,l,p,a,b,f2,l2,p2,app a2 [t],b2,o,s,n,cr .i64 i 1,())))))
  .br (decide (x=58)) (.ok (Rs.next (aB yH (f,l,p,a,b,f2,l2,p2,a2,b2,true,s,n,cr .i64 i 1,())))) (.br (decide (x=108)) (nx 126) (.br (decide (x=118)) (nx 123) (nx 127)))))
  (.ok (.out 0 (aB [i64,i64,.bool,.ae i64,.ae i64,i64,i64,.bool,.ae i64,.ae i64] (f,l,p,a,b,f2,l2,p2,a2,b2,())))):=by kernel_rfl
theorem Nj(f l:Int)(p:Bool)(a b:List Int)(f2 l2:Int)(p2:Bool)(s:List Int)(hs:s.length<=1000):
 gM (DH.step (fun _=>none) (dG [] 3) 3) (aB yH (f,l,p,a,b,f2,l2,p2,[],[],false,s,(s.length:Int),0,())) 0 (aB [i64,i64,.bool,.ae i64,.ae i64,i64,i64,.bool,.ae i64,.ae i64] (f,l,p,a,b,f2,l2,p2,(zF s).1,(zF s).2,())):=by
 have:=JD (f:=DH.step (fun _=>none) (dG [] 3) 3) (l:=s) (fun(q:Bool×List Int×List Int) j=>aB yH (f,l,p,a,b,f2,l2,p2,q.2.1,q.2.2,q.1,s,(s.length:Int),(j:Int),())) (fun q x=>.inl (HN q x)) (fun q=>(0,aB [i64,i64,.bool,.ae i64,.ae i64,i64,i64,.bool,.ae i64,.ae i64] (f,l,p,a,b,f2,l2,p2,q.2.1,q.2.2,())))
  (fun q r=>(q.2.1.length+r.length<=2000/\q.2.2.length+r.length<=2000)) (fun q j x r h hi=>by
  obtain⟨o,a2,b2⟩:=q
  obtain⟨h1,h2⟩:=dm h (aq u8)
  simp only[List.length_cons]at hi
  have hj:j<4611686018427387904:=by omega
  have r1:roomy 8 (a2.length+1)=true:=bO (by omega) (by omega)
  have r2:roomy 8 (b2.length+1)=true:=bO (by omega) (by omega)
  refine⟨?_,fun s' e=>?_⟩
  ·rw[Aw,Lf.T.dZ,ed h1,cond_true,Lf.T.j2,cN h1,cond_true,Int.toNat_natCast,h2,kv hj]
   unfold HN
   simp only[Lf.T.dZ,Lf.T.j2,Lf.T.pH,r1,r2,bp,cond_true]
   by_cases x1:x=58
   ·simp[x1,zA]
   ·by_cases x2:x=108
    ·cases o<;>simp[x2,zA]
    ·by_cases x3:x=118
     ·cases o<;>simp[x3,zA]
     ·cases o<;>simp[x1,x2,x3,zA]
  ·cases e
   unfold HN
   split
   ·simp only;omega
   ·split<;>simp<;>omega) (fun q j h hj hi=>by
  have:j=s.length:=by have:=List.drop_eq_nil_iff.1 h;omega
  subst this
  rw[Aw,Lf.T.dZ,di (Nat.le_refl _)]
  rfl) s 0 (false,[],[]) rfl (by omega) (by simp;omega)
 rw[fH]at this
 exact this
def Yz:aj yH->T (Nat×List Pl):=fun x=>.ck (((decide (x.2.2.2.2.2.2.2.2.1.length=0)&&decide (x.2.2.2.2.2.2.2.2.2.1.length=0))&& !x.2.2.2.2.2.2.2.2.2.2.1)&&((decide (x.2.2.2.2.2.2.2.2.2.2.2.2.1=(x.2.2.2.2.2.2.2.2.2.2.2.1.length:Int))&&decide (x.2.2.2.2.2.2.2.2.2.2.2.2.2.1=0))&&decide (x.2.2.2.2.2.2.2.2.2.2.2.1.length<=1000)))
 (.ok (0,aB [i64,i64,.bool,.ae i64,.ae i64,i64,i64,.bool,.ae i64,.ae i64] (x.1,x.2.1,x.2.2.1,x.2.2.2.1,x.2.2.2.2.1,x.2.2.2.2.2.1,x.2.2.2.2.2.2.1,x.2.2.2.2.2.2.2.1,(zF x.2.2.2.2.2.2.2.2.2.2.2.1).1,(zF x.2.2.2.2.2.2.2.2.2.2.2.1).2,())))
theorem S4(x:aj yH)(k:Nat)(q:List Pl)(h:(Yz x).val=some (k,q)):gM (DH.step (fun _=>none) (dG [] 3) 3) (aB yH x) k q:=by
 obtain⟨f,l,p,a,b,f2,l2,p2,a2,b2,o,s,n,i,⟨⟩⟩:=x
 obtain⟨h1,h2⟩:=Lf.T.aX h
 cases h2
 simp only[Bool.and_eq_true,decide_eq_true_eq,Bool.not_eq_true']at h1
 obtain⟨⟨⟨b1,Ks⟩,b3⟩,⟨b4,b5⟩,b6⟩:=h1
 have b1:=List.eq_nil_of_length_eq_zero b1
 have Ks:=List.eq_nil_of_length_eq_zero Ks
 subst b1;subst Ks;subst b3;subst b4;subst b5
 exact Nj f l p a b f2 l2 p2 s b6
abbrev t11:List Ty:=[i64,i64,i64,.bool,.ae i64,.ae i64,.bool,.ae gu,i64,i64]
def Kt:j4:=⟨0,fK Tryz.x88.code 0,[0,2,3,16,17,18],Ps [.n .i64,pB,.bo,.im gu,.n .i64,.n .i64],[⟨.lN,[2],Ps [pB]⟩,⟨.rt,[2,3],Ps [pB,.bo]⟩]⟩
def JE(r:den gu):List Int:=r.2.2.2.2.data.toList.map fun b=>Int.ofNat b.toNat
def DI(r:den gu):aj lz:=(r.2.2.1,r.2.2.2.1,!(eqStr r.2.2.2.2 ⟨#[]⟩),(zF (JE r)).1,(zF (JE r)).2,())
def zG(op:Int)(_:Unit)(r:den gu)(_:List (den gu)):Unit ⊕ Option (aj lz):=bif (bif decide (op<r.1)then true else decide (r.2.1<op))then .inl ()else .inr (some (DI r))
def nS(op:Int)(rs:List (den gu)):Option (aj lz):=gq (zG op) (fun _=>none) rs ()
def L11:Nat->Option fD:=qg [(2,pK DH yH Yz)]
theorem DJ(op f l:Int)(p:Bool)(a b:List Int)(ok:Bool)(rs:List (den gu))(n i:Int):(Kt.step L11 (dG [] 3) 3 (aB t11 (op,f,l,p,a,b,ok,rs,n,i,()))).val=
 bif decide (i<n)then(bif bm i (Int.ofNat rs.length)then(bif (bif decide (op<(rs.getD i.toNat (aq gu)).1)then true else decide ((rs.getD i.toNat (aq gu)).2.1<op))then some (Rs.next (aB t11 (op,f,l,p,a,b,ok,rs,n,cr .i64 i 1,())))
  else(bif ((true&&true)&&true)&&((decide (((JE (rs.getD i.toNat (aq gu))).length:Int)=((JE (rs.getD i.toNat (aq gu))).length:Int))&&true)&&decide ((JE (rs.getD i.toNat (aq gu))).length<=1000))then some (Rs.out 1 (aB [i64,i64,.bool,.ae i64,.ae i64,.bool] ((DI (rs.getD i.toNat (aq gu))).1,(DI (rs.getD i.toNat (aq gu))).2.1,(DI (rs.getD i.toNat (aq gu))).2.2.1,(DI (rs.getD i.toNat (aq gu))).2.2.2.1,(DI (rs.getD i.toNat (aq gu))).2.2.2.2.1,true,())))else none))else none)else some (.out 0 (aB lz (f,l,p,a,b,()))):=by kernel_rfl
def nT(rs:List (den gu)):Bool:=cf (fun r=>decide ((JE r).length<=1000)) rs
theorem DK{r:den gu}{rs:List (den gu)}(h:nT (r::rs)=true):(JE r).length<=1000/\nT rs=true:=by
 have h:(bif decide ((JE r).length<=1000)then nT rs else false)=true:=h
 by_cases q:(JE r).length<=1000
 ·rw[decide_eq_true q]at h;exact⟨q,h⟩
 ·rw[decide_eq_false q]at h;cases h
theorem S5(op f l:Int)(p:Bool)(a b:List Int)(ok:Bool)(rs:List (den gu))(hl:rs.length<=1000)(hs:nT rs=true):
 gM (Kt.step L11 (dG [] 3) 3) (aB t11 (op,f,l,p,a,b,ok,rs,(rs.length:Int),0,())) (match nS op rs with|none=>0|some _=>1) (match nS op rs with|none=>aB lz (f,l,p,a,b,())|some y=>aB [i64,i64,.bool,.ae i64,.ae i64,.bool] (y.1,y.2.1,y.2.2.1,y.2.2.2.1,y.2.2.2.2.1,true,())):=by
 have:=SL (f:=Kt.step L11 (dG [] 3) 3) (l:=rs) (fun(_:Unit) j=>aB t11 (op,f,l,p,a,b,ok,rs,(rs.length:Int),(j:Int),())) (zG op) (fun _=>(none:Option (aj lz)))
  (fun o=>(match o with|none=>0|some _=>1,match o with|none=>aB lz (f,l,p,a,b,())|some y=>aB [i64,i64,.bool,.ae i64,.ae i64,.bool] (y.1,y.2.1,y.2.2.1,y.2.2.2.1,y.2.2.2.2.1,true,()))) (fun _ r=>nT r=true) (fun q j x r h hi=>by
  obtain⟨h1,h2⟩:=dm h (aq gu)
  have hj:j<4611686018427387904:=by omega
  obtain⟨k1,k2⟩:=DK hi
  refine⟨?_,fun _ _=>k2⟩
  rw[DJ,ed h1,cond_true,cN h1,cond_true,Int.toNat_natCast,h2,kv hj]
  unfold zG
  cases hc:(bif decide (op<x.1)then true else decide (x.2.1<op))with
  |true=>simp only[cond_true,Kq]
  |false=>simp only[cond_false,Kq,decide_eq_true k1,decide_true,Bool.and_self,cond_true]) (fun q j h hj hi=>by
  have:j=rs.length:=by have:=List.drop_eq_nil_iff.1 h;omega
  subst this
  rw[DJ,di (Nat.le_refl _)]
  rfl) rs 0 () rfl (by omega) hs
 exact this
def g11:aj t11->T (Nat×List Pl):=fun x=>.ck ((decide (x.2.2.2.2.2.2.2.2.1=(x.2.2.2.2.2.2.2.1.length:Int))&&decide (x.2.2.2.2.2.2.2.2.2.1=0))&&(decide (x.2.2.2.2.2.2.2.1.length<=1000)&&nT x.2.2.2.2.2.2.2.1))
 (.br (nS x.1 x.2.2.2.2.2.2.2.1).isNone (.ok (0,aB lz (x.2.1,x.2.2.1,x.2.2.2.1,x.2.2.2.2.1,x.2.2.2.2.2.1,()))) (let y:=(nS x.1 x.2.2.2.2.2.2.2.1).getD (r8 lz); .ok (1,aB [i64,i64,.bool,.ae i64,.ae i64,.bool] (y.1,y.2.1,y.2.2.1,y.2.2.2.1,y.2.2.2.2.1,true,()))))
theorem YA(x:aj t11)(k:Nat)(q:List Pl)(h:(g11 x).val=some (k,q)):gM (Kt.step L11 (dG [] 3) 3) (aB t11 x) k q:=by
 obtain⟨op,f,l,p,a,b,ok,rs,n,i,⟨⟩⟩:=x
 obtain⟨h1,h2⟩:=Lf.T.aX h
 simp only[Bool.and_eq_true,decide_eq_true_eq]at h1
 obtain⟨⟨b1,b2⟩,b3,b4⟩:=h1
 subst b1;subst b2
 have:=S5 op f l p a b ok rs b3 b4
 rw[Lf.T.dZ]at h2
 cases hm:nS op rs with
 |none=>rw[hm]at h2 this;cases h2;exact this
 |some y=>rw[hm]at h2 this;cases h2;exact this
def JF(op:Int):Option (aj lz):=nS op (bif decide (64768<=op)then F4 else F3)
def kB(op:Int):aj lz:=(JF op).getD (0,0,false,[],[],())
def Cm(op:Int):Bool:=(JF op).isSome
def e11:List (Nat×cQ):=[(100,s22),(101,s23)]
theorem YB{ao:aA}(W:World ao):dc ao e11:=.cons (Yx W) (.cons (Yy W) .nil)
def s11:cQ:=iw (Ps [.n .i64]) [] (Ps [.tu (Ps [.ag (Ps [.n .i64,.n .i64,.bo,.im i64,.im i64]),.bo])]) [i64] [i64,i64,.bool,.ae i64,.ae i64,.bool] fun x=>let y:=kB x.1; .ok (y.1,y.2.1,y.2.2.1,y.2.2.2.1,y.2.2.2.2.1,Cm x.1,())
theorem Nk:((nT F3&&Nat.ble F3.length 1000)&&(nT F4&&Nat.ble F4.length 1000))=true:=by kernel_rfl
abbrev ig:List Ty:=[i64,i64,.bool,.ae i64,.ae i64,.bool]
def r11(op:Int)(rs:List (den gu)):Option (List Pl):=bif (decide ((rs.length:Int)=(rs.length:Int))&&decide ((0:Int)=0))&&(decide (rs.length<=1000)&&nT rs)then
 (bif (nS op rs).isNone then some (aB ig (0,0,false,[],[],false,()))else some (aB ig (((nS op rs).getD (r8 lz)).1,((nS op rs).getD (r8 lz)).2.1,((nS op rs).getD (r8 lz)).2.2.1,((nS op rs).getD (r8 lz)).2.2.2.1,((nS op rs).getD (r8 lz)).2.2.2.2.1,true,())))else none
theorem Nl(op:Int)(rs:List (den gu))(h1:rs.length<=1000)(h2:nT rs=true):r11 op rs=some (aB ig (((nS op rs).getD (0,0,false,[],[],())).1,((nS op rs).getD (0,0,false,[],[],())).2.1,((nS op rs).getD (0,0,false,[],[],())).2.2.1,((nS op rs).getD (0,0,false,[],[],())).2.2.2.1,((nS op rs).getD (0,0,false,[],[],())).2.2.2.2.1,(nS op rs).isSome,())):=by
 unfold r11
 rw[decide_eq_true h1,h2]
 cases nS op rs with
 |none=>simp
 |some y=>simp
theorem Nn{ao:aA}(W:World ao):s11.Ok 88 ao:=by
 have C:=W.in (YB W) 3
 have C0:=W.in .nil 3
 have hi:ep Rx.w (pK DH yH Yz) (fun n d=>gy (ao n d) n (.bl 2 (.lp DH.body))):=iH C0 (aE _) (m:=3) S4
 have ho:ep Rx.w (pK Kt t11 g11) (fun n d=>gy (ao n d) n (.bl 0 (.lp Kt.body))):=iH C0 (L:=L11) (fx.jq (.cons (b:=DH.body) (by kernel_rfl) hi .nil)) (m:=3) YA
 refine dD C (W.st 88 _ rfl) rfl (L:=qg [(0,pK Kt t11 g11)]) (fx.jq (.cons (b:=Kt.body) (by kernel_rfl) ho .nil)) (m:=3) rfl ?_
 rintro⟨op,⟨⟩⟩ q h
 cases h
 have e:(ja (Ps [.n .i64]) [] (Ps [.tu (Ps [.ag (Ps [.n .i64,.n .i64,.bo,.im i64,.im i64]),.bo])]) (qg [(0,pK Kt t11 g11)]) Tryz.x88 3 (dG e11 3) (aB [i64] (op,()))).val=
  bif decide (64768<=op)then r11 op F4 else r11 op F3:=by kernel_rfl
 have hs:=Nk
 rw[Bool.and_eq_true,Bool.and_eq_true,Bool.and_eq_true]at hs
 rw[e,Nl op F4 (Nat.le_of_ble_eq_true hs.2.2) hs.2.1,Nl op F3 (Nat.le_of_ble_eq_true hs.1.2) hs.1.1]
 unfold kB Cm JF
 cases decide (64768<=op)<;>rfl
end Go.Proofs.Vd

noncomputable section
namespace Go.Ab.Lf
def S6(to:List Ty)(t:T (List Pl)):Bool:=
 T.rec (motive:=fun _=>Bool) false (fun l=>(toT to l).isSome) (fun _ _ _ a b=>a&&b) (fun _ _ _=>false) t
theorem xf{to:List Ty}: ∀ {t:T (List Pl)},S6 to t=true->jP to t=true
 | .bad,h=>by cases h
 | .ok l,h=>by
  have h:(toT to l).isSome=true:=h
  show(match toT to l with|some _=>true|none=>false)=true
  cases hq:toT to l with
  |none=>rw[hq]at h;cases h
  |some y=>rfl
 | .br c a b,h=>by
  have h:(S6 to a&&S6 to b)=true:=h
  obtain⟨h1,h2⟩:=Bool.and_eq_true_iff.1 h
  have q1:=xf h1
  have q2:=xf h2
  unfold jP at*
  rw[T.dZ]
  cases c
  ·exact q2
  ·exact q1
 | .ck c a,h=>by cases h
theorem VP{call:eL}{ao:aA}(C:oy call ao){f:FuncId}{b:dC}(hb:mJ ao f b)(qm:Nat.ble b.ntmps 512=true){L:Nat->Option fD}(hL:jq Rx.w ao L b.code){m:Nat}{P:jT}{ptr:List Nat}{Q:jT}{ti to:List Ty}{out:aj ti->aj to}
 (h0:cf (fun g=> !(Nat.beq g 0)) ptr=true)(h1: ∀ x,S6 to (ja P ptr Q L b m call (aB ti x))=true)(h2: ∀ x,out x=e7 to (ja P ptr Q L b m call (aB ti x))):(iw P ptr Q ti to fun x=>.ok (out x)).Ok f ao:=by
 refine dD C hb qm hL (m:=m) h0 fun x y h=>?_
 cases h
 rw[h2]
 exact qP (xf (h1 x))
end Go.Ab.Lf
namespace Go.Proofs.Vd
open Go.Ab Go.Ab.Lf
set_option maxRecDepth 100000
abbrev pI:jT:=.ag (Ps [.n .i64,.n .i64,.n .i64,.n .u64,.n .u64,.im i64])
abbrev t87:List Ty:=[i64,i64,i64,u64,u64,.ae i64,i64]
def DL(x:aj t87):aj [.bool]:=e7 [.bool] (ja (Ps [pI,.n .i64]) [] (Ps [.bo]) (fun _=>none) Tryz.SQ 3 (dG [] 3) (aB t87 x))
def s87:cQ:=iw (Ps [pI,.n .i64]) [] (Ps [.bo]) t87 [.bool] fun x=>.ok (DL x)
theorem YC{ao:aA}(W:World ao):s87.Ok 108 ao:=by
 refine VP (W.in .nil 3) (W.st 108 _ rfl) rfl (aE _) (m:=3) rfl ?_ (fun _=>rfl)
 rintro⟨o,a,b,lo,hi,l,f,⟨⟩⟩
 kernel_rfl
def lA(n:Int):Bool:=bif decide (0<=n)then decide (n<4294967296)else false
def s89:cQ:=iw (Ps [.n .i64]) [] (Ps [.bo]) [i64] [.bool] fun x=>.ok (lA x.1,())
theorem YD{ao:aA}(W:World ao):s89.Ok 110 ao:=by
 refine dD (W.in .nil 3) (W.st 110 _ rfl) rfl (aE _) (m:=3) rfl ?_
 rintro⟨n,⟨⟩⟩ q h
 cases h
 kernel_rfl
abbrev tV:List Ty:=[u8,u8,u8,u8,u8,u8,u8,u8,u8,u8,u8,u8,u8,u8,u8,u8]
abbrev pV:jT:=.ag (Ps [.n .u8,.n .u8,.n .u8,.n .u8,.n .u8,.n .u8,.n .u8,.n .u8,.n .u8,.n .u8,.n .u8,.n .u8,.n .u8,.n .u8,.n .u8,.n .u8])
def VQ(x:aj [u64,u64]):aj tV:=e7 tV (ja (Ps [.ag (Ps [.n .u64,.n .u64])]) [] (Ps [pV]) (fun _=>none) Tryz.Ym 20 (dG [] 20) (aB [u64,u64] x))
def s81:cQ:=iw (Ps [.ag (Ps [.n .u64,.n .u64])]) [] (Ps [pV]) [u64,u64] tV fun x=>.ok (VQ x)
theorem Np{ao:aA}(W:World ao):s81.Ok 102 ao:=by
 refine VP (W.in .nil 20) (W.st 102 _ rfl) rfl (aE _) (m:=20) rfl ?_ (fun _=>rfl)
 rintro⟨lo,hi,⟨⟩⟩
 kernel_rfl
end Go.Proofs.Vd

noncomputable section
namespace Go.Proofs.Vd
open Go.Ab Go.Ab.Lf
set_option maxRecDepth 100000
def YE(lo hi:Int):List Int:=let y:=VQ (lo,hi,());[y.1,y.2.1,y.2.2.1,y.2.2.2.1,y.2.2.2.2.1,y.2.2.2.2.2.1,y.2.2.2.2.2.2.1,y.2.2.2.2.2.2.2.1,y.2.2.2.2.2.2.2.2.1,y.2.2.2.2.2.2.2.2.2.1,y.2.2.2.2.2.2.2.2.2.2.1,y.2.2.2.2.2.2.2.2.2.2.2.1,y.2.2.2.2.2.2.2.2.2.2.2.2.1,y.2.2.2.2.2.2.2.2.2.2.2.2.2.1,y.2.2.2.2.2.2.2.2.2.2.2.2.2.2.1,y.2.2.2.2.2.2.2.2.2.2.2.2.2.2.2.1]
def DM(a lo hi f:Int):List Int:=bif decide (f=9)then lL (bf .i64 (bf .i32 lo))else bif decide (f=10)then lL (bf .i64 lo)else bif decide (f=13)then [bf .u8 a]else bif decide (f=14)then [0]else YE lo hi
def Nq(a lo f:Int):Bool:=bif decide (f=9)then decide (lo<4294967296)else bif decide (f=10)then true else bif decide (f=13)then(bif decide (0<=a)then decide (a<256)else false)else true
theorem JG(a lo hi f:Int):(DM a lo hi f).length<=16:=by
 unfold DM
 have:=qV (bf .i64 (bf .i32 lo))
 have:=qV (bf .i64 lo)
 have h:(YE lo hi).length=16:=rfl
 cases decide (f=9)<;>cases decide (f=10)<;>cases decide (f=13)<;>cases decide (f=14)<;>simp only[cond_true,cond_false,List.length_cons,List.length_nil]<;>omega
abbrev t90:List Ty:=[.ae u8,i64,i64,i64,u64,u64,.ae i64,i64]
def e90:List (Nat×cQ):=[(102,s81),(109,s88)]
theorem YF{ao:aA}(W:World ao):dc ao e90:=.cons (Np W) (.cons (Ni W) .nil)
def s90:cQ:=iw (Ps [.ow u8,pI,.n .i64]) [] (Ps [.tu (Ps [.ow u8,.bo])]) t90 [.ae u8,.bool] fun x=>
 .ck (decide (x.1.length+16<=1099511627776)) (.ok (x.1++DM x.2.2.1 x.2.2.2.2.1 x.2.2.2.2.2.1 x.2.2.2.2.2.2.2.1,Nq x.2.2.1 x.2.2.2.2.1 x.2.2.2.2.2.2.2.1,()))
abbrev r2(b:List Int)(o:Bool):Option (List Pl):=some (aB [.ae u8,.bool] (b,o,()))
theorem YG(out:List Int)(o a b lo hi:Int)(l:List Int)(f:Int):(ja (Ps [.ow u8,pI,.n .i64]) [] (Ps [.tu (Ps [.ow u8,.bo])]) (fun _=>none) Tryz.Yq 3 (dG e90 3) (aB t90 (out,o,a,b,lo,hi,l,f,()))).val=
 bif decide (f=9)then(bif (decide (-9223372036854775808<=bf .i64 (bf .i32 lo))&&decide (bf .i64 (bf .i32 lo)<9223372036854775808))then bif decide (lo=lo)then bif roomy 1 (out.length+(lL (bf .i64 (bf .i32 lo))).length)then bif decide (lo=lo)then r2 (app out (lL (bf .i64 (bf .i32 lo)))) (decide (lo<4294967296))else none else none else none else none)
 else bif decide (f=10)then(bif (decide (-9223372036854775808<=bf .i64 lo)&&decide (bf .i64 lo<9223372036854775808))then bif roomy 1 (out.length+(lL (bf .i64 lo)).length)then r2 (app out (lL (bf .i64 lo))) true else none else none)
 else bif decide (f=13)then(bif roomy 1 (out.length+[bf .u8 a].length)then bif decide (a=a)then bif decide (0<=a)then r2 (app out [bf .u8 a]) (decide (a<256))else r2 (app out [bf .u8 a]) false else none else none)
 else bif decide (f=14)then(bif roomy 1 (out.length+[(0:Int)].length)then r2 (app out [0]) true else none)
 else(bif roomy 1 (out.length+(YE lo hi).length)then r2 (app out (YE lo hi)) true else none):=by kernel_rfl
theorem YH{ao:aA}(W:World ao):s90.Ok 111 ao:=by
 refine dD (W.in (YF W) 3) (W.st 111 _ rfl) rfl (aE _) (m:=3) rfl ?_
 rintro⟨out,o,a,b,lo,hi,l,f,⟨⟩⟩ q h
 obtain⟨h1,h2⟩:=Lf.T.aX h
 cases h2
 rw[YG]
 have h1:out.length+16<=1099511627776:=of_decide_eq_true h1
 have k1:=qV (bf .i64 (bf .i32 lo))
 have k2:=qV (bf .i64 lo)
 have k3:(YE lo hi).length=16:=rfl
 have c1:=HK (bf .i32 lo)
 have c2:=HK lo
 rw[bO (n:=out.length+(lL (bf .i64 (bf .i32 lo))).length) (by omega) (by omega),bO (n:=out.length+(lL (bf .i64 lo)).length) (by omega) (by omega),bO (n:=out.length+[bf .u8 a].length) (by omega) (by simp;omega),
  bO (n:=out.length+[(0:Int)].length) (by omega) (by simp;omega),bO (n:=out.length+(YE lo hi).length) (by omega) (by omega),decide_eq_true c1.1,decide_eq_true c1.2,decide_eq_true c2.1,decide_eq_true c2.2]
 unfold DM Nq
 simp only[bp,Bool.and_self,cond_true,decide_true]
 cases decide (f=9)<;>cases decide (f=10)<;>cases decide (f=13)<;>cases decide (f=14)<;>cases decide (0<=a)<;>rfl
end Go.Proofs.Vd

noncomputable section
namespace Go.Proofs.Vd
open Go.Ab Go.Ab.Lf
set_option maxRecDepth 100000
abbrev pBI:jT:=.pt 0 (Ps [.n .i64,.n .i64,.n .i64,.n .u64,.n .u64,.im i64])
abbrev zH:List Ty:=[i64,i64,i64,u64,u64,.ae i64,.bool,.ae u8,.ae u8,.ae i64,i64,i64]
abbrev S7:List Ty:=[i64,i64,i64,u64,u64,.ae i64,.bool,.ae u8,.ae u8]
def VS:j4:=⟨2,fK Tryz.x99.code 2,[1,5,6,7,101,102,103],Ps [pBI,.bo,.ow u8,.ow u8,.im i64,.n .i64,.n .i64],[⟨.lN,[1,5,6,7],Ps [pBI,.bo,.ow u8,.ow u8]⟩]⟩
def e80:List (Nat×cQ):=[(88,s11),(82,s65),(108,s87),(109,s88),(110,s89),(111,s90)]
def v7(s:List Int×Bool)(x:Int):List Int×Bool:=(s.1++jr (bf .u64 x),bif s.2 then lA x else false)
def qX(s:List Int×Bool)(l:List Int):List Int×Bool:=l.foldl v7 s
def g80:aj zH->T (Nat×List Pl):=fun x=>.ck (decide (x.2.2.2.2.2.2.2.2.2.2.1=(x.2.2.2.2.2.2.2.2.2.1.length:Int))&&(decide (x.2.2.2.2.2.2.2.2.2.2.2.1=0)&&decide (x.2.2.2.2.2.2.2.1.length+10*x.2.2.2.2.2.2.2.2.2.1.length<=1099511627776)))
 (.ok (0,aB S7 (x.1,x.2.1,x.2.2.1,x.2.2.2.1,x.2.2.2.2.1,x.2.2.2.2.2.1,(qX (x.2.2.2.2.2.2.2.1,x.2.2.2.2.2.2.1) x.2.2.2.2.2.2.2.2.2.1).2,(qX (x.2.2.2.2.2.2.2.1,x.2.2.2.2.2.2.1) x.2.2.2.2.2.2.2.2.2.1).1,x.2.2.2.2.2.2.2.2.1,())))
def L80:Nat->Option fD:=qg [(2,pK VS zH g80)]
theorem Nr{ao:aA}(W:World ao):dc ao e80:=.cons (Nn W) (.cons (Ng W) (.cons (YC W) (.cons (Ni W) (.cons (YD W) (.cons (YH W) .nil)))))
theorem Ns(l:List Int): ∀ s:List Int×Bool,(qX s l).1.length<=s.1.length+10*l.length:=by
 induction l with
 |nil=>intro s;simp[qX]
 |cons x l ih=>
  intro s
  have:=ih (v7 s x)
  have h:=j8 (bf .u64 x)
  have e:qX s (x::l)=qX (v7 s x) l:=rfl
  rw[e]
  have e2:(v7 s x).1.length=s.1.length+(jr (bf .u64 x)).length:=by simp[v7]
  simp only[List.length_cons]
  omega
theorem DN(o a b lo hi:Int)(l:List Int)(k:Bool)(out al s:List Int)(n i:Int):(VS.step (fun _=>none) (dG e80 3) 3 (aB zH (o,a,b,lo,hi,l,k,out,al,s,n,i,()))).val=
 bif decide (i<n)then(bif bm i (Int.ofNat s.length)then(bif (decide (0<=bf .u64 (s.getD i.toNat (aq i64)))&&decide (bf .u64 (s.getD i.toNat (aq i64))<18446744073709551616))then(bif roomy 1 (out.length+(jr (bf .u64 (s.getD i.toNat (aq i64)))).length)then
  (bif k then some (Rs.next (aB zH (o,a,b,lo,hi,l,lA (s.getD i.toNat (aq i64)),app out (jr (bf .u64 (s.getD i.toNat (aq i64)))),al,s,n,cr .i64 i 1,())))
  else some (Rs.next (aB zH (o,a,b,lo,hi,l,false,app out (jr (bf .u64 (s.getD i.toNat (aq i64)))),al,s,n,cr .i64 i 1,()))))else none)else none)else none)else some (Rs.out 0 (aB S7 (o,a,b,lo,hi,l,k,out,al,()))):=by kernel_rfl
theorem S8(o a b lo hi:Int)(l:List Int)(k:Bool)(out al s:List Int)(hs:out.length+10*s.length<=1099511627776):
 gM (VS.step (fun _=>none) (dG e80 3) 3) (aB zH (o,a,b,lo,hi,l,k,out,al,s,(s.length:Int),0,())) 0 (aB S7 (o,a,b,lo,hi,l,(qX (out,k) s).2,(qX (out,k) s).1,al,())):=by
 have:=JD (f:=VS.step (fun _=>none) (dG e80 3) 3) (l:=s) (fun(q:List Int×Bool) j=>aB zH (o,a,b,lo,hi,l,q.2,q.1,al,s,(s.length:Int),(j:Int),())) (fun q x=>.inl (v7 q x)) (fun q=>(0,aB S7 (o,a,b,lo,hi,l,q.2,q.1,al,())))
  (fun q r=>q.1.length+10*r.length<=1099511627776) (fun q j x r h uX=>by
  obtain⟨out,k⟩:=q
  obtain⟨h1,h2⟩:=dm h (aq i64)
  simp only[List.length_cons]at uX
  have hr:s.length=j+1+r.length:=by have:=congrArg List.length h;simp at this;omega
  have hj:j<4611686018427387904:=by omega
  have hp:=j8 (bf .u64 x)
  have c:=ng x
  have r1:roomy 1 (out.length+(jr (bf .u64 x)).length)=true:=bO (by omega) (by omega)
  refine⟨?_,fun s' e=>?_⟩
  ·rw[DN,ed h1,cond_true,cN h1,cond_true,Int.toNat_natCast,h2,kv hj,decide_eq_true c.1,decide_eq_true c.2,r1,bp]
   unfold v7
   cases k<;>rfl
  ·cases e
   simp only[v7,List.length_append]
   omega) (fun q j h hj hi=>by
  have:j=s.length:=by have:=List.drop_eq_nil_iff.1 h;omega
  subst this
  rw[DN,di (Nat.le_refl _)]
  rfl) s 0 (out,k) rfl (by omega) hs
 rw[fH]at this
 exact this
theorem YI(x:aj zH)(k:Nat)(q:List Pl)(h:(g80 x).val=some (k,q)):gM (VS.step (fun _=>none) (dG e80 3) 3) (aB zH x) k q:=by
 obtain⟨o,a,b,lo,hi,l,kk,out,al,s,n,i,⟨⟩⟩:=x
 obtain⟨h1,h2⟩:=Lf.T.aX h
 cases h2
 simp only[Bool.and_eq_true,decide_eq_true_eq]at h1
 obtain⟨b1,b2,b3⟩:=h1
 subst b1;subst b2
 exact S8 o a b lo hi l kk out al s b3
def aT{α:Type}(c:Bool)(x:Option α):Option α:=bif c then x else none
def uB{α:Type}(K:List Int->Bool->α)(p:List Int)(o a b lo hi:Int)(l:List Int):Option α:=
 let f:=(kB o).1
 let A:=jr (bf .u64 a)
 let B:=jr (bf .u64 b)
 let one:=[bf .u8 (cr .i64 a 128)]
 let ct:=aT (roomy 1 (p.length+one.length)) (some (K (app p one) true))
 let al:=aT (roomy 1 (p.length+A.length)) (aT (decide (a=a)) (some (K (app p A) (lA a))))
 let rg:=(decide (0<=bf .u64 b)&&decide (bf .u64 b<18446744073709551616))
 let two:=aT (roomy 1 (p.length+A.length)) (aT (decide (b=b)) (aT (decide (a=a)) (aT rg (aT (decide (a=a)) (aT (roomy 1 ((app p A).length+B.length)) (aT (decide (a=a)) (bif lA a then some (K (app (app p A) B) (lA b))else some (K (app (app p A) B) false))))))))
 let YJ:=jr (bf .u64 (Int.ofNat l.length))
 let tb:=qX (app p YJ,Cm o) l
 bif decide (f=1)then some (K p true)
 else bif decide (f=2)then(bif decide (a= -64)then ct else bif decide (a= -1)then ct else bif decide (a= -2)then ct else bif decide (a= -5)then ct else
  aT (decide (-9223372036854775808<=a)&&decide (a<9223372036854775808)) (aT (decide (a=a)) (aT (roomy 1 (p.length+(lL a).length)) (aT (decide (a=a)) (some (K (app p (lL a)) (lA a)))))))
 else bif decide (f=3)then al else bif decide (f=5)then al
 else bif decide (f=4)then aT (decide (0<=bf .u64 (Int.ofNat l.length))&&decide (bf .u64 (Int.ofNat l.length)<18446744073709551616)) (aT (roomy 1 (p.length+YJ.length))
  (aT (decide ((Int.ofNat l.length)=Int.ofNat l.length)&&(decide ((0:Int)=0)&&decide ((app p YJ).length+10*l.length<=1099511627776))) (aT (roomy 1 (tb.1.length+A.length)) (bif tb.2 then some (K (app tb.1 A) (lA a))else some (K (app tb.1 A) false)))))
 else bif decide (f=6)then two else bif decide (f=7)then two
 else bif decide (f=8)then aT (roomy 1 (p.length+A.length)) (aT (decide (b=b)) (aT rg (aT (roomy 1 ((app p A).length+B.length)) (aT (roomy 1 ((app (app p A) B).length+[bf .u8 lo].length)) (aT (decide (a=a))
  (bif lA a then(bif lA b then some (K (app (app (app p A) B) [bf .u8 lo]) (decide (lo<256)))else some (K (app (app (app p A) B) [bf .u8 lo]) false))else some (K (app (app (app p A) B) [bf .u8 lo]) false)))))))
 else aT (decide (p.length+16<=1099511627776)) (some (K (p++DM a lo hi f) (Nq a lo f)))
abbrev k2(b:List Int)(o:Bool):List Pl:=aB [.ae u8,.bool] (b,o,())
def yI{α:Type}(K:List Int->Bool->α)(o a b lo hi:Int)(l:List Int):Option α:=
 let f:=(kB o).1
 let p:=app [253] (jr (bf .u64 (bN .i64 o 64768)))
 let rga:=(decide (0<=bf .u64 a)&&decide (bf .u64 a<18446744073709551616))
 bif !Cm o then some (K [] false)else bif !(DL (o,a,b,lo,hi,l,f,())).1 then some (K [] false)else
 bif decide (64768<=o)then aT (decide (0<=bf .u64 (bN .i64 o 64768))&&decide (bf .u64 (bN .i64 o 64768)<18446744073709551616)) (aT (roomy 1 ([(253:Int)].length+(jr (bf .u64 (bN .i64 o 64768))).length)) (aT rga (uB K p o a b lo hi l)))
 else aT rga (uB K [bf .u8 o] o a b lo hi l)
abbrev t80:List Ty:=[i64,i64,i64,u64,u64,.ae i64]
theorem YK(o a b lo hi:Int)(l:List Int):(ja (Ps [pI]) [] (Ps [.tu (Ps [.ow u8,.bo])]) L80 Tryz.x99 3 (dG e80 3) (aB t80 (o,a,b,lo,hi,l,()))).val=yI k2 o a b lo hi l:=by kernel_rfl
end Go.Proofs.Vd

noncomputable section
namespace Go.Proofs.Vd
open Go.Ab Go.Ab.Lf
set_option maxRecDepth 100000
def Gd(n:Nat)(F: ∀ α:Type,(List Int->Bool->α)->Option α):Prop:= ∃ B O,B.length<=n/\ ∀ α K,F α K=some (K B O)
theorem Gd.bif{n:Nat}{c:Bool}{F1 F2: ∀ α:Type,(List Int->Bool->α)->Option α}(h1:Gd n F1)(h2:Gd n F2):Gd n (fun α K=>bif c then F1 α K else F2 α K):=by
 cases c
 ·exact h2
 ·exact h1
theorem Gd.ck{n:Nat}{c:Bool}{F: ∀ α:Type,(List Int->Bool->α)->Option α}(h1:c=true)(h2:Gd n F):Gd n (fun α K=>aT c (F α K)):=by
 subst h1
 exact h2
theorem Gd.some{n:Nat}{B:List Int}{O:Bool}(h:B.length<=n):Gd n (fun _ K=>some (K B O)):=⟨B,O,h,fun _ _=>rfl⟩
theorem DO(p:List Int)(o a b lo hi:Int)(l:List Int)(hp:p.length<=11)(h1: -9223372036854775808<=a)(h2:a<9223372036854775808)(hl:10*l.length+100<=1099511627776):
 Gd (11+30+10*l.length) (fun _ K=>uB K p o a b lo hi l):=by
 have cA:=j8 (bf .u64 a)
 have cB:=j8 (bf .u64 b)
 have cL:=j8 (bf .u64 (Int.ofNat l.length))
 have cS:=qV a
 have cM:=Ns l (p++jr (bf .u64 (Int.ofNat l.length)),Cm o)
 have r1:=ng a
 have r2:=ng b
 have r3:=ng (Int.ofNat l.length)
 have cC:=JG a lo hi (kB o).1
 simp only[List.length_append]at cM
 dsimp only[uB]
 simp only[bp]
 refine(.bif (.some ?_) (.bif (.bif (.ck ?_ (.some ?_)) (.bif (.ck ?_ (.some ?_)) (.bif (.ck ?_ (.some ?_)) (.bif (.ck ?_ (.some ?_)) (.ck ?_ (.ck ?_ (.ck ?_ (.ck ?_ (.some ?_))))))))) (.bif (.ck ?_ (.ck ?_ (.some ?_))) (.bif (.ck ?_ (.ck ?_ (.some ?_))) (.bif (.ck ?_ (.ck ?_ (.ck ?_ (.ck ?_ (.bif (.some ?_) (.some ?_)))))) (.bif (.ck ?_ (.ck ?_ (.ck ?_ (.ck ?_ (.ck ?_ (.ck ?_ (.ck ?_ (.bif (.some ?_) (.some ?_))))))))) (.bif (.ck ?_ (.ck ?_ (.ck ?_ (.ck ?_ (.ck ?_ (.ck ?_ (.ck ?_ (.bif (.some ?_) (.some ?_))))))))) (.bif (.ck ?_ (.ck ?_ (.ck ?_ (.ck ?_ (.ck ?_ (.ck ?_ (.bif (.bif (.some ?_) (.some ?_)) (.some ?_)))))))) (.ck ?_ (.some ?_))))))))))
 all_goals try (with_reducible apply bO)
 all_goals try simp only[Bool.and_eq_true,decide_eq_true_eq,List.length_append,List.length_cons,List.length_nil]
 all_goals first
  |omega
  |trivial
  |(refine⟨?_,?_,?_⟩<;>first|rfl|trivial|omega)
theorem Nt(o a b lo hi:Int)(l:List Int)(h1: -9223372036854775808<=a)(h2:a<9223372036854775808)(hl:10*l.length+100<=1099511627776):
 Gd (11+30+10*l.length) (fun _ K=>yI K o a b lo hi l):=by
 have cO:=j8 (bf .u64 (bN .i64 o 64768))
 have r1:=ng a
 have r2:=ng (bN .i64 o 64768)
 dsimp only[yI]
 simp only[bp]
 refine .bif (.some (by simp)) (.bif (.some (by simp)) (.bif (.ck ?_ (.ck ?_ (.ck ?_ (DO _ o a b lo hi l ?_ h1 h2 hl)))) (.ck ?_ (DO _ o a b lo hi l ?_ h1 h2 hl))))
 ·simp only[Bool.and_eq_true,decide_eq_true_eq];omega
 ·apply bO
  ·omega
  ·simp only[List.length_cons,List.length_nil];omega
 ·simp only[Bool.and_eq_true,decide_eq_true_eq];omega
 ·simp only[List.length_append,List.length_cons,List.length_nil];omega
 ·simp only[Bool.and_eq_true,decide_eq_true_eq];omega
 ·simp
def iI(x:aj t80):List Int×Bool:=(yI Prod.mk x.1 x.2.1 x.2.2.1 x.2.2.2.1 x.2.2.2.2.1 x.2.2.2.2.2.1).getD ([],false)
def okI(x:aj t80):Bool:=(decide (-9223372036854775808<=x.2.1)&&decide (x.2.1<9223372036854775808))&&decide (10*x.2.2.2.2.2.1.length+100<=1099511627776)
def s80:cQ:=iw (Ps [pI]) [] (Ps [.tu (Ps [.ow u8,.bo])]) t80 [.ae u8,.bool] fun x=>.ck (okI x) (.ok ((iI x).1,(iI x).2,()))
theorem xg{x:aj t80}(h:okI x=true):(iI x).1.length<=41+10*x.2.2.2.2.2.1.length/\ ∀ (α:Type) (K:List Int->Bool->α),yI K x.1 x.2.1 x.2.2.1 x.2.2.2.1 x.2.2.2.2.1 x.2.2.2.2.2.1=some (K (iI x).1 (iI x).2):=by
 simp only[okI,Bool.and_eq_true,decide_eq_true_eq]at h
 obtain⟨B,O,hB,hK⟩:=Nt x.1 x.2.1 x.2.2.1 x.2.2.2.1 x.2.2.2.2.1 x.2.2.2.2.2.1 h.1.1 h.1.2 h.2
 have e:iI x=(B,O):=by unfold iI;exact congrArg (fun z=>z.getD ([],false)) (hK _ Prod.mk)
 rw[e]
 exact⟨hB,hK⟩
theorem YL{ao:aA}(W:World ao):s80.Ok 99 ao:=by
 have hl:ep Rx.w (pK VS zH g80) (fun n d=>gy (ao n d) n (.bl 2 (.lp VS.body))):=iH (W.in (Nr W) 3) (aE _) (m:=3) YI
 refine dD (W.in (Nr W) 3) (W.st 99 _ rfl) rfl (L:=L80) (fx.jq (.cons (b:=VS.body) (by kernel_rfl) hl .nil)) (m:=3) rfl ?_
 rintro⟨o,a,b,lo,hi,l,⟨⟩⟩ q h
 obtain⟨h1,h2⟩:=Lf.T.aX h
 cases h2
 rw[YK]
 exact(xg h1).2 _ k2
end Go.Proofs.Vd

noncomputable section
namespace Go.Proofs.Vd
open Go.Ab Go.Ab.Lf
set_option maxRecDepth 100000
abbrev BE:List Ty:=[.ae u8,.ae tI,i64,i64]
def VT:j4:=⟨0,fK Tryz.x84.code 0,[4,12,13,14],Ps [.ow u8,.im tI,.n .i64,.n .i64],[⟨.lN,[4],Ps [.ow u8]⟩,⟨.rt,[2,3],Ps [.ow u8,.n .i64]⟩]⟩
def e67:List (Nat×cQ):=[(98,s79),(99,s80)]
theorem Nu{ao:aA}(W:World ao):dc ao e67:=.cons (Yw W) (.cons (YL W) .nil)
def mI(x:den tI):aj t80:=(x.1,x.2.1,x.2.2.1,x.2.2.2.1,x.2.2.2.2.1,x.2.2.2.2.2,())
def yJ(out:List Int)(x:den tI)(_:List (den tI)):List Int ⊕ Option (List Int):=bif (iI (mI x)).2 then .inl (out++(iI (mI x)).1)else .inr none
def qo(c:List (den tI))(out:List Int):Option (List Int):=gq yJ some c out
def qp(c:List (den tI)):Nat:=c.foldr (fun x n=>41+10*x.2.2.2.2.2.length+n) 0
theorem yK(x:den tI)(c:List (den tI)):qp (x::c)=41+10*List.length x.2.2.2.2.2+qp c:=rfl
theorem HO(c:List (den tI)):41*c.length<=qp c:=by
 induction c with
 |nil=>simp[qp]
 |cons x c ih=>rw[yK];simp only[List.length_cons];omega
def F5(c:List (den tI)):Bool:=cf (fun x=>okI (mI x)) c
theorem jM{α:Type}{p:α->Bool}{x:α}{l:List α}(h:cf p (x::l)=true):p x=true/\cf p l=true:=by
 have h:(bif p x then cf p l else false)=true:=h
 cases q:p x with
 |true=>rw[q]at h;exact⟨rfl,h⟩
 |false=>rw[q]at h;cases h
def qi(c:List (den tI)):Bool:=F5 c&&decide (qp c<=1099511627776)
theorem DP(out:List Int)(c:List (den tI))(n i:Int):(VT.step (fun _=>none) (dG e67 3) 3 (aB BE (out,c,n,i,()))).val=
 bif decide (i<n)then bif bm i (Int.ofNat c.length)then bif okI (mI (c.getD i.toNat (aq tI)))then bif !(iI (mI (c.getD i.toNat (aq tI)))).2 then some (Rs.out 1 (aB [.ae u8,i64] ([],1,())))
  else bif roomy 1 (out.length+(iI (mI (c.getD i.toNat (aq tI)))).1.length)then some (Rs.next (aB BE (app out (iI (mI (c.getD i.toNat (aq tI)))).1,c,n,cr .i64 i 1,())))else none else none else none else some (Rs.out 0 (aB [.ae u8] (out,()))):=by kernel_rfl
theorem Nv(c:List (den tI))(hc:F5 c=true): ∀ (out y:List Int),qo c out=some y->y.length<=out.length+qp c:=by
 induction c with
 |nil=>
  intro out y h
  cases h
  exact Nat.le_add_right _ _
 |cons x c ih=>
  intro out y h
  obtain⟨h1,h2⟩:=jM hc
  have hp:(iI (mI x)).1.length<=41+10*List.length x.2.2.2.2.2:=(xg h1).1
  have e:qo (x::c) out=(match yJ out x c with| .inl s=>qo c s| .inr o=>o):=by
   show gq yJ some (x::c) out=_
   rw[gq]
   cases yJ out x c<;>rfl
  rw[e]at h
  unfold yJ at h
  cases q:(iI (mI x)).2 with
  |true=>
   rw[q]at h
   have:=ih h2 _ _ h
   rw[yK]
   simp only[List.length_append]at this
   omega
  |false=>rw[q]at h;cases h
theorem S9(out:List Int)(c:List (den tI))(hc:F5 c=true)(hs:out.length+qp c<=1099511627776):
 gM (VT.step (fun _=>none) (dG e67 3) 3) (aB BE (out,c,(c.length:Int),0,())) (match qo c out with|some _=>0|none=>1) (match qo c out with|some y=>aB [.ae u8] (y,())|none=>aB [.ae u8,i64] ([],1,())):=by
 have hl:=HO c
 have:=SL (f:=VT.step (fun _=>none) (dG e67 3) 3) (l:=c) (fun(out:List Int) j=>aB BE (out,c,(c.length:Int),(j:Int),())) yJ (fun q=>(some q:Option (List Int)))
  (fun o=>(match o with|some _=>0|none=>1,match o with|some y=>aB [.ae u8] (y,())|none=>aB [.ae u8,i64] ([],1,()))) (fun out r=>F5 r=true/\out.length+qp r<=1099511627776) (fun out j x r h hi=>by
  obtain⟨h1,h2⟩:=dm h (aq tI)
  obtain⟨k0,k3⟩:=hi
  obtain⟨k1,k2⟩:=jM k0
  have hr:c.length=j+1+r.length:=by have:=congrArg List.length h;simp at this;omega
  rw[yK]at k3
  have hp:(iI (mI x)).1.length<=41+10*List.length x.2.2.2.2.2:=(xg k1).1
  have hj:j<4611686018427387904:=by omega
  have hro:roomy 1 (out.length+(iI (mI x)).1.length)=true:=bO (by omega) (by omega)
  refine⟨?_,fun s' e=>?_⟩
  ·rw[DP,ed h1,cond_true,cN h1,cond_true,Int.toNat_natCast,h2,kv hj,k1,hro,bp]
   unfold yJ
   cases(iI (mI x)).2<;>rfl
  ·unfold yJ at e
   cases q:(iI (mI x)).2 with
   |true=>rw[q]at e;cases e;refine⟨k2,?_⟩;rw[List.length_append];omega
   |false=>rw[q]at e;cases e) (fun q j h hj hi=>by
  have:j=c.length:=by have:=List.drop_eq_nil_iff.1 h;omega
  subst this
  rw[DP,di (Nat.le_refl _)]
  rfl) c 0 out rfl (by omega) ⟨hc,hs⟩
 exact this
def g67:aj BE->T (Nat×List Pl):=fun x=>.ck ((decide (x.1.length=0)&&qi x.2.1)&&(decide (x.2.2.1=(x.2.1.length:Int))&&decide (x.2.2.2.1=0)))
 (.br (qo x.2.1 []).isSome (.ok (0,aB [.ae u8] ((qo x.2.1 []).getD [],()))) (.ok (1,aB [.ae u8,i64] ([],1,()))))
theorem YM(x:aj BE)(k:Nat)(q:List Pl)(h:(g67 x).val=some (k,q)):gM (VT.step (fun _=>none) (dG e67 3) 3) (aB BE x) k q:=by
 obtain⟨out,c,n,i,⟨⟩⟩:=x
 obtain⟨h1,h2⟩:=Lf.T.aX h
 simp only[Bool.and_eq_true,decide_eq_true_eq,qi]at h1
 obtain⟨⟨b1,b2,b3⟩,b4,b5⟩:=h1
 have b1:=List.eq_nil_of_length_eq_zero b1
 subst b1;subst b4;subst b5
 have:=S9 [] c b2 (by simpa using b3)
 rw[Lf.T.dZ]at h2
 cases hm:qo c []with
 |none=>rw[hm]at h2 this;cases h2;exact this
 |some y=>rw[hm]at h2 this;cases h2;exact this
def F6(c:List (den tI)):Option (List Int):=bif iT c then qo c []else none
def pP(c:List (den tI)):List Int:=(F6 c).getD []
def nU(c:List (den tI)):Int:=bif (F6 c).isSome then 0 else 1
theorem DQ(c:List (den tI))(hc:F5 c=true):(pP c).length<=qp c:=by
 unfold pP F6
 cases iT c with
 |false=>exact Nat.zero_le _
 |true=>
  cases h:qo c []with
  |none=>simp
  |some y=>have:=Nv c hc _ _ h;simpa using this
def L67:Nat->Option fD:=qg [(0,pK VT BE g67)]
def s67:cQ:=iw (Ps [.im tI]) [] (Ps [.tu (Ps [.ow u8,.n .i64])]) [.ae tI] [.ae u8,i64] fun x=>.ck (qi x.1) (.ok (pP x.1,nU x.1,()))
theorem YN(c:List (den tI)):(ja (Ps [.im tI]) [] (Ps [.tu (Ps [.ow u8,.n .i64])]) L67 Tryz.x84 3 (dG e67 3) (aB [.ae tI] (c,()))).val=
 bif decide (c.length<=1099511627776)then bif !iT c then some (aB [.ae u8,i64] ([],1,()))else bif (decide ((0:Nat)=0)&&qi c)&&(decide ((c.length:Int)=(c.length:Int))&&decide ((0:Int)=0))then
  bif (qo c []).isSome then some (aB [.ae u8,i64] ((qo c []).getD [],0,()))else some (aB [.ae u8,i64] ([],1,()))else none else none:=by kernel_rfl
theorem YO{ao:aA}(W:World ao):s67.Ok 84 ao:=by
 have hl:ep Rx.w (pK VT BE g67) (fun n d=>gy (ao n d) n (.bl 0 (.lp VT.body))):=iH (W.in (Nu W) 3) (aE _) (m:=3) YM
 refine dD (W.in (Nu W) 3) (W.st 84 _ rfl) rfl (L:=L67) (fx.jq (.cons (b:=VT.body) (by kernel_rfl) hl .nil)) (m:=3) rfl ?_
 rintro⟨c,⟨⟩⟩ q h
 obtain⟨h1,h2⟩:=Lf.T.aX h
 cases h2
 have h1:qi c=true:=h1
 have hw:=HO c
 have h3:qp c<=1099511627776:=by simp only[qi,Bool.and_eq_true,decide_eq_true_eq]at h1;exact h1.2
 have h4:c.length<=1099511627776:=by omega
 rw[YN,decide_eq_true h4,h1]
 unfold pP nU F6
 cases iT c with
 |false=>rfl
 |true=>
  simp only[decide_true,Bool.and_self,cond_true,Bool.not_true,cond_false]
  cases qo c []<;>rfl
end Go.Proofs.Vd
