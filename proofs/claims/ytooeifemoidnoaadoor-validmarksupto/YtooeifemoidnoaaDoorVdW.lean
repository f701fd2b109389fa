import Derived.Test.YtooeifemoidnoaaDoorVdE6
noncomputable section
variable {cal:Go.Ab.Lf.CallN}
namespace Go.Proofs.Vd
open Go.Ab Go.Ab.Lf
set_option maxRecDepth 100000
abbrev St:=List Int×Bool
abbrev WrF:= ∀ α:Type,St->(St->Option α)->Option α
def Wr(n:Nat)(F:WrF):Prop:= ∀ s:St,s.1.length+n<=1099511627776-> ∃ s':St,s'.1.length<=s.1.length+n/\ ∀ α K,F α s K=K s'
theorem Wr.le{n m:Nat}{F:WrF}(h:Wr n F)(hm:n<=m):Wr m F:=fun s hs=>by
 obtain⟨s',h1,h2⟩:=h s (by omega)
 exact⟨s',by omega,h2⟩
theorem Wr.seq{n m:Nat}{F G:WrF}(h1:Wr n F)(h2:Wr m G):Wr (n+m) (fun α s K=>F α s fun s=>G α s K):=fun s hs=>by
 obtain⟨s1,a1,b1⟩:=h1 s (by omega)
 obtain⟨s2,a2,b2⟩:=h2 s1 (by omega)
 refine⟨s2,by omega,fun α K=>?_⟩
 show F α s _=_
 rw[b1,b2]
theorem Wr.bif{n:Nat}{c:Bool}{F G:WrF}(h1:Wr n F)(h2:Wr n G):Wr n (fun α s K=>bif c then F α s K else G α s K):=by
 cases c
 ·exact h2
 ·exact h1
theorem Wr.nop:Wr 0 (fun _ s K=>K s):=fun s _=>⟨s,Nat.le_refl _,fun _ _=>rfl⟩
def wMust(c:Bool):WrF:=fun _ s K=>K (s.1,s.2|| !c)
theorem wMust_wr(c:Bool):Wr 0 (wMust c):=fun s _=>⟨(s.1,s.2|| !c),Nat.le_refl _,fun _ _=>rfl⟩
def wBytes(l:List Int):WrF:=fun _ s K=>ckO (decide (s.1.length+l.length<=1099511627776)) (K (s.1++l,s.2))
theorem wBytes_wr(l:List Int):Wr l.length (wBytes l):=fun s h=>⟨(s.1++l,s.2),by simp,fun _ K=>by unfold wBytes ckO;rw[decide_eq_true h];rfl⟩
theorem mNums_len(l:List Int): ∀ s:St,(mNums s l).1.length<=s.1.length+10*l.length:=by
 induction l with
 |nil=>intro s;simp[mNums]
 |cons x l ih=>
  intro s
  have:=ih (mNum1 s x)
  have h:=putU_len (cvtW .u64 x)
  have e:mNums s (x::l)=mNums (mNum1 s x) l:=rfl
  rw[e]
  have e2:(mNum1 s x).1.length=s.1.length+(putU (cvtW .u64 x)).length:=by simp[mNum1]
  simp only[List.length_cons]
  omega
theorem mKinds_len(l:List Int): ∀ s:St,(mKinds s l).1.length=s.1.length+l.length:=by
 induction l with
 |nil=>intro s;simp[mKinds]
 |cons x l ih=>
  intro s
  have:=ih (mKind1 s x)
  have e:mKinds s (x::l)=mKinds (mKind1 s x) l:=rfl
  rw[e]
  have e2:(mKind1 s x).1.length=s.1.length+1:=by simp[mKind1]
  simp only[List.length_cons]
  omega
def wNums(l:List Int):WrF:=fun _ s K=>ckO (decide (s.1.length+10*l.length<=1099511627776)) (K (mNums s l))
theorem wNums_wr(l:List Int):Wr (10*l.length) (wNums l):=fun s h=>⟨mNums s l,mNums_len l s,fun _ K=>by unfold wNums ckO;rw[decide_eq_true h];rfl⟩
def wKinds(l:List Int):WrF:=fun _ s K=>ckO (decide (s.1.length+l.length<=1099511627776)) (K (mKinds s l))
theorem wKinds_wr(l:List Int):Wr l.length (wKinds l):=fun s h=>⟨mKinds s l,Nat.le_of_eq (mKinds_len l s),fun _ K=>by unfold wKinds ckO;rw[decide_eq_true h];rfl⟩
def wApp(l:List Int):WrF:=fun _ s K=>ckO (roomy 1 (s.1.length+l.length)) (K (app s.1 l,s.2))
theorem wApp_wr(l:List Int):Wr l.length (wApp l):=fun s h=>⟨(s.1++l,s.2),by simp,fun _ K=>by unfold wApp ckO;rw[roomy_le (by omega) h,app_eq];rfl⟩
def mW(F:WrF)(s:St):St:=(F St s some).getD s
theorem mW_eq{n:Nat}{F:WrF}(h:Wr n F){s:St}(hs:s.1.length+n<=1099511627776):(mW F s).1.length<=s.1.length+n/\ ∀ α K,F α s K=K (mW F s):=by
 obtain⟨s',h1,h2⟩:=h s hs
 have e:mW F s=s':=by unfold mW;rw[h2];rfl
 rw[e]
 exact⟨h1,h2⟩
def wT(ok:Bool)(n:Nat)(F:WrF):WrF:=fun _ s K=>ckO (ok&&decide (s.1.length+n<=1099511627776)) (K (mW F s))
theorem wT_wr{ok:Bool}{n:Nat}{F:WrF}(h:Wr n F)(ho:ok=true):Wr n (wT ok n F):=fun s hs=>⟨mW F s,(mW_eq h hs).1,fun _ K=>by unfold wT ckO;rw[ho,decide_eq_true hs];rfl⟩
abbrev k3(s:St):Option (List Pl):=some (ofT [.sli u8,.bool] (s.1,s.2,()))
abbrev qW:Pat:=Ps [.tu .nil,pOut 2]
def wFsp(A:Pat)(ta:List Ty)(F:denT ta->WrF)(wt:denT ta->Nat)(ok:denT ta->Bool):Fsp:=
 mkF (.cons (pOut 0) A) [2] qW (.sli u8::.bool::ta) [.sli u8,.bool] fun x=>.ck (ok x.2.2&&decide (x.1.length+wt x.2.2<=1099511627776)) (.ok ((mW (F x.2.2) (x.1,x.2.1)).1,(mW (F x.2.2) (x.1,x.2.1)).2,()))
theorem wFsp_ok{call:CallQ}(C:SimC call cal){f:FuncId}{b:FbK}(hb:StepOk cal f b)(h512:Nat.ble b.ntmps 512=true){L:Nat->Option CdR}(hL:okL Rx.w cal L b.code){m:Nat}{A:Pat}{ta:List Ty}{F:denT ta->WrF}{wt:denT ta->Nat}{ok:denT ta->Bool}
 (hW: ∀ y,ok y=true->Wr (wt y) (F y))(ht: ∀ b1 k y,(fnT (.cons (pOut 0) A) [2] qW L b m call (ofT (.sli u8::.bool::ta) (b1,k,y))).val=F y _ (b1,k) k3):(wFsp A ta F wt ok).Ok f cal:=by
 refine mkF_ok C hb h512 hL (m:=m) rfl ?_
 rintro⟨b1,k,y⟩ q h
 obtain⟨h1,h2⟩:=Lf.T.ck_some h
 cases h2
 simp only[Bool.and_eq_true,decide_eq_true_eq]at h1
 rw[ht]
 exact(mW_eq (hW y h1.1) h1.2).2 _ k3
def F50(y:denT [.sli tI]):WrF:=fun _ s K=>ckO (okC y.1) (ckO (roomy 1 (s.1.length+(mWrB y.1).length)) (K (app s.1 (mWrB y.1),s.2|| !(decide (mWrE y.1=0)))))
theorem F50_wr(y:denT [.sli tI])(h:okC y.1=true):Wr (mWt y.1) (F50 y):=fun s hs=>by
 have h':=h
 simp only[okC,Bool.and_eq_true,decide_eq_true_eq]at h'
 have hl:=mWrB_len y.1 h'.1
 exact⟨(s.1++mWrB y.1,s.2|| !(decide (mWrE y.1=0))),by simp;omega,fun _ K=>by unfold F50 ckO;rw[h,roomy_le (by omega) (by omega),app_eq];rfl⟩
def s50:Fsp:=wFsp (Ps [.im tI]) [.sli tI] F50 (fun y=>mWt y.1) (fun y=>okC y.1)
def e50:List (Nat×Fsp):=[(28,s28),(67,s67)]
theorem e50_ok(W:World cal):EnOk cal e50:=.cons (s28_ok W) (.cons (s67_ok W) .nil)
theorem s50_ok(W:World cal):s50.Ok 50 cal:=by
 refine wFsp_ok (W.in (e50_ok W) 3) (W.st 50 _ rfl) rfl (okL_none _) (m:=3) F50_wr ?_
 rintro b k ⟨c,⟨⟩⟩
 kernel_rfl
end Go.Proofs.Vd

noncomputable section
variable {V:ByteArray→Bool}{cal:Go.Ab.Lf.CallN}
namespace Go.Proofs.Vd
open Go.Ab Go.Ab.Lf
set_option maxRecDepth 100000
def gNo:Bool:=true
def gSt(s:ByteArray):Bool:=decide (s.size<=9223372036854775807)&&gNo
def s66(V:ByteArray->Bool):Fsp:=mkF (Ps [.st]) [] (Ps [.bo]) [.str] [.bool] fun x=>.ck (gSt x.1) (.ok (V x.1,()))
structure WorldV(V:ByteArray->Bool)(cal:CallN):Prop extends World cal where
 vs:(s66 V).Ok 66 cal
def eW:List (Nat×Fsp):=[(28,s28),(31,s31),(32,s32),(33,s33),(50,s50)]
theorem eW_ok(W:World cal):EnOk cal eW:=.cons (s28_ok W) (.cons (s31_ok W) (.cons (s32_ok W) (.cons (s33_ok W) (.cons (s50_ok W) .nil))))
def F44(y:denT [i64,.bool,.sli tI]):WrF:=fun α s K=>wKinds [y.1] α s fun s=>bif y.2.1 then wBytes [1] α s fun s=>wT (okC y.2.2.1) (mWt y.2.2.1) (F50 y.2.2) α s K else wBytes [0] α s fun s=>wT (okC y.2.2.1) (mWt y.2.2.1) (F50 y.2.2) α s K
def wt44(y:denT [i64,.bool,.sli tI]):Nat:=1+(1+mWt y.2.2.1)
theorem F44_wr(y:denT [i64,.bool,.sli tI])(h:okC y.2.2.1=true):Wr (wt44 y) (F44 y):=
 (wKinds_wr [y.1]).seq (.bif ((wBytes_wr [1]).seq (wT_wr (F50_wr y.2.2 h) h)) ((wBytes_wr [0]).seq (wT_wr (F50_wr y.2.2 h) h)))
def s44:Fsp:=wFsp (Ps [.ag (Ps [.n .i64,.bo,.im tI])]) [i64,.bool,.sli tI] F44 wt44 fun y=>okC y.2.2.1
theorem s44_ok(W:World cal):s44.Ok 44 cal:=by
 refine wFsp_ok (W.in (eW_ok W) 3) (W.st 44 _ rfl) rfl (okL_none _) (m:=3) F44_wr ?_
 rintro b k ⟨t,m,c,⟨⟩⟩
 kernel_rfl
def F41(y:denT [i64,i64,i64]):WrF:=fun α s K=>wMust (decide (y.1<=y.2.2.1)) α s fun s=>bif decide (y.2.1= -1)then wBytes [0] α s fun s=>wNums [y.1] α s K else wBytes [1] α s fun s=>wNums [y.1,y.2.1] α s K
theorem F41_wr(y:denT [i64,i64,i64]):Wr 21 (F41 y):=
 ((wMust_wr _).seq (.bif (((wBytes_wr [0]).seq (wNums_wr [y.1])).le (m:=21) (by simp)) ((wBytes_wr [1]).seq (wNums_wr [y.1,y.2.1])))).le (by simp)
def s41:Fsp:=wFsp (Ps [.ag (Ps [.n .i64,.n .i64]),.n .i64]) [i64,i64,i64] F41 (fun _=>21) fun _=>true
theorem s41_ok(W:World cal):s41.Ok 41 cal:=by
 refine wFsp_ok (W.in (eW_ok W) 3) (W.st 41 _ rfl) rfl (okL_none _) (m:=3) (fun y _=>F41_wr y) ?_
 rintro b k ⟨mi,ma,mo,⟨⟩⟩
 kernel_rfl
def F47(y:denT [u8,.sli u8,.bool]):WrF:=fun α s K=>wMust (!y.2.2.1) α s fun s=>wBytes [y.1] α s fun s=>wNums [(y.2.1.length:Int)] α s fun s=>wApp y.2.1 α s K
def wt47(y:denT [u8,.sli u8,.bool]):Nat:=0+(1+(10+y.2.1.length))
theorem F47_wr(y:denT [u8,.sli u8,.bool]):Wr (wt47 y) (F47 y):=(wMust_wr _).seq ((wBytes_wr [y.1]).seq ((wNums_wr [(y.2.1.length:Int)]).seq (wApp_wr y.2.1)))
def s47:Fsp:=wFsp (Ps [.n .u8,pOut 0]) [u8,.sli u8,.bool] F47 wt47 fun _=>true
theorem s47_ok(W:World cal):s47.Ok 47 cal:=by
 refine wFsp_ok (W.in (eW_ok W) 3) (W.st 47 _ rfl) rfl (okL_none _) (m:=3) (fun y _=>F47_wr y) ?_
 rintro b k ⟨id,b2,k2,⟨⟩⟩
 kernel_rfl
def mSt(s:ByteArray):List Int:=s.data.toList.map fun b=>Int.ofNat b.toNat
theorem mSt_len(s:ByteArray):(mSt s).length=s.size:=by unfold mSt;rw[List.length_map];rfl
def F36(V:ByteArray->Bool)(y:denT [.str]):WrF:=fun α s K=>ckO (gSt y.1)<|wMust (V y.1) α s fun s=>wNums [(y.1.size:Int)] α s fun s=>wApp (mSt y.1) α s K
def wt36(y:denT [.str]):Nat:=10+y.1.size
theorem F36_wr(V:ByteArray->Bool)(y:denT [.str])(hg:gSt y.1=true):Wr (wt36 y) (F36 V y):=by
 have e:F36 V y=fun α s K=>wMust (V y.1) α s fun s=>wNums [(y.1.size:Int)] α s fun s=>wApp (mSt y.1) α s K:=by
  unfold F36
  rw[hg]
  rfl
 rw[e]
 refine((wMust_wr (V y.1)).seq ((wNums_wr [(y.1.size:Int)]).seq (wApp_wr (mSt y.1)))).le ?_
 rw[mSt_len]
 unfold wt36
 simp only[List.length_cons,List.length_nil]
 omega
def s36(V:ByteArray->Bool):Fsp:=wFsp (Ps [.st]) [.str] (F36 V) wt36 fun y=>gSt y.1
def e36(V:ByteArray->Bool):List (Nat×Fsp):=[(28,s28),(32,s32),(66,s66 V)]
theorem e36_ok(W:WorldV V cal):EnOk cal (e36 V):=.cons (s28_ok W.toWorld) (.cons (s32_ok W.toWorld) (.cons W.vs .nil))
theorem s36_ok(W:WorldV V cal):(s36 V).Ok 36 cal:=by
 refine wFsp_ok (W.toWorld.in (e36_ok W) 3) (W.st 36 _ rfl) rfl (okL_none _) (m:=3) (fun y h=>F36_wr V y h) ?_
 rintro b k ⟨s,⟨⟩⟩
 kernel_rfl
def eV(V:ByteArray->Bool):List (Nat×Fsp):=[(28,s28),(31,s31),(32,s32),(33,s33),(36,s36 V),(41,s41),(47,s47),(50,s50)]
theorem eV_ok(W:WorldV V cal):EnOk cal (eV V):=.cons (s28_ok W.toWorld) (.cons (s31_ok W.toWorld) (.cons (s32_ok W.toWorld) (.cons (s33_ok W.toWorld) (.cons (s36_ok W) (.cons (s41_ok W.toWorld) (.cons (s47_ok W.toWorld) (.cons (s50_ok W.toWorld) .nil)))))))
def R30(y:denT [.sli i64,.sli i64]):WrF:=fun α s K=>wBytes [96] α s fun s=>wNums [(y.1.length:Int)] α s fun s=>wKinds y.1 α s fun s=>wNums [(y.2.1.length:Int)] α s fun s=>wKinds y.2.1 α s K
def F30(y:denT [.sli i64,.sli i64]):WrF:=fun α s K=>bif decide ((y.1.length:Int)<=32)then wMust (decide ((y.2.1.length:Int)<=32)) α s fun s=>R30 y α s K else wMust false α s fun s=>R30 y α s K
def wt30(y:denT [.sli i64,.sli i64]):Nat:=0+(1+(10+(y.1.length+(10+y.2.1.length))))
theorem R30_wr(y:denT [.sli i64,.sli i64]):Wr (1+(10+(y.1.length+(10+y.2.1.length)))) (R30 y):=(wBytes_wr [96]).seq ((wNums_wr [(y.1.length:Int)]).seq ((wKinds_wr y.1).seq ((wNums_wr [(y.2.1.length:Int)]).seq (wKinds_wr y.2.1))))
theorem F30_wr(y:denT [.sli i64,.sli i64]):Wr (wt30 y) (F30 y):=.bif ((wMust_wr _).seq (R30_wr y)) ((wMust_wr _).seq (R30_wr y))
def s30:Fsp:=wFsp (Ps [.ag (Ps [.im i64,.im i64])]) [.sli i64,.sli i64] F30 wt30 fun _=>true
theorem s30_ok(W:WorldV V cal):s30.Ok 30 cal:=by
 refine wFsp_ok (W.toWorld.in (eV_ok W) 3) (W.st 30 _ rfl) rfl (okL_none _) (m:=3) (fun y _=>F30_wr y) ?_
 rintro b k ⟨i,o,⟨⟩⟩
 kernel_rfl
def F35(V:ByteArray->Bool)(y:denT [.str,.str,i64]):WrF:=fun α s K=>wT (gSt y.1) (wt36 (y.1,())) (F36 V (y.1,())) α s fun s=>wT (gSt y.2.1) (wt36 (y.2.1,())) (F36 V (y.2.1,())) α s fun s=>wBytes [0] α s fun s=>wNums [y.2.2.1] α s K
def wt35(y:denT [.str,.str,i64]):Nat:=wt36 (y.1,())+(wt36 (y.2.1,())+(1+10))
theorem F35_wr(V:ByteArray->Bool)(y:denT [.str,.str,i64])(hg:(gSt y.1&&gSt y.2.1)=true):Wr (wt35 y) (F35 V y):=(wT_wr (F36_wr V (y.1,()) (Bool.and_eq_true _ _▸hg).1) (Bool.and_eq_true _ _▸hg).1).seq ((wT_wr (F36_wr V (y.2.1,()) (Bool.and_eq_true _ _▸hg).2) (Bool.and_eq_true _ _▸hg).2).seq ((wBytes_wr [0]).seq (wNums_wr [y.2.2.1])))
def s35(V:ByteArray->Bool):Fsp:=wFsp (Ps [.ag (Ps [.st,.st,.n .i64])]) [.str,.str,i64] (F35 V) wt35 fun y=>gSt y.1&&gSt y.2.1
theorem s35_ok(W:WorldV V cal):(s35 V).Ok 35 cal:=by
 refine wFsp_ok (W.toWorld.in (eV_ok W) 3) (W.st 35 _ rfl) rfl (okL_none _) (m:=3) (fun y h=>F35_wr V y h) ?_
 rintro b k ⟨m,n,t,⟨⟩⟩
 kernel_rfl
def F38(y:denT [i64]):WrF:=wNums [y.1]
def s38:Fsp:=wFsp (Ps [.n .i64]) [i64] F38 (fun _=>10) fun _=>true
theorem s38_ok(W:WorldV V cal):s38.Ok 38 cal:=by
 refine wFsp_ok (W.toWorld.in (eV_ok W) 3) (W.st 38 _ rfl) rfl (okL_none _) (m:=3) (fun y _=>wNums_wr [y.1]) ?_
 rintro b k ⟨n,⟨⟩⟩
 kernel_rfl
def F40(y:denT [i64,i64]):WrF:=fun α s K=>wBytes [112] α s fun s=>wT true 21 (F41 (y.1,y.2.1,1024,())) α s K
theorem F40_wr(y:denT [i64,i64]):Wr 22 (F40 y):=(wBytes_wr [112]).seq (wT_wr (F41_wr _) rfl)
def s40:Fsp:=wFsp (Ps [.ag (Ps [.n .i64,.n .i64])]) [i64,i64] F40 (fun _=>22) fun _=>true
theorem s40_ok(W:WorldV V cal):s40.Ok 40 cal:=by
 refine wFsp_ok (W.toWorld.in (eV_ok W) 3) (W.st 40 _ rfl) rfl (okL_none _) (m:=3) (fun y _=>F40_wr y) ?_
 rintro b k ⟨mi,ma,⟨⟩⟩
 kernel_rfl
def F42(y:denT [i64,i64]):WrF:=wT true 21 (F41 (y.1,y.2.1,16,()))
def s42:Fsp:=wFsp (Ps [.ag (Ps [.n .i64,.n .i64])]) [i64,i64] F42 (fun _=>21) fun _=>true
theorem s42_ok(W:WorldV V cal):s42.Ok 42 cal:=by
 refine wFsp_ok (W.toWorld.in (eV_ok W) 3) (W.st 42 _ rfl) rfl (okL_none _) (m:=3) (fun y _=>wT_wr (F41_wr _) rfl) ?_
 rintro b k ⟨mi,ma,⟨⟩⟩
 kernel_rfl
end Go.Proofs.Vd

noncomputable section
variable {V:ByteArray→Bool}{cal:Go.Ab.Lf.CallN}
namespace Go.Proofs.Vd
open Go.Ab Go.Ab.Lf
set_option maxRecDepth 100000
abbrev tS(t:Ty):List Ty:=[.sli u8,.bool,u8,.sli u8,.bool,.sli t,i64,i64]
abbrev tSo:List Ty:=[.sli u8,.bool,u8,.sli u8,.bool]
def lS(x:FbK)(f:FuncId)(t:Ty):Lop:=⟨0,lpOf x.code 0,[0,1,4,10,33,34,35],Ps [pOut 2,.n .u8,.fn f .nil,pOut 0,.im t,.n .i64,.n .i64],[⟨.brk,[0,1,10],Ps [pOut 2,.n .u8,pOut 0]⟩]⟩
def mRow{α:Type}(G:α->WrF)(s:St)(l:List α):St:=l.foldl (fun s x=>mW (G x) s) s
def wtL{α:Type}(wt:α->Nat)(l:List α):Nat:=l.foldr (fun x n=>wt x+n) 0
theorem wtL_cons{α:Type}(wt:α->Nat)(x:α)(l:List α):wtL wt (x::l)=wt x+wtL wt l:=rfl
structure Item(α:Type) where
 G:α->WrF
 wt:α->Nat
 ok:α->Bool
 wr: ∀ x,ok x=true->Wr (wt x) (G x)
 pos: ∀ x,1<=wt x
theorem Item.len{α:Type}(A:Item α)(l:List α):l.length<=wtL A.wt l:=by
 induction l with
 |nil=>exact Nat.le_refl _
 |cons x l ih=>rw[wtL_cons];have:=A.pos x;simp only[List.length_cons];omega
theorem Item.row{α:Type}(A:Item α)(l:List α)(h:allB A.ok l=true): ∀ s:St,s.1.length+wtL A.wt l<=1099511627776->(mRow A.G s l).1.length<=s.1.length+wtL A.wt l:=by
 induction l with
 |nil=>intro s _;exact Nat.le_refl _
 |cons x l ih=>
  intro s hs
  obtain⟨h1,h2⟩:=allB_cons h
  rw[wtL_cons]at hs ⊢
  have k:=(mW_eq (A.wr x h1) (s:=s) (by omega)).1
  have:=ih h2 (mW (A.G x) s) (by omega)
  show(mRow A.G (mW (A.G x) s) l).1.length<=_
  omega
def SecStep{t:Ty}(l:Lop)(call:CallQ)(A:Item (den t)):Prop:= ∀ b k id b2 k2 (r:List (den t)) n i,(l.step (fun _=>none) call 3 (ofT (tS t) (b,k,id,b2,k2,r,n,i,()))).val=
 bif decide (i<n)then bif ixOk i (Int.ofNat r.length)then bif (A.ok (r.getD i.toNat (dflt t))&&decide (b2.length+A.wt (r.getD i.toNat (dflt t))<=1099511627776))then
  some (Rs.next (ofT (tS t) (b,k,id,(mW (A.G (r.getD i.toNat (dflt t))) (b2,k2)).1,(mW (A.G (r.getD i.toNat (dflt t))) (b2,k2)).2,r,n,addW .i64 i 1,())))else none else none else some (Rs.out 0 (ofT tSo (b,k,id,b2,k2,())))
theorem sec_rch{t:Ty}{l:Lop}{call:CallQ}{A:Item (den t)}(hs:SecStep l call A)(b:List Int)(k:Bool)(id:Int)(b2:List Int)(k2:Bool)(r:List (den t))(h1:allB A.ok r=true)(h2:b2.length+wtL A.wt r<=1099511627776):
 Rch (l.step (fun _=>none) call 3) (ofT (tS t) (b,k,id,b2,k2,r,(r.length:Int),0,())) 0 (ofT tSo (b,k,id,(mRow A.G (b2,k2) r).1,(mRow A.G (b2,k2) r).2,())):=by
 have hl:=A.len r
 have:=rng (f:=l.step (fun _=>none) call 3) (l:=r) (fun(q:St) j=>ofT (tS t) (b,k,id,q.1,q.2,r,(r.length:Int),(j:Int),())) (fun q x=>.inl (mW (A.G x) q)) (fun q=>(0,ofT tSo (b,k,id,q.1,q.2,())))
  (fun q u=>allB A.ok u=true/\q.1.length+wtL A.wt u<=1099511627776) (fun q j x u h hi=>by
  obtain⟨b2,k2⟩:=q
  obtain⟨e1,e2⟩:=drop_get h (dflt t)
  obtain⟨a0,a3⟩:=hi
  obtain⟨a1,a2⟩:=allB_cons a0
  rw[wtL_cons]at a3
  have hj:j<4611686018427387904:=by omega
  have a3:b2.length+(A.wt x+wtL A.wt u)<=1099511627776:=a3
  have a4:b2.length+A.wt x<=1099511627776:=by omega
  have hm:=(mW_eq (A.wr x a1) (s:=(b2,k2)) a4).1
  refine⟨?_,fun s' e=>?_⟩
  ·rw[hs,lt_nat e1,cond_true,ix_nat e1,cond_true,Int.toNat_natCast,e2,add1 hj,a1,decide_eq_true a4]
   rfl
  ·cases e
   refine⟨a2,?_⟩
   have hm:(mW (A.G x) (b2,k2)).1.length<=b2.length+A.wt x:=hm
   omega) (fun q j h hj hi=>by
  have:j=r.length:=by have:=List.drop_eq_nil_iff.1 h;omega
  subst this
  rw[hs,lt_natF (Nat.le_refl _)]
  rfl) r 0 (b2,k2) rfl (by omega) ⟨h1,h2⟩
 rw[foldX_inl]at this
 exact this
def gS{t:Ty}(A:Item (den t)):denT (tS t)->T (Nat×List Pl):=fun x=>.ck ((decide (x.2.2.2.2.2.2.1=(x.2.2.2.2.2.1.length:Int))&&decide (x.2.2.2.2.2.2.2.1=0))&&(allB A.ok x.2.2.2.2.2.1&&decide (x.2.2.2.1.length+wtL A.wt x.2.2.2.2.2.1<=1099511627776)))
 (.ok (0,ofT tSo (x.1,x.2.1,x.2.2.1,(mRow A.G (x.2.2.2.1,x.2.2.2.2.1) x.2.2.2.2.2.1).1,(mRow A.G (x.2.2.2.1,x.2.2.2.2.1) x.2.2.2.2.2.1).2,())))
theorem gS_ok{t:Ty}{l:Lop}{call:CallQ}{A:Item (den t)}(hs:SecStep l call A)(x:denT (tS t))(k:Nat)(q:List Pl)(h:(gS A x).val=some (k,q)):Rch (l.step (fun _=>none) call 3) (ofT (tS t) x) k q:=by
 obtain⟨b,bad,id,b2,k2,r,n,i,⟨⟩⟩:=x
 obtain⟨h1,h2⟩:=Lf.T.ck_some h
 cases h2
 simp only[Bool.and_eq_true,decide_eq_true_eq]at h1
 obtain⟨⟨b1,b2'⟩,b3,b4⟩:=h1
 subst b1;subst b2'
 exact sec_rch hs b bad id b2 k2 r b3 b4
def FS{t:Ty}(A:Item (den t))(y:denT [u8,i64,.sli t]):WrF:=fun α s K=>wMust (decide ((y.2.2.1.length:Int)<=y.2.1)) α s fun s=>bif decide ((y.2.2.1.length:Int)=0)then K s else
 ckO (decide (([]:List Int).length+10*[(y.2.2.1.length:Int)].length<=1099511627776)) (
  let p:=mNums ([],s.2) [(y.2.2.1.length:Int)]
  let q:=mRow A.G p y.2.2.1
  ckO ((decide ((y.2.2.1.length:Int)=(y.2.2.1.length:Int))&&decide ((0:Int)=0))&&(allB A.ok y.2.2.1&&decide (p.1.length+wtL A.wt y.2.2.1<=1099511627776))) (wT true (wt47 (y.1,q.1,q.2,())) (F47 (y.1,q.1,q.2,())) α s K))
def wtS{t:Ty}(A:Item (den t))(y:denT [u8,i64,.sli t]):Nat:=21+wtL A.wt y.2.2.1
theorem FS_wr{t:Ty}(A:Item (den t))(y:denT [u8,i64,.sli t])(h:allB A.ok y.2.2.1=true):Wr (wtS A y) (FS A y):=by
 refine((wMust_wr (decide ((y.2.2.1.length:Int)<=y.2.1))).seq (n:=0) (m:=21+wtL A.wt y.2.2.1) ?_).le (by unfold wtS;omega)
 refine .bif (Wr.nop.le (Nat.zero_le _)) ?_
 intro s hs
 have hp:=mNums_len [(y.2.2.1.length:Int)] ([],s.2)
 have hp:(mNums ([],s.2) [(y.2.2.1.length:Int)]).1.length<=10:=by simpa using hp
 have hq:=A.row y.2.2.1 h (mNums ([],s.2) [(y.2.2.1.length:Int)]) (by omega)
 have c1:(mNums ([],s.2) [(y.2.2.1.length:Int)]).1.length+wtL A.wt y.2.2.1<=1099511627776:=by omega
 let q:=mRow A.G (mNums ([],s.2) [(y.2.2.1.length:Int)]) y.2.2.1
 have hq:q.1.length<=10+wtL A.wt y.2.2.1:=Nat.le_trans hq (Nat.add_le_add_right hp _)
 have hw:wt47 (y.1,q.1,q.2,())<=21+wtL A.wt y.2.2.1:=by show 0+(1+(10+q.1.length))<=_;omega
 obtain⟨s',a1,a2⟩:=(wT_wr (F47_wr (y.1,q.1,q.2,())) rfl).le hw s hs
 refine⟨s',a1,fun α K=>?_⟩
 refine Eq.trans ?_ (a2 α K)
 show ckO _ (ckO ((decide _&&decide _)&&(allB A.ok y.2.2.1&&decide _)) _)=_
 rw[h,decide_eq_true c1]
 simp only[decide_true,Bool.and_self]
 rfl
def sS{t:Ty}(f:FuncId)(A:Item (den t)):Fsp:=wFsp (Ps [.n .u8,.n .i64,.im t,.fn f .nil]) [u8,i64,.sli t] (FS A) (wtS A) fun y=>allB A.ok y.2.2.1
def eP:List (Nat×Fsp):=[(28,s28),(32,s32),(47,s47)]
theorem eP_ok(W:World cal):EnOk cal eP:=.cons (s28_ok W) (.cons (s32_ok W) (.cons (s47_ok W) .nil))
def LS{t:Ty}(b:FbK)(f:FuncId)(A:Item (den t)):Nat->Option CdR:=pcL [(0,mkL (lS b f t) (tS t) (gS A))]
theorem sS_ok(W:World cal){t:Ty}{f g:FuncId}{A:Item (den t)}{b:FbK}{e:List (Nat×Fsp)}(he:EnOk cal e)(hb:bkD g=some b)(h512:Nat.ble b.ntmps 512=true)(hs:SecStep (lS b f t) (inD e 3) A)
 (hL:SimD Rx.w (mkL (lS b f t) (tS t) (gS A)) (fun n d=>aCd (cal n d) n (.bl 0 (.lp (lS b f t).body)))->okL Rx.w cal (LS b f A) b.code)
 (ht: ∀ b1 k y,(fnT (.cons (pOut 0) (Ps [.n .u8,.n .i64,.im t,.fn f .nil])) [2] qW (LS b f A) b 3 (inD eP 3) (ofT (.sli u8::.bool:: [u8,i64,.sli t]) (b1,k,y))).val=FS A y _ (b1,k) k3):(sS f A).Ok g cal:=
 wFsp_ok (W.in (eP_ok W) 3) (W.st g _ hb) h512 (hL (mkL_ok (W.in he 3) (okL_none _) (m:=3) (gS_ok hs))) (m:=3) (FS_wr A) ht
def A38:Item (den i64):=⟨fun x=>F38 (x,()),fun _=>10,fun _=>true,fun x _=>wNums_wr [x],fun _=>by decide⟩
theorem sec37(W:WorldV V cal):(sS 38 A38).Ok 37 cal:=by
 refine sS_ok W.toWorld (b:=Tryd.x37) (e:=[(38,s38)]) (.cons (s38_ok W) .nil) rfl rfl ?_ (fun h=>PcOk.okL (.cons (b:=(lS Tryd.x37 38 i64).body) (by kernel_rfl) h .nil)) ?_
 ·intro b k id b2 k2 r n i
  kernel_rfl
 ·rintro b k ⟨id,mo,r,⟨⟩⟩
  kernel_rfl
end Go.Proofs.Vd

noncomputable section
variable {V:ByteArray→Bool}{cal:Go.Ab.Lf.CallN}
namespace Go.Proofs.Vd
open Go.Ab Go.Ab.Lf
set_option maxRecDepth 100000
def F46(V:ByteArray->Bool)(y:denT [.str,i64,i64]):WrF:=fun α s K=>bif decide (0<=y.2.1)then(wMust (decide (y.2.1<=3)) α s fun s=>wT (gSt y.1) (wt36 (y.1,())) (F36 V (y.1,())) α s fun s=>wBytes [cvtW .u8 y.2.1] α s fun s=>wNums [y.2.2.1] α s K)
 else(wMust false α s fun s=>wT (gSt y.1) (wt36 (y.1,())) (F36 V (y.1,())) α s fun s=>wBytes [cvtW .u8 y.2.1] α s fun s=>wNums [y.2.2.1] α s K)
def wt46(y:denT [.str,i64,i64]):Nat:=0+(wt36 (y.1,())+(1+10))
theorem F46_wr(V:ByteArray->Bool)(y:denT [.str,i64,i64])(hg:gSt y.1=true):Wr (wt46 y) (F46 V y):=.bif ((wMust_wr _).seq ((wT_wr (F36_wr V (y.1,()) hg) hg).seq ((wBytes_wr [_]).seq (wNums_wr [y.2.2.1])))) ((wMust_wr _).seq ((wT_wr (F36_wr V (y.1,()) hg) hg).seq ((wBytes_wr [_]).seq (wNums_wr [y.2.2.1]))))
def s46(V:ByteArray->Bool):Fsp:=wFsp (Ps [.ag (Ps [.st,.n .i64,.n .i64])]) [.str,i64,i64] (F46 V) wt46 fun y=>gSt y.1
theorem s46_ok(W:WorldV V cal):(s46 V).Ok 46 cal:=by
 refine wFsp_ok (W.toWorld.in (eV_ok W) 3) (W.st 46 _ rfl) rfl (okL_none _) (m:=3) (fun y h=>F46_wr V y h) ?_
 rintro b k ⟨n,kd,ix,⟨⟩⟩
 kernel_rfl
def F49(y:denT [.sli tI,.sli i64]):WrF:=fun α s K=>wMust (decide ((y.2.1.length:Int)<=1024)) α s fun s=>wBytes [0] α s fun s=>wT (okC y.1) (mWt y.1) (F50 (y.1,())) α s fun s=>wNums [(y.2.1.length:Int)] α s fun s=>wNums y.2.1 α s K
def wt49(y:denT [.sli tI,.sli i64]):Nat:=0+(1+(mWt y.1+(10+10*y.2.1.length)))
theorem F49_wr(y:denT [.sli tI,.sli i64])(h:okC y.1=true):Wr (wt49 y) (F49 y):=(wMust_wr _).seq ((wBytes_wr [0]).seq ((wT_wr (F50_wr (y.1,()) h) h).seq ((wNums_wr [(y.2.1.length:Int)]).seq (wNums_wr y.2.1))))
def s49:Fsp:=wFsp (Ps [.ag (Ps [.im tI,.im i64])]) [.sli tI,.sli i64] F49 wt49 fun y=>okC y.1
theorem s49_ok(W:WorldV V cal):s49.Ok 49 cal:=by
 refine wFsp_ok (W.toWorld.in (eV_ok W) 3) (W.st 49 _ rfl) rfl (okL_none _) (m:=3) F49_wr ?_
 rintro b k ⟨c,fs,⟨⟩⟩
 kernel_rfl
def F54(y:denT [.sli tI,.sli u8]):WrF:=fun α s K=>wBytes [0] α s fun s=>wT (okC y.1) (mWt y.1) (F50 (y.1,())) α s fun s=>wNums [(y.2.1.length:Int)] α s fun s=>wBytes y.2.1 α s K
def wt54(y:denT [.sli tI,.sli u8]):Nat:=1+(mWt y.1+(10+y.2.1.length))
theorem F54_wr(y:denT [.sli tI,.sli u8])(h:okC y.1=true):Wr (wt54 y) (F54 y):=(wBytes_wr [0]).seq ((wT_wr (F50_wr (y.1,()) h) h).seq ((wNums_wr [(y.2.1.length:Int)]).seq (wBytes_wr y.2.1)))
def s54:Fsp:=wFsp (Ps [.ag (Ps [.im tI,.im u8])]) [.sli tI,.sli u8] F54 wt54 fun y=>okC y.1
theorem s54_ok(W:WorldV V cal):s54.Ok 54 cal:=by
 refine wFsp_ok (W.toWorld.in (eV_ok W) 3) (W.st 54 _ rfl) rfl (okL_none _) (m:=3) F54_wr ?_
 rintro b k ⟨c,fs,⟨⟩⟩
 kernel_rfl
abbrev tSig:Ty:=.pair (.sli i64) (.sli i64)
abbrev tImp:Ty:=.pair .str (.pair .str i64)
abbrev tLim:Ty:=.pair i64 i64
abbrev tGlo:Ty:=.pair i64 (.pair .bool (.sli tI))
abbrev tExp:Ty:=.pair .str (.pair i64 i64)
abbrev tEle:Ty:=.pair (.sli tI) (.sli i64)
abbrev tCod:Ty:=.pair (.sli i64) (.sli tI)
abbrev tDat:Ty:=.pair (.sli tI) (.sli u8)
def A30:Item (den tSig):=⟨fun x=>F30 (x.1,x.2,()),fun x=>wt30 (x.1,x.2,()),fun _=>true,fun x _=>F30_wr _,fun x=>by show 1<=0+(1+_);omega⟩
def A35(V:ByteArray->Bool):Item (den tImp):=⟨fun x=>F35 V (x.1,x.2.1,x.2.2,()),fun x=>wt35 (x.1,x.2.1,x.2.2,()),fun x=>gSt x.1&&gSt x.2.1,fun x h=>F35_wr V (x.1,x.2.1,x.2.2,()) h,fun x=>by show 1<=wt36 _+(wt36 _+(1+10));omega⟩
def A40:Item (den tLim):=⟨fun x=>F40 (x.1,x.2,()),fun _=>22,fun _=>true,fun x _=>F40_wr _,fun _=>by decide⟩
def A42:Item (den tLim):=⟨fun x=>F42 (x.1,x.2,()),fun _=>21,fun _=>true,fun x _=>wT_wr (F41_wr _) rfl,fun _=>by decide⟩
def A44:Item (den tGlo):=⟨fun x=>F44 (x.1,x.2.1,x.2.2,()),fun x=>wt44 (x.1,x.2.1,x.2.2,()),fun x=>okC x.2.2,fun x h=>F44_wr _ h,fun x=>by show 1<=1+_;omega⟩
def A46(V:ByteArray->Bool):Item (den tExp):=⟨fun x=>F46 V (x.1,x.2.1,x.2.2,()),fun x=>wt46 (x.1,x.2.1,x.2.2,()),fun x=>gSt x.1,fun x h=>F46_wr V (x.1,x.2.1,x.2.2,()) h,fun x=>by show 1<=0+(wt36 _+(1+10));omega⟩
def A49:Item (den tEle):=⟨fun x=>F49 (x.1,x.2,()),fun x=>wt49 (x.1,x.2,()),fun x=>okC x.1,fun x h=>F49_wr _ h,fun x=>by show 1<=0+(1+_);omega⟩
def A54:Item (den tDat):=⟨fun x=>F54 (x.1,x.2,()),fun x=>wt54 (x.1,x.2,()),fun x=>okC x.1,fun x h=>F54_wr _ h,fun x=>by show 1<=1+_;omega⟩
theorem sec29_30(W:WorldV V cal):(sS 30 A30).Ok 29 cal:=by
 refine sS_ok W.toWorld (b:=Tryd.x29) (e:=[(30,s30)]) (.cons (s30_ok W) .nil) rfl rfl ?_ (fun h=>PcOk.okL (.cons (b:=(lS Tryd.x29 30 tSig).body) (by kernel_rfl) h .nil)) ?_
 ·intro b k id b2 k2 r n i
  kernel_rfl
 ·rintro b k ⟨id,mo,r,⟨⟩⟩
  kernel_rfl
theorem sec34_35(W:WorldV V cal):(sS 35 (A35 V)).Ok 34 cal:=by
 refine sS_ok W.toWorld (b:=Tryd.x34) (e:=[(35,s35 V)]) (.cons (s35_ok W) .nil) rfl rfl ?_ (fun h=>PcOk.okL (.cons (b:=(lS Tryd.x34 35 tImp).body) (by kernel_rfl) h .nil)) ?_
 ·intro b k id b2 k2 r n i
  kernel_rfl
 ·rintro b k ⟨id,mo,r,⟨⟩⟩
  kernel_rfl
theorem sec39_40(W:WorldV V cal):(sS 40 A40).Ok 39 cal:=by
 refine sS_ok W.toWorld (b:=Tryd.x39) (e:=[(40,s40)]) (.cons (s40_ok W) .nil) rfl rfl ?_ (fun h=>PcOk.okL (.cons (b:=(lS Tryd.x39 40 tLim).body) (by kernel_rfl) h .nil)) ?_
 ·intro b k id b2 k2 r n i
  kernel_rfl
 ·rintro b k ⟨id,mo,r,⟨⟩⟩
  kernel_rfl
theorem sec39_42(W:WorldV V cal):(sS 42 A42).Ok 39 cal:=by
 refine sS_ok W.toWorld (b:=Tryd.x39) (e:=[(42,s42)]) (.cons (s42_ok W) .nil) rfl rfl ?_ (fun h=>PcOk.okL (.cons (b:=(lS Tryd.x39 42 tLim).body) (by kernel_rfl) h .nil)) ?_
 ·intro b k id b2 k2 r n i
  kernel_rfl
 ·rintro b k ⟨id,mo,r,⟨⟩⟩
  kernel_rfl
theorem sec43_44(W:WorldV V cal):(sS 44 A44).Ok 43 cal:=by
 refine sS_ok W.toWorld (b:=Tryd.x43) (e:=[(44,s44)]) (.cons (s44_ok W.toWorld) .nil) rfl rfl ?_ (fun h=>PcOk.okL (.cons (b:=(lS Tryd.x43 44 tGlo).body) (by kernel_rfl) h .nil)) ?_
 ·intro b k id b2 k2 r n i
  kernel_rfl
 ·rintro b k ⟨id,mo,r,⟨⟩⟩
  kernel_rfl
theorem sec45_46(W:WorldV V cal):(sS 46 (A46 V)).Ok 45 cal:=by
 refine sS_ok W.toWorld (b:=Tryd.x45) (e:=[(46,s46 V)]) (.cons (s46_ok W) .nil) rfl rfl ?_ (fun h=>PcOk.okL (.cons (b:=(lS Tryd.x45 46 tExp).body) (by kernel_rfl) h .nil)) ?_
 ·intro b k id b2 k2 r n i
  kernel_rfl
 ·rintro b k ⟨id,mo,r,⟨⟩⟩
  kernel_rfl
theorem sec48_49(W:WorldV V cal):(sS 49 A49).Ok 48 cal:=by
 refine sS_ok W.toWorld (b:=Tryd.x48) (e:=[(49,s49)]) (.cons (s49_ok W) .nil) rfl rfl ?_ (fun h=>PcOk.okL (.cons (b:=(lS Tryd.x48 49 tEle).body) (by kernel_rfl) h .nil)) ?_
 ·intro b k id b2 k2 r n i
  kernel_rfl
 ·rintro b k ⟨id,mo,r,⟨⟩⟩
  kernel_rfl
theorem sec53_54(W:WorldV V cal):(sS 54 A54).Ok 53 cal:=by
 refine sS_ok W.toWorld (b:=Tryd.x53) (e:=[(54,s54)]) (.cons (s54_ok W) .nil) rfl rfl ?_ (fun h=>PcOk.okL (.cons (b:=(lS Tryd.x53 54 tDat).body) (by kernel_rfl) h .nil)) ?_
 ·intro b k id b2 k2 r n i
  kernel_rfl
 ·rintro b k ⟨id,mo,r,⟨⟩⟩
  kernel_rfl
end Go.Proofs.Vd

noncomputable section
namespace Go.Proofs.Vd
open Go.Ab Go.Ab.Lf
set_option maxRecDepth 100000
abbrev pC2:Pat:=.pt 0 (Ps [.im i64,.im tI])
abbrev tCd:List Ty:=[.sli u8,.bool,.sli i64,.sli tI,.sli u8,.bool,i64,i64,i64]
abbrev tCd2:List Ty:=[.sli u8,.bool,.sli i64,.sli tI,.sli u8,.bool,i64,i64]
abbrev tCd1:List Ty:=[.sli u8,.bool,.sli i64,.sli tI,.sli u8,.bool,i64]
abbrev tCd0:List Ty:=[.sli u8,.bool,.sli i64,.sli tI,.sli u8,.bool]
def l520:Lop:=⟨0,lpOf Tryd.x52.code 0,[0,3,4,5,19,20],Ps [pOut 2,pC2,pOut 0,.n .i64,.n .i64,.n .i64],[⟨.brk,[0,3,4,5],Ps [pOut 2,pC2,pOut 0,.n .i64]⟩]⟩
def l524:Lop:=⟨4,lpOf Tryd.x52.code 4,[0,3,4,7,8],Ps [pOut 2,pC2,pOut 0,.n .i64,.n .i64],[⟨.brk,[0,3,4,7,8],Ps [pOut 2,pC2,pOut 0,.n .i64,.n .i64]⟩]⟩
def l522:Lop:=⟨2,lpOf Tryd.x52.code 2,[0,3,4,7],Ps [pOut 2,pC2,pOut 0,.n .i64],[⟨.brk,[0,3,4],Ps [pOut 2,pC2,pOut 0]⟩]⟩
def mRunG(L:List Int)(r:Int)(j:Nat):Int:=bif (bif decide ((j:Int)=0)then true else !decide (L.getD (j:Int).toNat (dflt i64)=L.getD (subW .i64 (j:Int) 1).toNat (dflt i64)))then addW .i64 r 1 else r
def mRuns(L:List Int)(r:Int):Int:=(List.range L.length).foldl (mRunG L) r
theorem l520_step(b:List Int)(k:Bool)(L:List Int)(c:List (den tI))(b2:List Int)(k2:Bool)(r n i:Int):(l520.step (fun _=>none) (inD eW 3) 3 (ofT tCd (b,k,L,c,b2,k2,r,n,i,()))).val=
 bif decide (i<n)then bif (bif decide (i=0)then true else(ixOk i (Int.ofNat L.length)&&ixOk (subW .i64 i 1) (Int.ofNat L.length)))then
  bif (bif decide (i=0)then true else !decide (L.getD i.toNat (dflt i64)=L.getD (subW .i64 i 1).toNat (dflt i64)))then some (Rs.next (ofT tCd (b,k,L,c,b2,k2,addW .i64 r 1,n,addW .i64 i 1,())))else some (Rs.next (ofT tCd (b,k,L,c,b2,k2,r,n,addW .i64 i 1,())))else none
 else some (Rs.out 0 (ofT tCd1 (b,k,L,c,b2,k2,r,()))):=by kernel_rfl
theorem l520_rch(b:List Int)(k:Bool)(L:List Int)(c:List (den tI))(b2:List Int)(k2:Bool)(r:Int)(hL:L.length<=1099511627776):
 Rch (l520.step (fun _=>none) (inD eW 3) 3) (ofT tCd (b,k,L,c,b2,k2,r,(L.length:Int),0,())) 0 (ofT tCd1 (b,k,L,c,b2,k2,mRuns L r,())):=by
 have:=rng (f:=l520.step (fun _=>none) (inD eW 3) 3) (l:=List.range L.length) (fun(q:Int) j=>ofT tCd (b,k,L,c,b2,k2,q,(L.length:Int),(j:Int),())) (fun q x=>.inl (mRunG L q x)) (fun q=>(0,ofT tCd1 (b,k,L,c,b2,k2,q,()))) (fun _ _=>True) (fun q j x u h _=>by
  obtain⟨e1,e2⟩:=drop_get h 0
  have e3:x=j:=by
   rw[<-e2,List.getD_eq_getElem?_getD,List.getElem?_eq_getElem e1]
   simp
  subst e3
  rw[List.length_range]at e1
  have hj:x<4611686018427387904:=by omega
  refine⟨?_,fun _ _=>trivial⟩
  rw[l520_step,lt_nat e1,cond_true,add1 hj]
  have hc:(bif decide ((x:Int)=0)then true else(ixOk (x:Int) (Int.ofNat L.length)&&ixOk (subW .i64 (x:Int) 1) (Int.ofNat L.length)))=true:=by
   by_cases h0:x=0
   ·subst h0;rfl
   ·rw[decide_eq_false (by omega),cond_false,ix_nat e1,sub1 (by omega) (by omega),ix_nat (by omega)]
    rfl
  rw[hc,cond_true]
  unfold mRunG
  cases(bif decide ((x:Int)=0)then true else !decide (L.getD (x:Int).toNat (dflt i64)=L.getD (subW .i64 (x:Int) 1).toNat (dflt i64)))<;>rfl) (fun q j h hj _=>by
  have:j=L.length:=by have:=List.drop_eq_nil_iff.1 h;rw[List.length_range]at this hj;omega
  subst this
  rw[l520_step,lt_natF (Nat.le_refl _)]
  rfl) (List.range L.length) 0 r rfl (by rw[List.length_range];omega) trivial
 rw[foldX_inl]at this
 exact this
def g520:denT tCd->T (Nat×List Pl):=fun x=>.ck ((decide (x.2.2.2.2.2.2.2.1=(x.2.2.1.length:Int))&&decide (x.2.2.2.2.2.2.2.2.1=0))&&decide (x.2.2.1.length<=1099511627776)) (.ok (0,ofT tCd1 (x.1,x.2.1,x.2.2.1,x.2.2.2.1,x.2.2.2.2.1,x.2.2.2.2.2.1,mRuns x.2.2.1 x.2.2.2.2.2.2.1,())))
theorem g520_ok(x:denT tCd)(k:Nat)(q:List Pl)(h:(g520 x).val=some (k,q)):Rch (l520.step (fun _=>none) (inD eW 3) 3) (ofT tCd x) k q:=by
 obtain⟨b,bad,L,c,b2,k2,r,n,i,⟨⟩⟩:=x
 obtain⟨h1,h2⟩:=Lf.T.ck_some h
 cases h2
 simp only[Bool.and_eq_true,decide_eq_true_eq]at h1
 obtain⟨⟨b1,b2'⟩,b3⟩:=h1
 subst b1;subst b2'
 exact l520_rch b bad L c b2 k2 r b3
def mRunF(L:List Int)(i:Nat):Nat->Nat->Nat
 |0,n=>n
 |k+1,n=>if i+n<L.length/\L.getD (i+n) (dflt i64)=L.getD i (dflt i64)then mRunF L i k (n+1)else n
theorem mRunF_le(L:List Int)(i:Nat): ∀ (k n:Nat),i+n<=L.length->n<=mRunF L i k n/\i+mRunF L i k n<=L.length
 |0,n,h=>⟨Nat.le_refl _,h⟩
 |k+1,n,h=>by
  unfold mRunF
  split
  ·rename_i hc
   have:=mRunF_le L i k (n+1) (by omega)
   omega
  ·exact⟨Nat.le_refl _,h⟩
theorem add2{i n:Nat}(h:i+n<4611686018427387904):addW .i64 (i:Int) (n:Int)=((i+n:Nat):Int):=by
 show wrapF .i64 ((i:Int)+(n:Int))=_
 rw[wrap_i64 (by omega) (by omega)]
 omega
theorem l524_step(b:List Int)(k:Bool)(L:List Int)(c:List (den tI))(b2:List Int)(k2:Bool)(i n:Int):(l524.step (fun _=>none) (inD eW 3) 3 (ofT tCd2 (b,k,L,c,b2,k2,i,n,()))).val=
 bif (bif decide (addW .i64 i n<Int.ofNat L.length)then(ixOk (addW .i64 i n) (Int.ofNat L.length)&&ixOk i (Int.ofNat L.length))else true)then
  bif (bif decide (addW .i64 i n<Int.ofNat L.length)then decide (L.getD (addW .i64 i n).toNat (dflt i64)=L.getD i.toNat (dflt i64))else false)then some (Rs.next (ofT tCd2 (b,k,L,c,b2,k2,i,addW .i64 n 1,())))else some (Rs.out 0 (ofT tCd2 (b,k,L,c,b2,k2,i,n,())))
 else none:=by kernel_rfl
theorem l524_rch(b:List Int)(k:Bool)(L:List Int)(c:List (den tI))(b2:List Int)(k2:Bool)(i:Nat)(hL:L.length<=1099511627776)(hi:i<L.length): ∀ (f n:Nat),i+n<=L.length->L.length<=i+n+f->
 Rch (l524.step (fun _=>none) (inD eW 3) 3) (ofT tCd2 (b,k,L,c,b2,k2,(i:Int),(n:Int),())) 0 (ofT tCd2 (b,k,L,c,b2,k2,(i:Int),(mRunF L i f n:Nat),()))
 |0,n,h1,h2=>by
  refine .last ?_
  rw[l524_step,add2 (by omega),show Int.ofNat L.length=(L.length:Int)from rfl,lt_natF (by omega)]
  rfl
 |f+1,n,h1,h2=>by
  by_cases hn:i+n<L.length
  ·have e0:((i:Nat):Int).toNat=i:=Int.toNat_natCast i
   by_cases hq:L.getD (i+n) (dflt i64)=L.getD i (dflt i64)
   ·refine .more (pl':=ofT tCd2 (b,k,L,c,b2,k2,(i:Int),((n+1:Nat):Int),())) ?_ ?_
    ·rw[l524_step,add2 (by omega),ix_nat hn,ix_nat hi,Int.toNat_natCast,e0,show Int.ofNat L.length=(L.length:Int)from rfl,lt_nat hn,decide_eq_true hq,add1 (by omega)]
     rfl
    ·have e:mRunF L i (f+1) n=mRunF L i f (n+1):=if_pos ⟨hn,hq⟩
     rw[e]
     exact l524_rch b k L c b2 k2 i hL hi f (n+1) (by omega) (by omega)
   ·refine .last ?_
    have e:mRunF L i (f+1) n=n:=if_neg (fun h=>hq h.2)
    rw[l524_step,add2 (by omega),ix_nat hn,ix_nat hi,Int.toNat_natCast,e0,show Int.ofNat L.length=(L.length:Int)from rfl,lt_nat hn,decide_eq_false hq,e]
    rfl
  ·refine .last ?_
   have e:mRunF L i (f+1) n=n:=if_neg (fun h=>hn h.1)
   rw[l524_step,add2 (by omega),show Int.ofNat L.length=(L.length:Int)from rfl,lt_natF (by omega),e]
   rfl
def mRun(L:List Int)(i:Int):Nat:=mRunF L i.toNat L.length 1
def g524:denT tCd2->T (Nat×List Pl):=fun x=>.ck (((decide (0<=x.2.2.2.2.2.2.1)&&decide (x.2.2.2.2.2.2.1<(x.2.2.1.length:Int)))&&decide (x.2.2.2.2.2.2.2.1=1))&&decide (x.2.2.1.length<=1099511627776)) (.ok (0,ofT tCd2 (x.1,x.2.1,x.2.2.1,x.2.2.2.1,x.2.2.2.2.1,x.2.2.2.2.2.1,x.2.2.2.2.2.2.1,(mRun x.2.2.1 x.2.2.2.2.2.2.1:Int),())))
theorem g524_ok(x:denT tCd2)(k:Nat)(q:List Pl)(h:(g524 x).val=some (k,q)):Rch (l524.step (fun _=>none) (inD eW 3) 3) (ofT tCd2 x) k q:=by
 obtain⟨b,bad,L,c,b2,k2,i,n,⟨⟩⟩:=x
 obtain⟨h1,h2⟩:=Lf.T.ck_some h
 cases h2
 simp only[Bool.and_eq_true,decide_eq_true_eq]at h1
 obtain⟨⟨⟨b1,b2'⟩,b3⟩,b4⟩:=h1
 subst b3
 obtain⟨j,rfl⟩:=Int.eq_ofNat_of_zero_le b1
 have b2':(j:Int)<(L.length:Int):=b2'
 have:=l524_rch b bad L c b2 k2 j b4 (by omega) L.length 1 (by omega) (by omega)
 exact this
def mLocF(L:List Int):Nat->St->Nat->St
 |0,s,_=>s
 |k+1,s,i=>if i<L.length then mLocF L k (mKinds (mNums s [(mRun L (i:Int):Int)]) [L.getD i (dflt i64)]) (i+mRun L (i:Int))else s
theorem mRun_le(L:List Int)(i:Nat)(h:i<L.length):1<=mRun L (i:Int)/\i+mRun L (i:Int)<=L.length:=mRunF_le L i L.length 1 (by omega)
def L522:Nat->Option CdR:=pcL [(4,mkL l524 tCd2 g524)]
theorem l522_step(b:List Int)(k:Bool)(L:List Int)(c:List (den tI))(b2:List Int)(k2:Bool)(i:Int):(l522.step L522 (inD eW 3) 3 (ofT tCd1 (b,k,L,c,b2,k2,i,()))).val=
 bif decide (i<Int.ofNat L.length)then bif ((decide (0<=i)&&decide (i<(L.length:Int)))&&decide ((1:Int)=1))&&decide (L.length<=1099511627776)then bif decide (b2.length+10*[(mRun L i:Int)].length<=1099511627776)then bif ixOk i (Int.ofNat L.length)then
  bif decide ((mNums (b2,k2) [(mRun L i:Int)]).1.length+[L.getD i.toNat (dflt i64)].length<=1099511627776)then some (Rs.next (ofT tCd1 (b,k,L,c,(mKinds (mNums (b2,k2) [(mRun L i:Int)]) [L.getD i.toNat (dflt i64)]).1,(mKinds (mNums (b2,k2) [(mRun L i:Int)]) [L.getD i.toNat (dflt i64)]).2,addW .i64 i (mRun L i:Int),())))
  else none else none else none else none else some (Rs.out 0 (ofT tCd0 (b,k,L,c,b2,k2,()))):=by kernel_rfl
theorem l522_rch(b:List Int)(k:Bool)(L:List Int)(c:List (den tI))(hL:L.length<=1099511627776): ∀ (f:Nat) (s:St) (i:Nat),i<=L.length->L.length<=i+f->s.1.length+11*(L.length - i)<=1099511627776->
 Rch (l522.step L522 (inD eW 3) 3) (ofT tCd1 (b,k,L,c,s.1,s.2,(i:Int),())) 0 (ofT tCd0 (b,k,L,c,(mLocF L f s i).1,(mLocF L f s i).2,()))/\(mLocF L f s i).1.length<=s.1.length+11*(L.length - i)
 |0,s,i,h1,h2,h3=>by
  refine⟨.last ?_,Nat.le_add_right _ _⟩
  rw[l522_step,show Int.ofNat L.length=(L.length:Int)from rfl,lt_natF (by omega)]
  rfl
 |f+1,s,i,h1,h2,h3=>by
  by_cases hi:i<L.length
  ·obtain⟨r1,r2⟩:=mRun_le L i hi
   have hn:=mNums_len [(mRun L (i:Int):Int)] s
   have hn:(mNums s [(mRun L (i:Int):Int)]).1.length<=s.1.length+10:=by simpa using hn
   have hk:=mKinds_len [L.getD i (dflt i64)] (mNums s [(mRun L (i:Int):Int)])
   have hk:(mKinds (mNums s [(mRun L (i:Int):Int)]) [L.getD i (dflt i64)]).1.length=(mNums s [(mRun L (i:Int):Int)]).1.length+1:=by simpa using hk
   obtain⟨a1,a2⟩:=l522_rch b k L c hL f (mKinds (mNums s [(mRun L (i:Int):Int)]) [L.getD i (dflt i64)]) (i+mRun L (i:Int)) r2 (by omega) (by omega)
   have e:mLocF L (f+1) s i=mLocF L f (mKinds (mNums s [(mRun L (i:Int):Int)]) [L.getD i (dflt i64)]) (i+mRun L (i:Int)):=if_pos hi
   rw[e]
   refine⟨.more ?_ a1,by omega⟩
   have c1:s.1.length+10*[(mRun L (i:Int):Int)].length<=1099511627776:=by simp only[List.length_cons,List.length_nil];omega
   have c2:(mNums s [(mRun L (i:Int):Int)]).1.length+[L.getD i (dflt i64)].length<=1099511627776:=by simp only[List.length_cons,List.length_nil];omega
   rw[l522_step,ix_nat hi,Int.toNat_natCast,show Int.ofNat L.length=(L.length:Int)from rfl,lt_nat hi,add2 (by omega),decide_eq_true c1,decide_eq_true (show(0:Int)<=(i:Int) by omega),decide_eq_true hL]
   show(bif decide _ then _ else _)=_
   rw[decide_eq_true c2]
   rfl
  ·have e:mLocF L (f+1) s i=s:=if_neg hi
   rw[e]
   refine⟨.last ?_,Nat.le_add_right _ _⟩
   rw[l522_step,show Int.ofNat L.length=(L.length:Int)from rfl,lt_natF (by omega)]
   rfl
def mLoc(s:St)(L:List Int):St:=mLocF L L.length s 0
def g522:denT tCd1->T (Nat×List Pl):=fun x=>.ck ((decide (x.2.2.2.2.2.2.1=0)&&decide (x.2.2.1.length<=1099511627776))&&decide (x.2.2.2.2.1.length+11*x.2.2.1.length<=1099511627776)) (.ok (0,ofT tCd0 (x.1,x.2.1,x.2.2.1,x.2.2.2.1,(mLoc (x.2.2.2.2.1,x.2.2.2.2.2.1) x.2.2.1).1,(mLoc (x.2.2.2.2.1,x.2.2.2.2.2.1) x.2.2.1).2,())))
theorem g522_ok(x:denT tCd1)(k:Nat)(q:List Pl)(h:(g522 x).val=some (k,q)):Rch (l522.step L522 (inD eW 3) 3) (ofT tCd1 x) k q:=by
 obtain⟨b,bad,L,c,b2,k2,i,⟨⟩⟩:=x
 obtain⟨h1,h2⟩:=Lf.T.ck_some h
 cases h2
 simp only[Bool.and_eq_true,decide_eq_true_eq]at h1
 obtain⟨⟨b1,b2'⟩,b3⟩:=h1
 subst b1
 exact(l522_rch b bad L c b2' L.length (b2,k2) 0 (by omega) (by omega) (by simpa using b3)).1
def L52:Nat->Option CdR:=pcL [(0,mkL l520 tCd g520),(2,mkL l522 tCd1 g522)]
def F52(y:denT [.sli i64,.sli tI]):WrF:=fun α s K=>wMust (decide ((y.1.length:Int)<=512)) α s fun s=>ckO ((decide ((y.1.length:Int)=(y.1.length:Int))&&decide ((0:Int)=0))&&decide (y.1.length<=1099511627776))
 (wNums [mRuns y.1 0] α ([],false) fun q=>ckO ((decide ((0:Int)=0)&&decide (y.1.length<=1099511627776))&&decide (q.1.length+11*y.1.length<=1099511627776)) (wT (okC y.2.1) (mWt y.2.1) (F50 (y.2.1,())) α (mLoc q y.1) fun q=>wMust (!q.2) α s fun s=>wNums [(q.1.length:Int)] α s fun s=>wApp q.1 α s K))
def wt52(y:denT [.sli i64,.sli tI]):Nat:=20+11*y.1.length+mWt y.2.1
theorem F52_eq(b:List Int)(k:Bool)(L:List Int)(c:List (den tI)):(fnT (.cons (pOut 0) (Ps [.ag (Ps [.im i64,.im tI])])) [2] qW L52 Tryd.x52 3 (inD eW 3) (ofT (.sli u8::.bool:: [.sli i64,.sli tI]) (b,k,L,c,()))).val=F52 (L,c,()) _ (b,k) k3:=by kernel_rfl
end Go.Proofs.Vd

noncomputable section
variable {V:ByteArray→Bool}{cal:Go.Ab.Lf.CallN}
namespace Go.Proofs.Vd
open Go.Ab Go.Ab.Lf
set_option maxRecDepth 100000
theorem mLoc_len(s:St)(L:List Int)(hL:L.length<=1099511627776)(h:s.1.length+11*L.length<=1099511627776):(mLoc s L).1.length<=s.1.length+11*L.length:=
 (l522_rch [] false L [] hL L.length s 0 (by omega) (by omega) (by simpa using h)).2
theorem F52_wr(y:denT [.sli i64,.sli tI])(h:okC y.2.1=true):Wr (wt52 y) (F52 y):=by
 refine((wMust_wr (decide ((y.1.length:Int)<=512))).seq (n:=0) (m:=wt52 y) ?_).le (by omega)
 intro s hs
 unfold wt52 at hs ⊢
 have hn:=mNums_len [mRuns y.1 0] ([],false)
 have hn:(mNums ([],false) [mRuns y.1 0]).1.length<=10:=by simpa using hn
 have hL:y.1.length<=1099511627776:=by omega
 have c1:(mNums ([],false) [mRuns y.1 0]).1.length+11*y.1.length<=1099511627776:=by omega
 have hm:=mLoc_len (mNums ([],false) [mRuns y.1 0]) y.1 hL c1
 have c2:(mLoc (mNums ([],false) [mRuns y.1 0]) y.1).1.length+mWt y.2.1<=1099511627776:=by omega
 obtain⟨q,hq,eq⟩:=wT_wr (F50_wr (y.2.1,()) h) h (mLoc (mNums ([],false) [mRuns y.1 0]) y.1) c2
 have hq:q.1.length<=(mLoc (mNums ([],false) [mRuns y.1 0]) y.1).1.length+mWt y.2.1:=hq
 obtain⟨s',hs',es⟩:=((wMust_wr (!q.2)).seq ((wNums_wr [(q.1.length:Int)]).seq (wApp_wr q.1))).le (m:=20+11*y.1.length+mWt y.2.1) (by simp only[List.length_cons,List.length_nil];omega) s hs
 refine⟨s',hs',fun α K=>?_⟩
 refine Eq.trans ?_ (es α K)
 show ckO ((decide _&&decide _)&&decide _) (ckO (decide (([]:List Int).length+10*[mRuns y.1 0].length<=1099511627776)) (ckO ((decide _&&decide _)&&decide _) (wT (okC y.2.1) (mWt y.2.1) (F50 (y.2.1,())) α (mLoc (mNums ([],false) [mRuns y.1 0]) y.1) _)))=_
 rw[eq,decide_eq_true hL,decide_eq_true c1,decide_eq_true (show(y.1.length:Int)=(y.1.length:Int)from rfl)]
 rfl
def s52:Fsp:=wFsp (Ps [.ag (Ps [.im i64,.im tI])]) [.sli i64,.sli tI] F52 wt52 fun y=>okC y.2.1
theorem s52_ok(W:WorldV V cal):s52.Ok 52 cal:=by
 have C:=W.toWorld.in (eW_ok W.toWorld) 3
 have h0:SimD Rx.w (mkL l520 tCd g520) (fun n d=>aCd (cal n d) n (.bl 0 (.lp l520.body))):=mkL_ok C (okL_none _) (m:=3) g520_ok
 have h4:SimD Rx.w (mkL l524 tCd2 g524) (fun n d=>aCd (cal n d) n (.bl 4 (.lp l524.body))):=mkL_ok C (okL_none _) (m:=3) g524_ok
 have h2:SimD Rx.w (mkL l522 tCd1 g522) (fun n d=>aCd (cal n d) n (.bl 2 (.lp l522.body))):=mkL_ok C (L:=L522) (PcOk.okL (.cons (b:=l524.body) (by kernel_rfl) h4 .nil)) (m:=3) g522_ok
 refine wFsp_ok C (W.st 52 _ rfl) rfl (L:=L52) (PcOk.okL (.cons (b:=l520.body) (by kernel_rfl) h0 (.cons (b:=l522.body) (by kernel_rfl) h2 .nil))) (m:=3) F52_wr ?_
 rintro b k ⟨L,c,⟨⟩⟩
 exact F52_eq b k L c
def A52:Item (den tCod):=⟨fun x=>F52 (x.1,x.2,()),fun x=>wt52 (x.1,x.2,()),fun x=>okC x.2,fun x h=>F52_wr _ h,fun x=>by show 1<=20+_+_;omega⟩
theorem sec51_52(W:WorldV V cal):(sS 52 A52).Ok 51 cal:=by
 refine sS_ok W.toWorld (b:=Tryd.x51) (e:=[(52,s52)]) (.cons (s52_ok W) .nil) rfl rfl ?_ (fun h=>PcOk.okL (.cons (b:=(lS Tryd.x51 52 tCod).body) (by kernel_rfl) h .nil)) ?_
 ·intro b k id b2 k2 r n i
  kernel_rfl
 ·rintro b k ⟨id,mo,r,⟨⟩⟩
  kernel_rfl
end Go.Proofs.Vd

noncomputable section
variable {V:ByteArray→Bool}{cal:Go.Ab.Lf.CallN}
namespace Go.Proofs.Vd
open Go.Ab Go.Ab.Lf
set_option maxRecDepth 100000
def altQ(a b:CallQ):CallQ:=fun f args h=>match a f args h with
 | .bad=>b f args h
 |t=>t
theorem altQ_ok{a b:CallQ}(ha:SimC a cal)(hb:SimC b cal):SimC (altQ a b) cal:=by
 intro E f args ys H h v H' hv hH e
 unfold altQ at e
 split at e
 ·exact hb E f args ys H h v H' hv hH e
 ·exact ha E f args ys H h v H' hv hH e
abbrev tM:List Ty:=[.sli tSig,.sli tImp,.sli i64,.sli tLim,.sli tLim,.sli tGlo,.sli tExp,i64,.sli tEle,.sli tCod,.sli tDat]
abbrev pM:Pat:=.ag (Ps [.im tSig,.im tImp,.im i64,.im tLim,.im tLim,.im tGlo,.im tExp,.n .i64,.im tEle,.im tCod,.im tDat])
def e18(V:ByteArray->Bool):List (Nat×Fsp):=[(28,s28),(29,sS 30 A30),(32,s32),(34,sS 35 (A35 V)),(37,sS 38 A38),(39,sS 40 A40),(43,sS 44 A44),(45,sS 46 (A46 V)),(47,s47),(48,sS 49 A49),(51,sS 52 A52),(53,sS 54 A54)]
theorem e18_ok(W:WorldV V cal):EnOk cal (e18 V):=
 .cons (s28_ok W.toWorld) (.cons (sec29_30 W) (.cons (s32_ok W.toWorld) (.cons (sec34_35 W) (.cons (sec37 W) (.cons (sec39_40 W) (.cons (sec43_44 W) (.cons (sec45_46 W) (.cons (s47_ok W.toWorld) (.cons (sec48_49 W) (.cons (sec51_52 W) (.cons (sec53_54 W) .nil)))))))))))
def c18(V:ByteArray->Bool):CallQ:=altQ (inD (e18 V) 3) (inD [(39,sS 42 A42)] 3)
theorem c18_ok(W:WorldV V cal):SimC (c18 V) cal:=altQ_ok (W.toWorld.in (e18_ok W) 3) (W.toWorld.in (.cons (sec39_42 W) .nil) 3)
def wSec{t:Ty}(A:Item (den t))(id most:Int)(l:List (den t)):WrF:=wT (allB A.ok l) (21+wtL A.wt l) (FS A (id,most,l,()))
theorem wSec_wr{t:Ty}(A:Item (den t))(id most:Int)(l:List (den t))(h:allB A.ok l=true):Wr (21+wtL A.wt l) (wSec A id most l):=wT_wr (FS_wr A (id,most,l,()) h) h
def F18b(y:denT tM):WrF:=fun α s K=>wSec A49 9 512 y.2.2.2.2.2.2.2.2.1 α s fun s=>wSec A52 10 512 y.2.2.2.2.2.2.2.2.2.1 α s fun s=>wSec A54 11 512 y.2.2.2.2.2.2.2.2.2.2.1 α s K
def F18(V:ByteArray->Bool)(y:denT tM):WrF:=fun α s K=>wMust (decide ((y.2.2.1.length:Int)=(y.2.2.2.2.2.2.2.2.2.1.length:Int))) α s fun s=>
 wSec A30 1 256 y.1 α s fun s=>wSec (A35 V) 2 512 y.2.1 α s fun s=>wSec A38 3 512 y.2.2.1 α s fun s=>wSec A40 4 512 y.2.2.2.1 α s fun s=>wSec A42 5 512 y.2.2.2.2.1 α s fun s=>wSec A44 6 512 y.2.2.2.2.2.1 α s fun s=>wSec (A46 V) 7 512 y.2.2.2.2.2.2.1 α s fun s=>
 wMust (decide (-1<=y.2.2.2.2.2.2.2.1)) α s fun s=>bif decide (0<=y.2.2.2.2.2.2.2.1)then
  wNums [y.2.2.2.2.2.2.2.1] α ([],false) fun p=>wT true (wt47 (8,p.1,p.2,())) (F47 (8,p.1,p.2,())) α s fun s=>F18b y α s K
 else F18b y α s K
def kEnc(s:St):Option (List Pl):=bif s.2 then some (ofT [.sli u8,i64] ([],1,()))else bif decide (16384<(s.1.length:Int))then some (ofT [.sli u8,i64] ([],4,()))else some (ofT [.sli u8,i64] (s.1,0,()))
def s0:St:=([0,97,115,109,1,0,0,0],false)
theorem F18_eq(V:ByteArray->Bool)(y:denT tM):(fnT (Ps [pM]) [] (Ps [.tu (Ps [.ow u8,.n .i64])]) (fun _=>none) Tryd.x18 3 (c18 V) (ofT tM y)).val=F18 V y _ s0 kEnc:=by
 obtain⟨t,im,fs,tb,me,gl,ex,st,el,co,da,⟨⟩⟩:=y
 kernel_rfl
end Go.Proofs.Vd

noncomputable section
variable {V:ByteArray→Bool}{cal:Go.Ab.Lf.CallN}
namespace Go.Proofs.Vd
open Go.Ab Go.Ab.Lf
set_option maxRecDepth 100000
def okM(V:ByteArray->Bool)(y:denT tM):Bool:=
 (allB A30.ok y.1&&(allB (A35 V).ok y.2.1&&(allB A38.ok y.2.2.1&&(allB A40.ok y.2.2.2.1&&(allB A42.ok y.2.2.2.2.1&&(allB A44.ok y.2.2.2.2.2.1&&(allB (A46 V).ok y.2.2.2.2.2.2.1&&
 (allB A49.ok y.2.2.2.2.2.2.2.2.1&&(allB A52.ok y.2.2.2.2.2.2.2.2.2.1&&allB A54.ok y.2.2.2.2.2.2.2.2.2.2.1)))))))))
def wt18b(y:denT tM):Nat:=(21+wtL A49.wt y.2.2.2.2.2.2.2.2.1)+((21+wtL A52.wt y.2.2.2.2.2.2.2.2.2.1)+(21+wtL A54.wt y.2.2.2.2.2.2.2.2.2.2.1))
def wt18(V:ByteArray->Bool)(y:denT tM):Nat:=0+((21+wtL A30.wt y.1)+((21+wtL (A35 V).wt y.2.1)+((21+wtL A38.wt y.2.2.1)+((21+wtL A40.wt y.2.2.2.1)+((21+wtL A42.wt y.2.2.2.2.1)+((21+wtL A44.wt y.2.2.2.2.2.1)+((21+wtL (A46 V).wt y.2.2.2.2.2.2.1)+(0+(21+wt18b y)))))))))
def wStart(n:Int):WrF:=fun α s K=>wNums [n] α ([],false) fun p=>wT true (wt47 (8,p.1,p.2,())) (F47 (8,p.1,p.2,())) α s K
theorem wStart_wr(n:Int):Wr 21 (wStart n):=by
 intro s hs
 have hn:=mNums_len [n] ([],false)
 have hn:(mNums ([],false) [n]).1.length<=10:=by simpa using hn
 obtain⟨s',h1,h2⟩:=(wT_wr (F47_wr (8,(mNums ([],false) [n]).1,(mNums ([],false) [n]).2,())) rfl).le (m:=21) (by show 0+(1+(10+(mNums ([],false) [n]).1.length))<=21;omega) s hs
 exact⟨s',h1,fun α K=>Eq.trans rfl (h2 α K)⟩
theorem F18b_wr(y:denT tM)(h1:allB A49.ok y.2.2.2.2.2.2.2.2.1=true)(h2:allB A52.ok y.2.2.2.2.2.2.2.2.2.1=true)(h3:allB A54.ok y.2.2.2.2.2.2.2.2.2.2.1=true):Wr (wt18b y) (F18b y):=
 (wSec_wr A49 9 512 _ h1).seq ((wSec_wr A52 10 512 _ h2).seq (wSec_wr A54 11 512 _ h3))
theorem F18_wr(V:ByteArray->Bool)(y:denT tM)(h:okM V y=true):Wr (wt18 V y) (F18 V y):=by
 unfold okM at h
 simp only[Bool.and_eq_true]at h
 obtain⟨h1,h2,h3,h4,h5,h6,h7,h8,h9,h10⟩:=h
 exact(wMust_wr _).seq ((wSec_wr A30 1 256 _ h1).seq ((wSec_wr (A35 V) 2 512 _ h2).seq ((wSec_wr A38 3 512 _ h3).seq ((wSec_wr A40 4 512 _ h4).seq ((wSec_wr A42 5 512 _ h5).seq ((wSec_wr A44 6 512 _ h6).seq ((wSec_wr (A46 V) 7 512 _ h7).seq
  ((wMust_wr _).seq (.bif ((wStart_wr _).seq (F18b_wr y h8 h9 h10)) ((F18b_wr y h8 h9 h10).le (Nat.le_add_left _ _)))))))))))
def mEnc(V:ByteArray->Bool)(y:denT tM):St:=mW (F18 V y) s0
def mEncE(V:ByteArray->Bool)(y:denT tM):Int:=bif (mEnc V y).2 then 1 else bif decide (16384<((mEnc V y).1.length:Int))then 4 else 0
def mEncB(V:ByteArray->Bool)(y:denT tM):List Int:=bif (mEnc V y).2 then []else bif decide (16384<((mEnc V y).1.length:Int))then []else(mEnc V y).1
def okE(V:ByteArray->Bool)(y:denT tM):Bool:=okM V y&&decide (8+wt18 V y<=1099511627776)
def s18(V:ByteArray->Bool):Fsp:=mkF (Ps [pM]) [] (Ps [.tu (Ps [.ow u8,.n .i64])]) tM [.sli u8,i64] fun y=>.ck (okE V y) (.ok (mEncB V y,mEncE V y,()))
theorem s18_ok(W:WorldV V cal):(s18 V).Ok 18 cal:=by
 refine mkF_ok (c18_ok W) (W.st 18 _ rfl) rfl (okL_none _) (m:=3) rfl ?_
 intro y q h
 obtain⟨h1,h2⟩:=Lf.T.ck_some h
 cases h2
 rw[F18_eq]
 unfold okE at h1
 simp only[Bool.and_eq_true,decide_eq_true_eq]at h1
 refine((mW_eq (F18_wr V y h1.1) (s:=s0) h1.2).2 _ kEnc).trans ?_
 show kEnc (mEnc V y)=_
 unfold kEnc mEncB mEncE
 cases(mEnc V y).2 with
 |true=>rfl
 |false=>cases decide (16384<((mEnc V y).1.length:Int))<;>rfl
end Go.Proofs.Vd
