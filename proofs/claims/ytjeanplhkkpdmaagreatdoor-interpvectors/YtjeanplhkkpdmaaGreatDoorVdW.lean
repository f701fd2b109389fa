import Derived.Test.YtjeanplhkkpdmaaGreatDoorVbI
noncomputable section
namespace Go.Proofs.Vd
open Go.Ab Go.Ab.Lf
set_option maxRecDepth 100000
abbrev St:=List Int×Bool
abbrev wc:= ∀ α:Type,St->(St->Option α)->Option α
def Wr(n:Nat)(F:wc):Prop:= ∀ s:St,s.1.length+n<=1099511627776-> ∃ s':St,s'.1.length<=s.1.length+n/\ ∀ α K,F α s K=K s'
theorem Wr.le{n m:Nat}{F:wc}(h:Wr n F)(hm:n<=m):Wr m F:=fun s hs=>by
 obtain⟨s',h1,h2⟩:=h s (by omega);exact⟨s',by omega,h2⟩
theorem Wr.seq{n m:Nat}{F G:wc}(h1:Wr n F)(h2:Wr m G):Wr (n+m) (fun α s K=>F α s fun s=>G α s K):=fun s hs=>by
 obtain⟨s1,a1,b1⟩:=h1 s (by omega);obtain⟨s2,a2,b2⟩:=h2 s1 (by omega);refine⟨s2,by omega,fun α K=>?_⟩;show F α s _=_;rw[b1,b2]
theorem Wr.bif{n:Nat}{c:Bool}{F G:wc}(h1:Wr n F)(h2:Wr n G):Wr n (fun α s K=>bif c then F α s K else G α s K):=by
 cases c
 ·exact h2
 ·exact h1
theorem Wr.nop:Wr 0 (fun _ s K=>K s):=fun s _=>⟨s,Nat.le_refl _,fun _ _=>rfl⟩
def qd(c:Bool):wc:=fun _ s K=>K (s.1,s.2|| !c)
theorem nB(c:Bool):Wr 0 (qd c):=fun s _=>⟨(s.1,s.2|| !c),Nat.le_refl _,fun _ _=>rfl⟩
def oZ(l:List Int):wc:=fun _ s K=>cy (decide (s.1.length+l.length<=1099511627776)) (K (s.1++l,s.2))
theorem mA(l:List Int):Wr l.length (oZ l):=fun s h=>⟨(s.1++l,s.2),by simp,fun _ K=>by unfold oZ cy;rw[decide_eq_true h];rfl⟩
theorem we(l:List Int): ∀ s:St,(jU s l).1.length<=s.1.length+10*l.length:=by
 induction l with
 |nil=>intro s;simp[jU]
 |cons x l ih=>
  intro s;have:=ih (BR s x);have h:=qZ (cI .u64 x);have e:jU s (x::l)=jU (BR s x) l:=rfl;rw[e]
  have e2:(BR s x).1.length=s.1.length+(qc (cI .u64 x)).length:=by simp[BR]
  simp only[List.length_cons];omega
theorem Gl(l:List Int): ∀ s:St,(mG s l).1.length=s.1.length+l.length:=by
 induction l with
 |nil=>intro s;simp[mG]
 |cons x l ih=>
  intro s;have:=ih (w8 s x);have e:mG s (x::l)=mG (w8 s x) l:=rfl;rw[e]
  have e2:(w8 s x).1.length=s.1.length+1:=by simp[w8]
  simp only[List.length_cons];omega
def oB(l:List Int):wc:=fun _ s K=>cy (decide (s.1.length+10*l.length<=1099511627776)) (K (jU s l))
theorem mH(l:List Int):Wr (10*l.length) (oB l):=fun s h=>⟨jU s l,we l s,fun _ K=>by unfold oB cy;rw[decide_eq_true h];rfl⟩
def Ar(l:List Int):wc:=fun _ s K=>cy (decide (s.1.length+l.length<=1099511627776)) (K (mG s l))
theorem C7(l:List Int):Wr l.length (Ar l):=fun s h=>⟨mG s l,Nat.le_of_eq (Gl l s),fun _ K=>by unfold Ar cy;rw[decide_eq_true h];rfl⟩
def Hm(l:List Int):wc:=fun _ s K=>cy (roomy 1 (s.1.length+l.length)) (K (app s.1 l,s.2))
theorem JK(l:List Int):Wr l.length (Hm l):=fun s h=>⟨(s.1++l,s.2),by simp,fun _ K=>by unfold Hm cy;rw[jW (by omega) h,cZ];rfl⟩
def mW(F:wc)(s:St):St:=(F St s some).getD s
theorem Ij{n:Nat}{F:wc}(h:Wr n F){s:St}(hs:s.1.length+n<=1099511627776):(mW F s).1.length<=s.1.length+n/\ ∀ α K,F α s K=K (mW F s):=by
 obtain⟨s',h1,h2⟩:=h s hs
 have e:mW F s=s':=by unfold mW;rw[h2];rfl
 rw[e];exact⟨h1,h2⟩
def wT(ok:Bool)(n:Nat)(F:wc):wc:=fun _ s K=>cy (ok&&decide (s.1.length+n<=1099511627776)) (K (mW F s))
theorem tZ{ok:Bool}{n:Nat}{F:wc}(h:Wr n F)(ho:ok=true):Wr n (wT ok n F):=fun s hs=>⟨mW F s,(Ij h hs).1,fun _ K=>by unfold wT cy;rw[ho,decide_eq_true hs];rfl⟩
abbrev k3(s:St):Option (List Pl):=some (cg [.cq u8,.bool] (s.1,s.2,()))
abbrev qW:n9:=Ps [.tu .nil,oc 2]
def zq(A:n9)(ta:List Ty)(F:ca ta->wc)(wt:ca ta->Nat)(ok:ca ta->Bool):jJ:=
 kR (.cons (oc 0) A) [2] qW (.cq u8::.bool::ta) [.cq u8,.bool] fun x=>.ck (ok x.2.2&&decide (x.1.length+wt x.2.2<=1099511627776)) (.ok ((mW (F x.2.2) (x.1,x.2.1)).1,(mW (F x.2.2) (x.1,x.2.1)).2,()))
theorem nT{call:lL}{cb:cx}(C:vu call cb){f:FuncId}{b:Cv}(hb:sJ cb f b)(vU:Nat.ble b.ntmps 512=true){L:Nat->Option mB}(hL:pH Rx.w cb L b.code){m:Nat}{A:n9}{ta:List Ty}{F:ca ta->wc}{wt:ca ta->Nat}{ok:ca ta->Bool}
 (hW: ∀ y,ok y=true->Wr (wt y) (F y))(ht: ∀ b1 k y,(mN (.cons (oc 0) A) [2] qW L b m call (cg (.cq u8::.bool::ta) (b1,k,y))).val=F y _ (b1,k) k3):(zq A ta F wt ok).Ok f cb:=by
 refine j4 C hb vU hL (m:=m) rfl ?_;rintro⟨b1,k,y⟩ q h;obtain⟨h1,h2⟩:=Lf.T.cw h;cases h2;simp only[Bool.and_eq_true,decide_eq_true_eq]at h1;rw[ht];exact(Ij (hW y h1.1) h1.2).2 _ k3
def Uh(y:ca [.cq tI]):wc:=fun _ s K=>cy (wI y.1) (cy (roomy 1 (s.1.length+(wb y.1).length)) (K (app s.1 (wb y.1),s.2|| !(decide (uI y.1=0)))))
theorem C8(y:ca [.cq tI])(h:wI y.1=true):Wr (xI y.1) (Uh y):=fun s hs=>by
 have h':=h;simp only[wI,Bool.and_eq_true,decide_eq_true_eq]at h';have hl:=Gk y.1 h'.1;exact⟨(s.1++wb y.1,s.2|| !(decide (uI y.1=0))),by simp;omega,fun _ K=>by unfold Uh cy;rw[h,jW (by omega) (by omega),cZ];rfl⟩
def s50:jJ:=zq (Ps [.im tI]) [.cq tI] Uh (fun y=>xI y.1) (fun y=>wI y.1)
def e50:List (Nat×jJ):=[(109,s28),(164,s67)]
theorem al6{cb:cx}(W:World cb):j1 cb e50:=.cons (yj W) (.cons (al5 W) .nil)
theorem Xw{cb:cx}(W:World cb):s50.Ok 131 cb:=by
 refine nT (W.in (al6 W) 3) (W.st 131 _ rfl) rfl (cp _) (m:=3) C8 ?_;rintro b k ⟨c,⟨⟩⟩
 kernel_rfl
def gNo:Bool:=false
def Ik(s:ByteArray):Bool:=decide (s.size<=9223372036854775807)&&gNo
def s66(V:ByteArray->Bool):jJ:=kR (Ps [.st]) [] (Ps [.bo]) [.str] [.bool] fun x=>.ck (Ik x.1) (.ok (V x.1,()))
structure WorldV(V:ByteArray->Bool)(cb:cx):Prop extends World cb where
 vs:(s66 V).Ok 163 cb
def eW:List (Nat×jJ):=[(109,s28),(112,s31),(113,s32),(114,s33),(131,s50)]
theorem QE{cb:cx}(W:World cb):j1 cb eW:=.cons (yj W) (.cons (OO W) (.cons (Gf W) (.cons (Xk W) (.cons (Xw W) .nil))))
def F44(y:ca [i64,.bool,.cq tI]):wc:=fun α s K=>Ar [y.1] α s fun s=>bif y.2.1 then oZ [1] α s fun s=>wT (wI y.2.2.1) (xI y.2.2.1) (Uh y.2.2) α s K else oZ [0] α s fun s=>wT (wI y.2.2.1) (xI y.2.2.1) (Uh y.2.2) α s K
def al7(y:ca [i64,.bool,.cq tI]):Nat:=1+(1+xI y.2.2.1)
theorem Xx(y:ca [i64,.bool,.cq tI])(h:wI y.2.2.1=true):Wr (al7 y) (F44 y):=
 (C7 [y.1]).seq (.bif ((mA [1]).seq (tZ (C8 y.2.2 h) h)) ((mA [0]).seq (tZ (C8 y.2.2 h) h)))
def s44:jJ:=zq (Ps [.ag (Ps [.n .i64,.bo,.im tI])]) [i64,.bool,.cq tI] F44 al7 fun y=>wI y.2.2.1
theorem al8{cb:cx}(W:World cb):s44.Ok 125 cb:=by
 refine nT (W.in (QE W) 3) (W.st 125 _ rfl) rfl (cp _) (m:=3) Xx ?_;rintro b k ⟨t,m,c,⟨⟩⟩
 kernel_rfl
def F41(y:ca [i64,i64,i64]):wc:=fun α s K=>qd (decide (y.1<=y.2.2.1)) α s fun s=>bif decide (y.2.1= -1)then oZ [0] α s fun s=>oB [y.1] α s K else oZ [1] α s fun s=>oB [y.1,y.2.1] α s K
theorem JL(y:ca [i64,i64,i64]):Wr 21 (F41 y):=
 ((nB _).seq (.bif (((mA [0]).seq (mH [y.1])).le (m:=21) (by simp)) ((mA [1]).seq (mH [y.1,y.2.1])))).le (by simp)
def s41:jJ:=zq (Ps [.ag (Ps [.n .i64,.n .i64]),.n .i64]) [i64,i64,i64] F41 (fun _=>21) fun _=>true
theorem al9{cb:cx}(W:World cb):s41.Ok 122 cb:=by
 refine nT (W.in (QE W) 3) (W.st 122 _ rfl) rfl (cp _) (m:=3) (fun y _=>JL y) ?_;rintro b k ⟨mi,ma,mo,⟨⟩⟩
 kernel_rfl
def F47(y:ca [u8,.cq u8,.bool]):wc:=fun α s K=>qd (!y.2.2.1) α s fun s=>oZ [y.1] α s fun s=>oB [(y.2.1.length:Int)] α s fun s=>Hm y.2.1 α s K
def DZ(y:ca [u8,.cq u8,.bool]):Nat:=0+(1+(10+y.2.1.length))
theorem OR(y:ca [u8,.cq u8,.bool]):Wr (DZ y) (F47 y):=(nB _).seq ((mA [y.1]).seq ((mH [(y.2.1.length:Int)]).seq (JK y.2.1)))
def s47:jJ:=zq (Ps [.n .u8,oc 0]) [u8,.cq u8,.bool] F47 DZ fun _=>true
theorem OS{cb:cx}(W:World cb):s47.Ok 128 cb:=by
 refine nT (W.in (QE W) 3) (W.st 128 _ rfl) rfl (cp _) (m:=3) (fun y _=>OR y) ?_;rintro b k ⟨id,b2,k2,⟨⟩⟩
 kernel_rfl
def mSt(s:ByteArray):List Int:=s.data.toList.map fun b=>Int.ofNat b.toNat
theorem QF(s:ByteArray):(mSt s).length=s.size:=by unfold mSt;rw[List.length_map];rfl
def Xy(V:ByteArray->Bool)(y:ca [.str]):wc:=fun α s K=>cy (Ik y.1)<|qd (V y.1) α s fun s=>oB [(y.1.size:Int)] α s fun s=>Hm (mSt y.1) α s K
def BU(y:ca [.str]):Nat:=10+y.1.size
theorem Gm(V:ByteArray->Bool)(y:ca [.str])(hg:Ik y.1=true):Wr (BU y) (Xy V y):=by
 have e:Xy V y=fun α s K=>qd (V y.1) α s fun s=>oB [(y.1.size:Int)] α s fun s=>Hm (mSt y.1) α s K:=by
  unfold Xy;rw[hg];rfl
 rw[e];refine((nB (V y.1)).seq ((mH [(y.1.size:Int)]).seq (JK (mSt y.1)))).le ?_;rw[QF];unfold BU;simp only[List.length_cons,List.length_nil];omega
def s36(V:ByteArray->Bool):jJ:=zq (Ps [.st]) [.str] (Xy V) BU fun y=>Ik y.1
def e36(V:ByteArray->Bool):List (Nat×jJ):=[(109,s28),(113,s32),(163,s66 V)]
theorem al'{V cb}(W:WorldV V cb):j1 cb (e36 V):=.cons (yj W.toWorld) (.cons (Gf W.toWorld) (.cons W.vs .nil))
theorem ama{V cb}(W:WorldV V cb):(s36 V).Ok 117 cb:=by
 refine nT (W.toWorld.in (al' W) 3) (W.st 117 _ rfl) rfl (cp _) (m:=3) (fun y h=>Gm V y h) ?_;rintro b k ⟨s,⟨⟩⟩
 kernel_rfl
def eV(V:ByteArray->Bool):List (Nat×jJ):=[(109,s28),(112,s31),(113,s32),(114,s33),(117,s36 V),(122,s41),(128,s47),(131,s50)]
theorem DI{V cb}(W:WorldV V cb):j1 cb (eV V):=.cons (yj W.toWorld) (.cons (OO W.toWorld) (.cons (Gf W.toWorld) (.cons (Xk W.toWorld) (.cons (ama W) (.cons (al9 W.toWorld) (.cons (OS W.toWorld) (.cons (Xw W.toWorld) .nil)))))))
def R30(y:ca [.cq i64,.cq i64]):wc:=fun α s K=>oZ [96] α s fun s=>oB [(y.1.length:Int)] α s fun s=>Ar y.1 α s fun s=>oB [(y.2.1.length:Int)] α s fun s=>Ar y.2.1 α s K
def F30(y:ca [.cq i64,.cq i64]):wc:=fun α s K=>bif decide ((y.1.length:Int)<=32)then qd (decide ((y.2.1.length:Int)<=32)) α s fun s=>R30 y α s K else qd false α s fun s=>R30 y α s K
def amb(y:ca [.cq i64,.cq i64]):Nat:=0+(1+(10+(y.1.length+(10+y.2.1.length))))
theorem Xz(y:ca [.cq i64,.cq i64]):Wr (1+(10+(y.1.length+(10+y.2.1.length)))) (R30 y):=(mA [96]).seq ((mH [(y.1.length:Int)]).seq ((C7 y.1).seq ((mH [(y.2.1.length:Int)]).seq (C7 y.2.1))))
theorem XA(y:ca [.cq i64,.cq i64]):Wr (amb y) (F30 y):=.bif ((nB _).seq (Xz y)) ((nB _).seq (Xz y))
def s30:jJ:=zq (Ps [.ag (Ps [.im i64,.im i64])]) [.cq i64,.cq i64] F30 amb fun _=>true
theorem amc{V cb}(W:WorldV V cb):s30.Ok 111 cb:=by
 refine nT (W.toWorld.in (DI W) 3) (W.st 111 _ rfl) rfl (cp _) (m:=3) (fun y _=>XA y) ?_;rintro b k ⟨i,o,⟨⟩⟩
 kernel_rfl
def F35(V:ByteArray->Bool)(y:ca [.str,.str,i64]):wc:=fun α s K=>wT (Ik y.1) (BU (y.1,())) (Xy V (y.1,())) α s fun s=>wT (Ik y.2.1) (BU (y.2.1,())) (Xy V (y.2.1,())) α s fun s=>oZ [0] α s fun s=>oB [y.2.2.1] α s K
def amd(y:ca [.str,.str,i64]):Nat:=BU (y.1,())+(BU (y.2.1,())+(1+10))
theorem XB(V:ByteArray->Bool)(y:ca [.str,.str,i64])(hg:(Ik y.1&&Ik y.2.1)=true):Wr (amd y) (F35 V y):=(tZ (Gm V (y.1,()) (Bool.and_eq_true _ _▸hg).1) (Bool.and_eq_true _ _▸hg).1).seq ((tZ (Gm V (y.2.1,()) (Bool.and_eq_true _ _▸hg).2) (Bool.and_eq_true _ _▸hg).2).seq ((mA [0]).seq (mH [y.2.2.1])))
def s35(V:ByteArray->Bool):jJ:=zq (Ps [.ag (Ps [.st,.st,.n .i64])]) [.str,.str,i64] (F35 V) amd fun y=>Ik y.1&&Ik y.2.1
theorem ame{V cb}(W:WorldV V cb):(s35 V).Ok 116 cb:=by
 refine nT (W.toWorld.in (DI W) 3) (W.st 116 _ rfl) rfl (cp _) (m:=3) (fun y h=>XB V y h) ?_;rintro b k ⟨m,n,t,⟨⟩⟩
 kernel_rfl
def F38(y:ca [i64]):wc:=oB [y.1]
def s38:jJ:=zq (Ps [.n .i64]) [i64] F38 (fun _=>10) fun _=>true
theorem As{V cb}(W:WorldV V cb):s38.Ok 119 cb:=by
 refine nT (W.toWorld.in (DI W) 3) (W.st 119 _ rfl) rfl (cp _) (m:=3) (fun y _=>mH [y.1]) ?_;rintro b k ⟨n,⟨⟩⟩
 kernel_rfl
def F40(y:ca [i64,i64]):wc:=fun α s K=>oZ [112] α s fun s=>wT true 21 (F41 (y.1,y.2.1,1024,())) α s K
theorem XC(y:ca [i64,i64]):Wr 22 (F40 y):=(mA [112]).seq (tZ (JL _) rfl)
def s40:jJ:=zq (Ps [.ag (Ps [.n .i64,.n .i64])]) [i64,i64] F40 (fun _=>22) fun _=>true
theorem amf{V cb}(W:WorldV V cb):s40.Ok 121 cb:=by
 refine nT (W.toWorld.in (DI W) 3) (W.st 121 _ rfl) rfl (cp _) (m:=3) (fun y _=>XC y) ?_;rintro b k ⟨mi,ma,⟨⟩⟩
 kernel_rfl
def F42(y:ca [i64,i64]):wc:=wT true 21 (F41 (y.1,y.2.1,16,()))
def s42:jJ:=zq (Ps [.ag (Ps [.n .i64,.n .i64])]) [i64,i64] F42 (fun _=>21) fun _=>true
theorem amg{V cb}(W:WorldV V cb):s42.Ok 123 cb:=by
 refine nT (W.toWorld.in (DI W) 3) (W.st 123 _ rfl) rfl (cp _) (m:=3) (fun y _=>tZ (JL _) rfl) ?_;rintro b k ⟨mi,ma,⟨⟩⟩
 kernel_rfl
abbrev tS(t:Ty):List Ty:=[.cq u8,.bool,u8,.cq u8,.bool,.cq t,i64,i64]
abbrev tSo:List Ty:=[.cq u8,.bool,u8,.cq u8,.bool]
def lS(x:Cv)(f:FuncId)(t:Ty):qV:=⟨0,mV x.code 0,[0,1,4,10,33,34,35],Ps [oc 2,.n .u8,.fn f .nil,oc 0,.im t,.n .i64,.n .i64],[⟨.s7,[0,1,10],Ps [oc 2,.n .u8,oc 0]⟩]⟩
def At{α:Type}(G:α->wc)(s:St)(l:List α):St:=l.foldl (fun s x=>mW (G x) s) s
def rE{α:Type}(wt:α->Nat)(l:List α):Nat:=l.foldr (fun x n=>wt x+n) 0
theorem ym{α:Type}(wt:α->Nat)(x:α)(l:List α):rE wt (x::l)=wt x+rE wt l:=rfl
structure Item(α:Type) where
 G:α->wc
 wt:α->Nat
 ok:α->Bool
 wr: ∀ x,ok x=true->Wr (wt x) (G x)
 pos: ∀ x,1<=wt x
theorem Item.len{α:Type}(A:Item α)(l:List α):l.length<=rE A.wt l:=by
 induction l with
 |nil=>exact Nat.le_refl _
 |cons x l ih=>rw[ym];have:=A.pos x;simp only[List.length_cons];omega
theorem Item.row{α:Type}(A:Item α)(l:List α)(h:jC A.ok l=true): ∀ s:St,s.1.length+rE A.wt l<=1099511627776->(At A.G s l).1.length<=s.1.length+rE A.wt l:=by
 induction l with
 |nil=>intro s _;exact Nat.le_refl _
 |cons x l ih=>
  intro s hs;obtain⟨h1,h2⟩:=qz h;rw[ym]at hs ⊢;have k:=(Ij (A.wr x h1) (s:=s) (by omega)).1;have:=ih h2 (mW (A.G x) s) (by omega);show(At A.G (mW (A.G x) s) l).1.length<=_;omega
def JM{t:Ty}(l:qV)(call:lL)(A:Item (den t)):Prop:= ∀ b k id b2 k2 (r:List (den t)) n i,(l.step (fun _=>none) call 3 (cg (tS t) (b,k,id,b2,k2,r,n,i,()))).val=
 bif decide (i<n)then bif jA i (Int.ofNat r.length)then bif (A.ok (r.getD i.toNat (cr t))&&decide (b2.length+A.wt (r.getD i.toNat (cr t))<=1099511627776))then
  some (Rs.next (cg (tS t) (b,k,id,(mW (A.G (r.getD i.toNat (cr t))) (b2,k2)).1,(mW (A.G (r.getD i.toNat (cr t))) (b2,k2)).2,r,n,jR .i64 i 1,())))else none else none else some (Rs.out 0 (cg tSo (b,k,id,b2,k2,())))
theorem adG{t:Ty}{l:qV}{call:lL}{A:Item (den t)}(hs:JM l call A)(b:List Int)(k:Bool)(id:Int)(b2:List Int)(k2:Bool)(r:List (den t))(h1:jC A.ok r=true)(h2:b2.length+rE A.wt r<=1099511627776):
 oU (l.step (fun _=>none) call 3) (cg (tS t) (b,k,id,b2,k2,r,(r.length:Int),0,())) 0 (cg tSo (b,k,id,(At A.G (b2,k2) r).1,(At A.G (b2,k2) r).2,())):=by
 have hl:=A.len r;have:=SL (f:=l.step (fun _=>none) call 3) (l:=r) (fun(q:St) j=>cg (tS t) (b,k,id,q.1,q.2,r,(r.length:Int),(j:Int),())) (fun q x=>.inl (mW (A.G x) q)) (fun q=>(0,cg tSo (b,k,id,q.1,q.2,())))
  (fun q u=>jC A.ok u=true/\q.1.length+rE A.wt u<=1099511627776) (fun q j x u h hi=>by
  obtain⟨b2,k2⟩:=q;obtain⟨e1,e2⟩:=kq h (cr t);obtain⟨a0,a3⟩:=hi;obtain⟨a1,a2⟩:=qz a0;rw[ym]at a3
  have hj:j<4611686018427387904:=by omega
  have a3:b2.length+(A.wt x+rE A.wt u)<=1099511627776:=a3
  have a4:b2.length+A.wt x<=1099511627776:=by omega
  have hm:=(Ij (A.wr x a1) (s:=(b2,k2)) a4).1;refine⟨?_,fun s' e=>?_⟩
  ·rw[hs,kY e1,cond_true,kF e1,cond_true,Int.toNat_natCast,e2,rM hj,a1,decide_eq_true a4];rfl
  ·cases e;refine⟨a2,?_⟩;have hm:(mW (A.G x) (b2,k2)).1.length<=b2.length+A.wt x:=hm;omega) (fun q j h hj hi=>by
  have:j=r.length:=by have:=List.drop_eq_nil_iff.1 h;omega
  subst this;rw[hs,km (Nat.le_refl _)]
  rfl) r 0 (b2,k2) rfl (by omega) ⟨h1,h2⟩
 rw[mP]at this;exact this
def gS{t:Ty}(A:Item (den t)):ca (tS t)->T (Nat×List Pl):=fun x=>.ck ((decide (x.2.2.2.2.2.2.1=(x.2.2.2.2.2.1.length:Int))&&decide (x.2.2.2.2.2.2.2.1=0))&&(jC A.ok x.2.2.2.2.2.1&&decide (x.2.2.2.1.length+rE A.wt x.2.2.2.2.2.1<=1099511627776)))
 (.ok (0,cg tSo (x.1,x.2.1,x.2.2.1,(At A.G (x.2.2.2.1,x.2.2.2.2.1) x.2.2.2.2.2.1).1,(At A.G (x.2.2.2.1,x.2.2.2.2.1) x.2.2.2.2.2.1).2,())))
theorem as6{t:Ty}{l:qV}{call:lL}{A:Item (den t)}(hs:JM l call A)(x:ca (tS t))(k:Nat)(q:List Pl)(h:(gS A x).val=some (k,q)):oU (l.step (fun _=>none) call 3) (cg (tS t) x) k q:=by
 obtain⟨b,bad,id,b2,k2,r,n,i,⟨⟩⟩:=x;obtain⟨h1,h2⟩:=Lf.T.cw h;cases h2;simp only[Bool.and_eq_true,decide_eq_true_eq]at h1;obtain⟨⟨b1,Uf⟩,b3,b4⟩:=h1;subst b1;subst Uf;exact adG hs b bad id b2 k2 r b3 b4
def FS{t:Ty}(A:Item (den t))(y:ca [u8,i64,.cq t]):wc:=fun α s K=>qd (decide ((y.2.2.1.length:Int)<=y.2.1)) α s fun s=>bif decide ((y.2.2.1.length:Int)=0)then K s else
 cy (decide (([]:List Int).length+10*[(y.2.2.1.length:Int)].length<=1099511627776)) (
  let p:=jU ([],s.2) [(y.2.2.1.length:Int)]
  let q:=At A.G p y.2.2.1
  cy ((decide ((y.2.2.1.length:Int)=(y.2.2.1.length:Int))&&decide ((0:Int)=0))&&(jC A.ok y.2.2.1&&decide (p.1.length+rE A.wt y.2.2.1<=1099511627776))) (wT true (DZ (y.1,q.1,q.2,())) (F47 (y.1,q.1,q.2,())) α s K))
def wtS{t:Ty}(A:Item (den t))(y:ca [u8,i64,.cq t]):Nat:=21+rE A.wt y.2.2.1
theorem ai4{t:Ty}(A:Item (den t))(y:ca [u8,i64,.cq t])(h:jC A.ok y.2.2.1=true):Wr (wtS A y) (FS A y):=by
 refine((nB (decide ((y.2.2.1.length:Int)<=y.2.1))).seq (n:=0) (m:=21+rE A.wt y.2.2.1) ?_).le (by unfold wtS;omega);refine .bif (Wr.nop.le (Nat.zero_le _)) ?_;intro s hs;have hp:=we [(y.2.2.1.length:Int)] ([],s.2)
 have hp:(jU ([],s.2) [(y.2.2.1.length:Int)]).1.length<=10:=by simpa using hp
 have hq:=A.row y.2.2.1 h (jU ([],s.2) [(y.2.2.1.length:Int)]) (by omega)
 have c1:(jU ([],s.2) [(y.2.2.1.length:Int)]).1.length+rE A.wt y.2.2.1<=1099511627776:=by omega
 let q:=At A.G (jU ([],s.2) [(y.2.2.1.length:Int)]) y.2.2.1
 have hq:q.1.length<=10+rE A.wt y.2.2.1:=Nat.le_trans hq (Nat.add_le_add_right hp _)
 have hw:DZ (y.1,q.1,q.2,())<=21+rE A.wt y.2.2.1:=by show 0+(1+(10+q.1.length))<=_;omega
 obtain⟨s',a1,a2⟩:=(tZ (OR (y.1,q.1,q.2,())) rfl).le hw s hs;refine⟨s',a1,fun α K=>?_⟩;refine Eq.trans ?_ (a2 α K);show cy _ (cy ((decide _&&decide _)&&(jC A.ok y.2.2.1&&decide _)) _)=_;rw[h,decide_eq_true c1];simp only[decide_true,Bool.and_self];rfl
def sS{t:Ty}(f:FuncId)(A:Item (den t)):jJ:=zq (Ps [.n .u8,.n .i64,.im t,.fn f .nil]) [u8,i64,.cq t] (FS A) (wtS A) fun y=>jC A.ok y.2.2.1
def eP:List (Nat×jJ):=[(109,s28),(113,s32),(128,s47)]
theorem as7{cb:cx}(W:World cb):j1 cb eP:=.cons (yj W) (.cons (Gf W) (.cons (OS W) .nil))
def LS{t:Ty}(b:Cv)(f:FuncId)(A:Item (den t)):Nat->Option mB:=vF [(0,w6 (lS b f t) (tS t) (gS A))]
theorem zN{cb:cx}(W:World cb){t:Ty}{f g:FuncId}{A:Item (den t)}{b:Cv}{e:List (Nat×jJ)}(he:j1 cb e)(hb:bkD g=some b)(vU:Nat.ble b.ntmps 512=true)(hs:JM (lS b f t) (j7 e 3) A)
 (hL:lE Rx.w (w6 (lS b f t) (tS t) (gS A)) (fun n d=>nO (cb n d) n (.bl 0 (.lp (lS b f t).body)))->pH Rx.w cb (LS b f A) b.code)
 (ht: ∀ b1 k y,(mN (.cons (oc 0) (Ps [.n .u8,.n .i64,.im t,.fn f .nil])) [2] qW (LS b f A) b 3 (j7 eP 3) (cg (.cq u8::.bool:: [u8,i64,.cq t]) (b1,k,y))).val=FS A y _ (b1,k) k3):(sS f A).Ok g cb:=
 nT (W.in (as7 W) 3) (W.st g _ hb) vU (hL (oW (W.in he 3) (cp _) (m:=3) (as6 hs))) (m:=3) (ai4 A) ht
def XD:Item (den i64):=⟨fun x=>F38 (x,()),fun _=>10,fun _=>true,fun x _=>mH [x],fun _=>by decide⟩
theorem as8{V cb}(W:WorldV V cb):(sS 119 XD).Ok 118 cb:=by
 refine zN W.toWorld (b:=Tryz.alp) (e:=[(119,s38)]) (.cons (As W) .nil) rfl rfl ?_ (fun h=>mz.pH (.cons (b:=(lS Tryz.alp 119 i64).body) (by kernel_rfl) h .nil)) ?_
 ·intro b k id b2 k2 r n i
  kernel_rfl
 ·rintro b k ⟨id,mo,r,⟨⟩⟩
  kernel_rfl
def F46(V:ByteArray->Bool)(y:ca [.str,i64,i64]):wc:=fun α s K=>bif decide (0<=y.2.1)then(qd (decide (y.2.1<=3)) α s fun s=>wT (Ik y.1) (BU (y.1,())) (Xy V (y.1,())) α s fun s=>oZ [cI .u8 y.2.1] α s fun s=>oB [y.2.2.1] α s K)
 else(qd false α s fun s=>wT (Ik y.1) (BU (y.1,())) (Xy V (y.1,())) α s fun s=>oZ [cI .u8 y.2.1] α s fun s=>oB [y.2.2.1] α s K)
def amh(y:ca [.str,i64,i64]):Nat:=0+(BU (y.1,())+(1+10))
theorem XE(V:ByteArray->Bool)(y:ca [.str,i64,i64])(hg:Ik y.1=true):Wr (amh y) (F46 V y):=.bif ((nB _).seq ((tZ (Gm V (y.1,()) hg) hg).seq ((mA [_]).seq (mH [y.2.2.1])))) ((nB _).seq ((tZ (Gm V (y.1,()) hg) hg).seq ((mA [_]).seq (mH [y.2.2.1]))))
def s46(V:ByteArray->Bool):jJ:=zq (Ps [.ag (Ps [.st,.n .i64,.n .i64])]) [.str,i64,i64] (F46 V) amh fun y=>Ik y.1
theorem ami{V cb}(W:WorldV V cb):(s46 V).Ok 127 cb:=by
 refine nT (W.toWorld.in (DI W) 3) (W.st 127 _ rfl) rfl (cp _) (m:=3) (fun y h=>XE V y h) ?_;rintro b k ⟨n,kd,ix,⟨⟩⟩
 kernel_rfl
def F49(y:ca [.cq tI,.cq i64]):wc:=fun α s K=>qd (decide ((y.2.1.length:Int)<=1024)) α s fun s=>oZ [0] α s fun s=>wT (wI y.1) (xI y.1) (Uh (y.1,())) α s fun s=>oB [(y.2.1.length:Int)] α s fun s=>oB y.2.1 α s K
def amj(y:ca [.cq tI,.cq i64]):Nat:=0+(1+(xI y.1+(10+10*y.2.1.length)))
theorem XF(y:ca [.cq tI,.cq i64])(h:wI y.1=true):Wr (amj y) (F49 y):=(nB _).seq ((mA [0]).seq ((tZ (C8 (y.1,()) h) h).seq ((mH [(y.2.1.length:Int)]).seq (mH y.2.1))))
def s49:jJ:=zq (Ps [.ag (Ps [.im tI,.im i64])]) [.cq tI,.cq i64] F49 amj fun y=>wI y.1
theorem amk{V cb}(W:WorldV V cb):s49.Ok 130 cb:=by
 refine nT (W.toWorld.in (DI W) 3) (W.st 130 _ rfl) rfl (cp _) (m:=3) XF ?_;rintro b k ⟨c,fs,⟨⟩⟩
 kernel_rfl
def F54(y:ca [.cq tI,.cq u8]):wc:=fun α s K=>oZ [0] α s fun s=>wT (wI y.1) (xI y.1) (Uh (y.1,())) α s fun s=>oB [(y.2.1.length:Int)] α s fun s=>oZ y.2.1 α s K
def aml(y:ca [.cq tI,.cq u8]):Nat:=1+(xI y.1+(10+y.2.1.length))
theorem XG(y:ca [.cq tI,.cq u8])(h:wI y.1=true):Wr (aml y) (F54 y):=(mA [0]).seq ((tZ (C8 (y.1,()) h) h).seq ((mH [(y.2.1.length:Int)]).seq (mA y.2.1)))
def s54:jJ:=zq (Ps [.ag (Ps [.im tI,.im u8])]) [.cq tI,.cq u8] F54 aml fun y=>wI y.1
theorem OT{V cb}(W:WorldV V cb):s54.Ok 135 cb:=by
 refine nT (W.toWorld.in (DI W) 3) (W.st 135 _ rfl) rfl (cp _) (m:=3) XG ?_;rintro b k ⟨c,fs,⟨⟩⟩
 kernel_rfl
abbrev jK:Ty:=.pair (.cq i64) (.cq i64)
abbrev kg:Ty:=.pair .str (.pair .str i64)
abbrev cF:Ty:=.pair i64 i64
abbrev jQ:Ty:=.pair i64 (.pair .bool (.cq tI))
abbrev kf:Ty:=.pair .str (.pair i64 i64)
abbrev jS:Ty:=.pair (.cq tI) (.cq i64)
abbrev jV:Ty:=.pair (.cq i64) (.cq tI)
abbrev jZ:Ty:=.pair (.cq tI) (.cq u8)
def XH:Item (den jK):=⟨fun x=>F30 (x.1,x.2,()),fun x=>amb (x.1,x.2,()),fun _=>true,fun x _=>XA _,fun x=>by show 1<=0+(1+_);omega⟩
def XI(V:ByteArray->Bool):Item (den kg):=⟨fun x=>F35 V (x.1,x.2.1,x.2.2,()),fun x=>amd (x.1,x.2.1,x.2.2,()),fun x=>Ik x.1&&Ik x.2.1,fun x h=>XB V (x.1,x.2.1,x.2.2,()) h,fun x=>by show 1<=BU _+(BU _+(1+10));omega⟩
def XJ:Item (den cF):=⟨fun x=>F40 (x.1,x.2,()),fun _=>22,fun _=>true,fun x _=>XC _,fun _=>by decide⟩
def XK:Item (den cF):=⟨fun x=>F42 (x.1,x.2,()),fun _=>21,fun _=>true,fun x _=>tZ (JL _) rfl,fun _=>by decide⟩
def XL:Item (den jQ):=⟨fun x=>F44 (x.1,x.2.1,x.2.2,()),fun x=>al7 (x.1,x.2.1,x.2.2,()),fun x=>wI x.2.2,fun x h=>Xx _ h,fun x=>by show 1<=1+_;omega⟩
def XM(V:ByteArray->Bool):Item (den kf):=⟨fun x=>F46 V (x.1,x.2.1,x.2.2,()),fun x=>amh (x.1,x.2.1,x.2.2,()),fun x=>Ik x.1,fun x h=>XE V (x.1,x.2.1,x.2.2,()) h,fun x=>by show 1<=0+(BU _+(1+10));omega⟩
def SP:Item (den jS):=⟨fun x=>F49 (x.1,x.2,()),fun x=>amj (x.1,x.2,()),fun x=>wI x.1,fun x h=>XF _ h,fun x=>by show 1<=0+(1+_);omega⟩
def SQ:Item (den jZ):=⟨fun x=>F54 (x.1,x.2,()),fun x=>aml (x.1,x.2,()),fun x=>wI x.1,fun x h=>XG _ h,fun x=>by show 1<=1+_;omega⟩
theorem XN{V cb}(W:WorldV V cb):(sS 111 XH).Ok 110 cb:=by
 refine zN W.toWorld (b:=Tryz.alk) (e:=[(111,s30)]) (.cons (amc W) .nil) rfl rfl ?_ (fun h=>mz.pH (.cons (b:=(lS Tryz.alk 111 jK).body) (by kernel_rfl) h .nil)) ?_
 ·intro b k id b2 k2 r n i
  kernel_rfl
 ·rintro b k ⟨id,mo,r,⟨⟩⟩
  kernel_rfl
theorem XO{V cb}(W:WorldV V cb):(sS 116 (XI V)).Ok 115 cb:=by
 refine zN W.toWorld (b:=Tryz.alo) (e:=[(116,s35 V)]) (.cons (ame W) .nil) rfl rfl ?_ (fun h=>mz.pH (.cons (b:=(lS Tryz.alo 116 kg).body) (by kernel_rfl) h .nil)) ?_
 ·intro b k id b2 k2 r n i
  kernel_rfl
 ·rintro b k ⟨id,mo,r,⟨⟩⟩
  kernel_rfl
theorem XP{V cb}(W:WorldV V cb):(sS 121 XJ).Ok 120 cb:=by
 refine zN W.toWorld (b:=Tryz.Xg) (e:=[(121,s40)]) (.cons (amf W) .nil) rfl rfl ?_ (fun h=>mz.pH (.cons (b:=(lS Tryz.Xg 121 cF).body) (by kernel_rfl) h .nil)) ?_
 ·intro b k id b2 k2 r n i
  kernel_rfl
 ·rintro b k ⟨id,mo,r,⟨⟩⟩
  kernel_rfl
theorem XQ{V cb}(W:WorldV V cb):(sS 123 XK).Ok 120 cb:=by
 refine zN W.toWorld (b:=Tryz.Xg) (e:=[(123,s42)]) (.cons (amg W) .nil) rfl rfl ?_ (fun h=>mz.pH (.cons (b:=(lS Tryz.Xg 123 cF).body) (by kernel_rfl) h .nil)) ?_
 ·intro b k id b2 k2 r n i
  kernel_rfl
 ·rintro b k ⟨id,mo,r,⟨⟩⟩
  kernel_rfl
theorem XR{V cb}(W:WorldV V cb):(sS 125 XL).Ok 124 cb:=by
 refine zN W.toWorld (b:=Tryz.alq) (e:=[(125,s44)]) (.cons (al8 W.toWorld) .nil) rfl rfl ?_ (fun h=>mz.pH (.cons (b:=(lS Tryz.alq 125 jQ).body) (by kernel_rfl) h .nil)) ?_
 ·intro b k id b2 k2 r n i
  kernel_rfl
 ·rintro b k ⟨id,mo,r,⟨⟩⟩
  kernel_rfl
theorem XS{V cb}(W:WorldV V cb):(sS 127 (XM V)).Ok 126 cb:=by
 refine zN W.toWorld (b:=Tryz.alr) (e:=[(127,s46 V)]) (.cons (ami W) .nil) rfl rfl ?_ (fun h=>mz.pH (.cons (b:=(lS Tryz.alr 127 kf).body) (by kernel_rfl) h .nil)) ?_
 ·intro b k id b2 k2 r n i
  kernel_rfl
 ·rintro b k ⟨id,mo,r,⟨⟩⟩
  kernel_rfl
theorem XT{V cb}(W:WorldV V cb):(sS 130 SP).Ok 129 cb:=by
 refine zN W.toWorld (b:=Tryz.alu) (e:=[(130,s49)]) (.cons (amk W) .nil) rfl rfl ?_ (fun h=>mz.pH (.cons (b:=(lS Tryz.alu 130 jS).body) (by kernel_rfl) h .nil)) ?_
 ·intro b k id b2 k2 r n i
  kernel_rfl
 ·rintro b k ⟨id,mo,r,⟨⟩⟩
  kernel_rfl
theorem XU{V cb}(W:WorldV V cb):(sS 135 SQ).Ok 134 cb:=by
 refine zN W.toWorld (b:=Tryz.alw) (e:=[(135,s54)]) (.cons (OT W) .nil) rfl rfl ?_ (fun h=>mz.pH (.cons (b:=(lS Tryz.alw 135 jZ).body) (by kernel_rfl) h .nil)) ?_
 ·intro b k id b2 k2 r n i
  kernel_rfl
 ·rintro b k ⟨id,mo,r,⟨⟩⟩
  kernel_rfl
abbrev pC2:n9:=.pt 0 (Ps [.im i64,.im tI])
abbrev tCd:List Ty:=[.cq u8,.bool,.cq i64,.cq tI,.cq u8,.bool,i64,i64,i64]
abbrev D0:List Ty:=[.cq u8,.bool,.cq i64,.cq tI,.cq u8,.bool,i64,i64]
abbrev D2:List Ty:=[.cq u8,.bool,.cq i64,.cq tI,.cq u8,.bool,i64]
abbrev amm:List Ty:=[.cq u8,.bool,.cq i64,.cq tI,.cq u8,.bool]
def Mw:qV:=⟨0,mV Tryz.Xh.code 0,[0,3,4,5,19,20],Ps [oc 2,pC2,oc 0,.n .i64,.n .i64,.n .i64],[⟨.s7,[0,3,4,5],Ps [oc 2,pC2,oc 0,.n .i64]⟩]⟩
def OU:qV:=⟨4,mV Tryz.Xh.code 4,[0,3,4,7,8],Ps [oc 2,pC2,oc 0,.n .i64,.n .i64],[⟨.s7,[0,3,4,7,8],Ps [oc 2,pC2,oc 0,.n .i64,.n .i64]⟩]⟩
def OV:qV:=⟨2,mV Tryz.Xh.code 2,[0,3,4,7],Ps [oc 2,pC2,oc 0,.n .i64],[⟨.s7,[0,3,4],Ps [oc 2,pC2,oc 0]⟩]⟩
def XV(L:List Int)(r:Int)(j:Nat):Int:=bif (bif decide ((j:Int)=0)then true else !decide (L.getD (j:Int).toNat (cr i64)=L.getD (jF .i64 (j:Int) 1).toNat (cr i64)))then jR .i64 r 1 else r
def kL(L:List Int)(r:Int):Int:=(List.range L.length).foldl (XV L) r
theorem Il(b:List Int)(k:Bool)(L:List Int)(c:List (den tI))(b2:List Int)(k2:Bool)(r n i:Int):(Mw.step (fun _=>none) (j7 eW 3) 3 (cg tCd (b,k,L,c,b2,k2,r,n,i,()))).val=
 bif decide (i<n)then bif (bif decide (i=0)then true else(jA i (Int.ofNat L.length)&&jA (jF .i64 i 1) (Int.ofNat L.length)))then
  bif (bif decide (i=0)then true else !decide (L.getD i.toNat (cr i64)=L.getD (jF .i64 i 1).toNat (cr i64)))then some (Rs.next (cg tCd (b,k,L,c,b2,k2,jR .i64 r 1,n,jR .i64 i 1,())))else some (Rs.next (cg tCd (b,k,L,c,b2,k2,r,n,jR .i64 i 1,())))else none
 else some (Rs.out 0 (cg D2 (b,k,L,c,b2,k2,r,()))):=by kernel_rfl
theorem XW(b:List Int)(k:Bool)(L:List Int)(c:List (den tI))(b2:List Int)(k2:Bool)(r:Int)(hL:L.length<=1099511627776):
 oU (Mw.step (fun _=>none) (j7 eW 3) 3) (cg tCd (b,k,L,c,b2,k2,r,(L.length:Int),0,())) 0 (cg D2 (b,k,L,c,b2,k2,kL L r,())):=by
 have:=SL (f:=Mw.step (fun _=>none) (j7 eW 3) 3) (l:=List.range L.length) (fun(q:Int) j=>cg tCd (b,k,L,c,b2,k2,q,(L.length:Int),(j:Int),())) (fun q x=>.inl (XV L q x)) (fun q=>(0,cg D2 (b,k,L,c,b2,k2,q,()))) (fun _ _=>True) (fun q j x u h _=>by
  obtain⟨e1,e2⟩:=kq h 0;have e3:x=j:=by
   rw[<-e2,List.getD_eq_getElem?_getD,List.getElem?_eq_getElem e1];simp
  subst e3;rw[List.length_range]at e1
  have hj:x<4611686018427387904:=by omega
  refine⟨?_,fun _ _=>trivial⟩;rw[Il,kY e1,cond_true,rM hj];have hc:(bif decide ((x:Int)=0)then true else(jA (x:Int) (Int.ofNat L.length)&&jA (jF .i64 (x:Int) 1) (Int.ofNat L.length)))=true:=by
   by_cases h0:x=0
   ·subst h0;rfl
   ·rw[decide_eq_false (by omega),cond_false,kF e1,JD (by omega) (by omega),kF (by omega)];rfl
  rw[hc,cond_true];unfold XV;cases(bif decide ((x:Int)=0)then true else !decide (L.getD (x:Int).toNat (cr i64)=L.getD (jF .i64 (x:Int) 1).toNat (cr i64)))<;>rfl) (fun q j h hj _=>by
  have:j=L.length:=by have:=List.drop_eq_nil_iff.1 h;rw[List.length_range]at this hj;omega
  subst this;rw[Il,km (Nat.le_refl _)]
  rfl) (List.range L.length) 0 r rfl (by rw[List.length_range];omega) trivial
 rw[mP]at this;exact this
def amn:ca tCd->T (Nat×List Pl):=fun x=>.ck ((decide (x.2.2.2.2.2.2.2.1=(x.2.2.1.length:Int))&&decide (x.2.2.2.2.2.2.2.2.1=0))&&decide (x.2.2.1.length<=1099511627776)) (.ok (0,cg D2 (x.1,x.2.1,x.2.2.1,x.2.2.2.1,x.2.2.2.2.1,x.2.2.2.2.2.1,kL x.2.2.1 x.2.2.2.2.2.2.1,())))
theorem adH(x:ca tCd)(k:Nat)(q:List Pl)(h:(amn x).val=some (k,q)):oU (Mw.step (fun _=>none) (j7 eW 3) 3) (cg tCd x) k q:=by
 obtain⟨b,bad,L,c,b2,k2,r,n,i,⟨⟩⟩:=x;obtain⟨h1,h2⟩:=Lf.T.cw h;cases h2;simp only[Bool.and_eq_true,decide_eq_true_eq]at h1;obtain⟨⟨b1,Uf⟩,b3⟩:=h1;subst b1;subst Uf;exact XW b bad L c b2 k2 r b3
def wg(L:List Int)(i:Nat):Nat->Nat->Nat
 |0,n=>n
 |k+1,n=>if i+n<L.length/\L.getD (i+n) (cr i64)=L.getD i (cr i64)then wg L i k (n+1)else n
theorem Mx(L:List Int)(i:Nat): ∀ (k n:Nat),i+n<=L.length->n<=wg L i k n/\i+wg L i k n<=L.length
 |0,n,h=>⟨Nat.le_refl _,h⟩
 |k+1,n,h=>by
  unfold wg;split
  ·rename_i hc
   have:=Mx L i k (n+1) (by omega);omega
  ·exact⟨Nat.le_refl _,h⟩
theorem SS{i n:Nat}(h:i+n<4611686018427387904):jR .i64 (i:Int) (n:Int)=((i+n:Nat):Int):=by
 show kK .i64 ((i:Int)+(n:Int))=_;rw[wrap_i64 (by omega) (by omega)];omega
theorem yU(b:List Int)(k:Bool)(L:List Int)(c:List (den tI))(b2:List Int)(k2:Bool)(i n:Int):(OU.step (fun _=>none) (j7 eW 3) 3 (cg D0 (b,k,L,c,b2,k2,i,n,()))).val=
 bif (bif decide (jR .i64 i n<Int.ofNat L.length)then(jA (jR .i64 i n) (Int.ofNat L.length)&&jA i (Int.ofNat L.length))else true)then
  bif (bif decide (jR .i64 i n<Int.ofNat L.length)then decide (L.getD (jR .i64 i n).toNat (cr i64)=L.getD i.toNat (cr i64))else false)then some (Rs.next (cg D0 (b,k,L,c,b2,k2,i,jR .i64 n 1,())))else some (Rs.out 0 (cg D0 (b,k,L,c,b2,k2,i,n,())))
 else none:=by kernel_rfl
theorem My(b:List Int)(k:Bool)(L:List Int)(c:List (den tI))(b2:List Int)(k2:Bool)(i:Nat)(hL:L.length<=1099511627776)(hi:i<L.length): ∀ (f n:Nat),i+n<=L.length->L.length<=i+n+f->
 oU (OU.step (fun _=>none) (j7 eW 3) 3) (cg D0 (b,k,L,c,b2,k2,(i:Int),(n:Int),())) 0 (cg D0 (b,k,L,c,b2,k2,(i:Int),(wg L i f n:Nat),()))
 |0,n,h1,h2=>by
  refine .last ?_;rw[yU,SS (by omega),show Int.ofNat L.length=(L.length:Int)from rfl,km (by omega)];rfl
 |f+1,n,h1,h2=>by
  by_cases hn:i+n<L.length
  ·have e0:((i:Nat):Int).toNat=i:=Int.toNat_natCast i;by_cases hq:L.getD (i+n) (cr i64)=L.getD i (cr i64)
   ·refine .more (pl':=cg D0 (b,k,L,c,b2,k2,(i:Int),((n+1:Nat):Int),())) ?_ ?_
    ·rw[yU,SS (by omega),kF hn,kF hi,Int.toNat_natCast,e0,show Int.ofNat L.length=(L.length:Int)from rfl,kY hn,decide_eq_true hq,rM (by omega)];rfl
    ·have e:wg L i (f+1) n=wg L i f (n+1):=if_pos ⟨hn,hq⟩;rw[e];exact My b k L c b2 k2 i hL hi f (n+1) (by omega) (by omega)
   ·refine .last ?_;have e:wg L i (f+1) n=n:=if_neg (fun h=>hq h.2);rw[yU,SS (by omega),kF hn,kF hi,Int.toNat_natCast,e0,show Int.ofNat L.length=(L.length:Int)from rfl,kY hn,decide_eq_false hq,e];rfl
  ·refine .last ?_;have e:wg L i (f+1) n=n:=if_neg (fun h=>hn h.1);rw[yU,SS (by omega),show Int.ofNat L.length=(L.length:Int)from rfl,km (by omega),e];rfl
def oe(L:List Int)(i:Int):Nat:=wg L i.toNat L.length 1
def amo:ca D0->T (Nat×List Pl):=fun x=>.ck (((decide (0<=x.2.2.2.2.2.2.1)&&decide (x.2.2.2.2.2.2.1<(x.2.2.1.length:Int)))&&decide (x.2.2.2.2.2.2.2.1=1))&&decide (x.2.2.1.length<=1099511627776)) (.ok (0,cg D0 (x.1,x.2.1,x.2.2.1,x.2.2.2.1,x.2.2.2.2.1,x.2.2.2.2.2.1,x.2.2.2.2.2.2.1,(oe x.2.2.1 x.2.2.2.2.2.2.1:Int),())))
theorem adI(x:ca D0)(k:Nat)(q:List Pl)(h:(amo x).val=some (k,q)):oU (OU.step (fun _=>none) (j7 eW 3) 3) (cg D0 x) k q:=by
 obtain⟨b,bad,L,c,b2,k2,i,n,⟨⟩⟩:=x;obtain⟨h1,h2⟩:=Lf.T.cw h;cases h2;simp only[Bool.and_eq_true,decide_eq_true_eq]at h1;obtain⟨⟨⟨b1,Uf⟩,b3⟩,b4⟩:=h1;subst b3;obtain⟨j,rfl⟩:=Int.eq_ofNat_of_zero_le b1;have Uf:(j:Int)<(L.length:Int):=Uf;have:=My b bad L c b2 k2 j b4 (by omega) L.length 1 (by omega) (by omega);exact this
def yn(L:List Int):Nat->St->Nat->St
 |0,s,_=>s
 |k+1,s,i=>if i<L.length then yn L k (mG (jU s [(oe L (i:Int):Int)]) [L.getD i (cr i64)]) (i+oe L (i:Int))else s
theorem JN(L:List Int)(i:Nat)(h:i<L.length):1<=oe L (i:Int)/\i+oe L (i:Int)<=L.length:=Mx L i L.length 1 (by omega)
def adJ:Nat->Option mB:=vF [(4,w6 OU D0 amo)]
theorem C9(b:List Int)(k:Bool)(L:List Int)(c:List (den tI))(b2:List Int)(k2:Bool)(i:Int):(OV.step adJ (j7 eW 3) 3 (cg D2 (b,k,L,c,b2,k2,i,()))).val=
 bif decide (i<Int.ofNat L.length)then bif ((decide (0<=i)&&decide (i<(L.length:Int)))&&decide ((1:Int)=1))&&decide (L.length<=1099511627776)then bif decide (b2.length+10*[(oe L i:Int)].length<=1099511627776)then bif jA i (Int.ofNat L.length)then
  bif decide ((jU (b2,k2) [(oe L i:Int)]).1.length+[L.getD i.toNat (cr i64)].length<=1099511627776)then some (Rs.next (cg D2 (b,k,L,c,(mG (jU (b2,k2) [(oe L i:Int)]) [L.getD i.toNat (cr i64)]).1,(mG (jU (b2,k2) [(oe L i:Int)]) [L.getD i.toNat (cr i64)]).2,jR .i64 i (oe L i:Int),())))
  else none else none else none else none else some (Rs.out 0 (cg amm (b,k,L,c,b2,k2,()))):=by kernel_rfl
theorem Gn(b:List Int)(k:Bool)(L:List Int)(c:List (den tI))(hL:L.length<=1099511627776): ∀ (f:Nat) (s:St) (i:Nat),i<=L.length->L.length<=i+f->s.1.length+11*(L.length - i)<=1099511627776->
 oU (OV.step adJ (j7 eW 3) 3) (cg D2 (b,k,L,c,s.1,s.2,(i:Int),())) 0 (cg amm (b,k,L,c,(yn L f s i).1,(yn L f s i).2,()))/\(yn L f s i).1.length<=s.1.length+11*(L.length - i)
 |0,s,i,h1,h2,h3=>by
  refine⟨.last ?_,Nat.le_add_right _ _⟩;rw[C9,show Int.ofNat L.length=(L.length:Int)from rfl,km (by omega)];rfl
 |f+1,s,i,h1,h2,h3=>by
  by_cases hi:i<L.length
  ·obtain⟨r1,r2⟩:=JN L i hi;have hn:=we [(oe L (i:Int):Int)] s
   have hn:(jU s [(oe L (i:Int):Int)]).1.length<=s.1.length+10:=by simpa using hn
   have hk:=Gl [L.getD i (cr i64)] (jU s [(oe L (i:Int):Int)])
   have hk:(mG (jU s [(oe L (i:Int):Int)]) [L.getD i (cr i64)]).1.length=(jU s [(oe L (i:Int):Int)]).1.length+1:=by simpa using hk
   obtain⟨a1,a2⟩:=Gn b k L c hL f (mG (jU s [(oe L (i:Int):Int)]) [L.getD i (cr i64)]) (i+oe L (i:Int)) r2 (by omega) (by omega);have e:yn L (f+1) s i=yn L f (mG (jU s [(oe L (i:Int):Int)]) [L.getD i (cr i64)]) (i+oe L (i:Int)):=if_pos hi;rw[e];refine⟨.more ?_ a1,by omega⟩
   have c1:s.1.length+10*[(oe L (i:Int):Int)].length<=1099511627776:=by simp only[List.length_cons,List.length_nil];omega
   have c2:(jU s [(oe L (i:Int):Int)]).1.length+[L.getD i (cr i64)].length<=1099511627776:=by simp only[List.length_cons,List.length_nil];omega
   rw[C9,kF hi,Int.toNat_natCast,show Int.ofNat L.length=(L.length:Int)from rfl,kY hi,SS (by omega),decide_eq_true c1,decide_eq_true (show(0:Int)<=(i:Int) by omega),decide_eq_true hL];show(bif decide _ then _ else _)=_;rw[decide_eq_true c2];rfl
  ·have e:yn L (f+1) s i=s:=if_neg hi;rw[e];refine⟨.last ?_,Nat.le_add_right _ _⟩;rw[C9,show Int.ofNat L.length=(L.length:Int)from rfl,km (by omega)];rfl
def D3(s:St)(L:List Int):St:=yn L L.length s 0
def amp:ca D2->T (Nat×List Pl):=fun x=>.ck ((decide (x.2.2.2.2.2.2.1=0)&&decide (x.2.2.1.length<=1099511627776))&&decide (x.2.2.2.2.1.length+11*x.2.2.1.length<=1099511627776)) (.ok (0,cg amm (x.1,x.2.1,x.2.2.1,x.2.2.2.1,(D3 (x.2.2.2.2.1,x.2.2.2.2.2.1) x.2.2.1).1,(D3 (x.2.2.2.2.1,x.2.2.2.2.2.1) x.2.2.1).2,())))
theorem adK(x:ca D2)(k:Nat)(q:List Pl)(h:(amp x).val=some (k,q)):oU (OV.step adJ (j7 eW 3) 3) (cg D2 x) k q:=by
 obtain⟨b,bad,L,c,b2,k2,i,⟨⟩⟩:=x;obtain⟨h1,h2⟩:=Lf.T.cw h;cases h2;simp only[Bool.and_eq_true,decide_eq_true_eq]at h1;obtain⟨⟨b1,Uf⟩,b3⟩:=h1;subst b1;exact(Gn b bad L c Uf L.length (b2,k2) 0 (by omega) (by omega) (by simpa using b3)).1
def L52:Nat->Option mB:=vF [(0,w6 Mw tCd amn),(2,w6 OV D2 amp)]
def F52(y:ca [.cq i64,.cq tI]):wc:=fun α s K=>qd (decide ((y.1.length:Int)<=512)) α s fun s=>cy ((decide ((y.1.length:Int)=(y.1.length:Int))&&decide ((0:Int)=0))&&decide (y.1.length<=1099511627776))
 (oB [kL y.1 0] α ([],false) fun q=>cy ((decide ((0:Int)=0)&&decide (y.1.length<=1099511627776))&&decide (q.1.length+11*y.1.length<=1099511627776)) (wT (wI y.2.1) (xI y.2.1) (Uh (y.2.1,())) α (D3 q y.1) fun q=>qd (!q.2) α s fun s=>oB [(q.1.length:Int)] α s fun s=>Hm q.1 α s K))
def Gp(y:ca [.cq i64,.cq tI]):Nat:=20+11*y.1.length+xI y.2.1
theorem amq(b:List Int)(k:Bool)(L:List Int)(c:List (den tI)):(mN (.cons (oc 0) (Ps [.ag (Ps [.im i64,.im tI])])) [2] qW L52 Tryz.Xh 3 (j7 eW 3) (cg (.cq u8::.bool:: [.cq i64,.cq tI]) (b,k,L,c,()))).val=F52 (L,c,()) _ (b,k) k3:=by kernel_rfl
theorem Mz(s:St)(L:List Int)(hL:L.length<=1099511627776)(h:s.1.length+11*L.length<=1099511627776):(D3 s L).1.length<=s.1.length+11*L.length:=
 (Gn [] false L [] hL L.length s 0 (by omega) (by omega) (by simpa using h)).2
theorem XX(y:ca [.cq i64,.cq tI])(h:wI y.2.1=true):Wr (Gp y) (F52 y):=by
 refine((nB (decide ((y.1.length:Int)<=512))).seq (n:=0) (m:=Gp y) ?_).le (by omega);intro s hs;unfold Gp at hs ⊢;have hn:=we [kL y.1 0] ([],false)
 have hn:(jU ([],false) [kL y.1 0]).1.length<=10:=by simpa using hn
 have hL:y.1.length<=1099511627776:=by omega
 have c1:(jU ([],false) [kL y.1 0]).1.length+11*y.1.length<=1099511627776:=by omega
 have hm:=Mz (jU ([],false) [kL y.1 0]) y.1 hL c1
 have c2:(D3 (jU ([],false) [kL y.1 0]) y.1).1.length+xI y.2.1<=1099511627776:=by omega
 obtain⟨q,hq,eq⟩:=tZ (C8 (y.2.1,()) h) h (D3 (jU ([],false) [kL y.1 0]) y.1) c2;have hq:q.1.length<=(D3 (jU ([],false) [kL y.1 0]) y.1).1.length+xI y.2.1:=hq;obtain⟨s',hs',es⟩:=((nB (!q.2)).seq ((mH [(q.1.length:Int)]).seq (JK q.1))).le (m:=20+11*y.1.length+xI y.2.1) (by simp only[List.length_cons,List.length_nil];omega) s hs;refine⟨s',hs',fun α K=>?_⟩;refine Eq.trans ?_ (es α K);show cy ((decide _&&decide _)&&decide _) (cy (decide (([]:List Int).length+10*[kL y.1 0].length<=1099511627776)) (cy ((decide _&&decide _)&&decide _) (wT (wI y.2.1) (xI y.2.1) (Uh (y.2.1,())) α (D3 (jU ([],false) [kL y.1 0]) y.1) _)))=_;rw[eq,decide_eq_true hL,decide_eq_true c1,decide_eq_true (show(y.1.length:Int)=(y.1.length:Int)from rfl)];rfl
def s52:jJ:=zq (Ps [.ag (Ps [.im i64,.im tI])]) [.cq i64,.cq tI] F52 Gp fun y=>wI y.2.1
theorem amr{V cb}(W:WorldV V cb):s52.Ok 133 cb:=by
 have C:=W.toWorld.in (QE W.toWorld) 3;have h0:lE Rx.w (w6 Mw tCd amn) (fun n d=>nO (cb n d) n (.bl 0 (.lp Mw.body))):=oW C (cp _) (m:=3) adH;have h4:lE Rx.w (w6 OU D0 amo) (fun n d=>nO (cb n d) n (.bl 4 (.lp OU.body))):=oW C (cp _) (m:=3) adI;have h2:lE Rx.w (w6 OV D2 amp) (fun n d=>nO (cb n d) n (.bl 2 (.lp OV.body))):=oW C (L:=adJ) (mz.pH (.cons (b:=OU.body) (by kernel_rfl) h4 .nil)) (m:=3) adK;refine nT C (W.st 133 _ rfl) rfl (L:=L52) (mz.pH (.cons (b:=Mw.body) (by kernel_rfl) h0 (.cons (b:=OV.body) (by kernel_rfl) h2 .nil))) (m:=3) XX ?_;rintro b k ⟨L,c,⟨⟩⟩;exact amq b k L c
def Nz:Item (den jV):=⟨fun x=>F52 (x.1,x.2,()),fun x=>Gp (x.1,x.2,()),fun x=>wI x.2,fun x h=>XX _ h,fun x=>by show 1<=20+_+_;omega⟩
theorem XY{V cb}(W:WorldV V cb):(sS 133 Nz).Ok 132 cb:=by
 refine zN W.toWorld (b:=Tryz.alv) (e:=[(133,s52)]) (.cons (amr W) .nil) rfl rfl ?_ (fun h=>mz.pH (.cons (b:=(lS Tryz.alv 133 jV).body) (by kernel_rfl) h .nil)) ?_
 ·intro b k id b2 k2 r n i
  kernel_rfl
 ·rintro b k ⟨id,mo,r,⟨⟩⟩
  kernel_rfl
def ams(a b:lL):lL:=fun f args h=>match a f args h with
 | .bad=>b f args h
 |t=>t
theorem adL{a b:lL}{cb:cx}(ha:vu a cb)(hb:vu b cb):vu (ams a b) cb:=by
 intro E f args ys H h v H' hv hH e;unfold ams at e;split at e
 ·exact hb E f args ys H h v H' hv hH e
 ·exact ha E f args ys H h v H' hv hH e
abbrev mT(l:List Ty):List Ty:=.cq jK::.cq kg::.cq i64::.cq cF::.cq cF::.cq jQ::.cq kf::i64::.cq jS::.cq jV::.cq jZ::l
abbrev tM:List Ty:=mT []
abbrev pM:n9:=.ag (Ps [.im jK,.im kg,.im i64,.im cF,.im cF,.im jQ,.im kf,.n .i64,.im jS,.im jV,.im jZ])
def e18(V:ByteArray->Bool):List (Nat×jJ):=[(109,s28),(110,sS 111 XH),(113,s32),(115,sS 116 (XI V)),(118,sS 119 XD),(120,sS 121 XJ),(124,sS 125 XL),(126,sS 127 (XM V)),(128,s47),(129,sS 130 SP),(132,sS 133 Nz),(134,sS 135 SQ)]
theorem amt{V cb}(W:WorldV V cb):j1 cb (e18 V):=
 .cons (yj W.toWorld) (.cons (XN W) (.cons (Gf W.toWorld) (.cons (XO W) (.cons (as8 W) (.cons (XP W) (.cons (XR W) (.cons (XS W) (.cons (OS W.toWorld) (.cons (XT W) (.cons (XY W) (.cons (XU W) .nil)))))))))))
def c18(V:ByteArray->Bool):lL:=ams (j7 (e18 V) 3) (j7 [(120,sS 123 XK)] 3)
theorem amu{V cb}(W:WorldV V cb):vu (c18 V) cb:=adL (W.toWorld.in (amt W) 3) (W.toWorld.in (.cons (XQ W) .nil) 3)
def D4{t:Ty}(A:Item (den t))(id most:Int)(l:List (den t)):wc:=wT (jC A.ok l) (21+rE A.wt l) (FS A (id,most,l,()))
theorem rS{t:Ty}(A:Item (den t))(id most:Int)(l:List (den t))(h:jC A.ok l=true):Wr (21+rE A.wt l) (D4 A id most l):=tZ (ai4 A (id,most,l,()) h) h
def adM(y:ca tM):wc:=fun α s K=>D4 SP 9 512 y.2.2.2.2.2.2.2.2.1 α s fun s=>D4 Nz 10 512 y.2.2.2.2.2.2.2.2.2.1 α s fun s=>D4 SQ 11 512 y.2.2.2.2.2.2.2.2.2.2.1 α s K
def F18(V:ByteArray->Bool)(y:ca tM):wc:=fun α s K=>qd (decide ((y.2.2.1.length:Int)=(y.2.2.2.2.2.2.2.2.2.1.length:Int))) α s fun s=>
 D4 XH 1 256 y.1 α s fun s=>D4 (XI V) 2 512 y.2.1 α s fun s=>D4 XD 3 512 y.2.2.1 α s fun s=>D4 XJ 4 512 y.2.2.2.1 α s fun s=>D4 XK 5 512 y.2.2.2.2.1 α s fun s=>D4 XL 6 512 y.2.2.2.2.2.1 α s fun s=>D4 (XM V) 7 512 y.2.2.2.2.2.2.1 α s fun s=>
 qd (decide (-1<=y.2.2.2.2.2.2.2.1)) α s fun s=>bif decide (0<=y.2.2.2.2.2.2.2.1)then
  oB [y.2.2.2.2.2.2.2.1] α ([],false) fun p=>wT true (DZ (8,p.1,p.2,())) (F47 (8,p.1,p.2,())) α s fun s=>adM y α s K
 else adM y α s K
def adN(s:St):Option (List Pl):=bif s.2 then some (cg [.cq u8,i64] ([],1,()))else bif decide (16384<(s.1.length:Int))then some (cg [.cq u8,i64] ([],4,()))else some (cg [.cq u8,i64] (s.1,0,()))
def s0:St:=([0,97,115,109,1,0,0,0],false)
theorem amv(V:ByteArray->Bool)(y:ca tM):(mN (Ps [pM]) [] (Ps [.tu (Ps [.ow u8,.n .i64])]) (fun _=>none) Tryz.x81 3 (c18 V) (cg tM y)).val=F18 V y _ s0 adN:=by
 obtain⟨t,im,fs,tb,me,gl,ex,st,el,co,da,⟨⟩⟩:=y
 kernel_rfl
def okM(V:ByteArray->Bool)(y:ca tM):Bool:=
 (jC XH.ok y.1&&(jC (XI V).ok y.2.1&&(jC XD.ok y.2.2.1&&(jC XJ.ok y.2.2.2.1&&(jC XK.ok y.2.2.2.2.1&&(jC XL.ok y.2.2.2.2.2.1&&(jC (XM V).ok y.2.2.2.2.2.2.1&&
 (jC SP.ok y.2.2.2.2.2.2.2.2.1&&(jC Nz.ok y.2.2.2.2.2.2.2.2.2.1&&jC SQ.ok y.2.2.2.2.2.2.2.2.2.2.1)))))))))
def QG(y:ca tM):Nat:=(21+rE SP.wt y.2.2.2.2.2.2.2.2.1)+((21+rE Nz.wt y.2.2.2.2.2.2.2.2.2.1)+(21+rE SQ.wt y.2.2.2.2.2.2.2.2.2.2.1))
def OW(V:ByteArray->Bool)(y:ca tM):Nat:=0+((21+rE XH.wt y.1)+((21+rE (XI V).wt y.2.1)+((21+rE XD.wt y.2.2.1)+((21+rE XJ.wt y.2.2.2.1)+((21+rE XK.wt y.2.2.2.2.1)+((21+rE XL.wt y.2.2.2.2.2.1)+((21+rE (XM V).wt y.2.2.2.2.2.2.1)+(0+(21+QG y)))))))))
def XZ(n:Int):wc:=fun α s K=>oB [n] α ([],false) fun p=>wT true (DZ (8,p.1,p.2,())) (F47 (8,p.1,p.2,())) α s K
theorem SU(n:Int):Wr 21 (XZ n):=by
 intro s hs;have hn:=we [n] ([],false)
 have hn:(jU ([],false) [n]).1.length<=10:=by simpa using hn
 obtain⟨s',h1,h2⟩:=(tZ (OR (8,(jU ([],false) [n]).1,(jU ([],false) [n]).2,())) rfl).le (m:=21) (by show 0+(1+(10+(jU ([],false) [n]).1.length))<=21;omega) s hs;exact⟨s',h1,fun α K=>Eq.trans rfl (h2 α K)⟩
theorem QH(y:ca tM)(h1:jC SP.ok y.2.2.2.2.2.2.2.2.1=true)(h2:jC Nz.ok y.2.2.2.2.2.2.2.2.2.1=true)(h3:jC SQ.ok y.2.2.2.2.2.2.2.2.2.2.1=true):Wr (QG y) (adM y):=
 (rS SP 9 512 _ h1).seq ((rS Nz 10 512 _ h2).seq (rS SQ 11 512 _ h3))
theorem X5(V:ByteArray->Bool)(y:ca tM)(h:okM V y=true):Wr (OW V y) (F18 V y):=by
 unfold okM at h;simp only[Bool.and_eq_true]at h;obtain⟨h1,h2,h3,h4,h5,h6,h7,h8,h9,h10⟩:=h
 exact(nB _).seq ((rS XH 1 256 _ h1).seq ((rS (XI V) 2 512 _ h2).seq ((rS XD 3 512 _ h3).seq ((rS XJ 4 512 _ h4).seq ((rS XK 5 512 _ h5).seq ((rS XL 6 512 _ h6).seq ((rS (XM V) 7 512 _ h7).seq
  ((nB _).seq (.bif ((SU _).seq (QH y h8 h9 h10)) ((QH y h8 h9 h10).le (Nat.le_add_left _ _)))))))))))
def Da(V:ByteArray->Bool)(y:ca tM):St:=mW (F18 V y) s0
def uf(V:ByteArray->Bool)(y:ca tM):Int:=bif (Da V y).2 then 1 else bif decide (16384<((Da V y).1.length:Int))then 4 else 0
def ai5(V:ByteArray->Bool)(y:ca tM):List Int:=bif (Da V y).2 then []else bif decide (16384<((Da V y).1.length:Int))then []else(Da V y).1
def OX(V:ByteArray->Bool)(y:ca tM):Bool:=okM V y&&decide (8+OW V y<=1099511627776)
theorem X6{V:ByteArray->Bool}{y:ca tM}(h:OX V y=true):(Da V y).1.length<=8+OW V y:=by
 unfold OX at h;simp only[Bool.and_eq_true,decide_eq_true_eq]at h;exact(Ij (X5 V y h.1) (s:=s0) h.2).1
def s18(V:ByteArray->Bool):jJ:=kR (Ps [pM]) [] (Ps [.tu (Ps [.ow u8,.n .i64])]) tM [.cq u8,i64] fun y=>.ck (OX V y) (.ok (ai5 V y,uf V y,()))
theorem amw{V cb}(W:WorldV V cb):(s18 V).Ok 81 cb:=by
 refine j4 (amu W) (W.st 81 _ rfl) rfl (cp _) (m:=3) rfl ?_;intro y q h;obtain⟨h1,h2⟩:=Lf.T.cw h;cases h2;rw[amv];unfold OX at h1;simp only[Bool.and_eq_true,decide_eq_true_eq]at h1;refine((Ij (X5 V y h1.1) (s:=s0) h1.2).2 _ adN).trans ?_;show adN (Da V y)=_;unfold adN ai5 uf;cases(Da V y).2 with
 |true=>rfl
 |false=>cases decide (16384<((Da V y).1.length:Int))<;>rfl
def D5(c:List (den tI))(t:Int):Bool:=bif !decide ((c.length:Int)=2)then false else
 let o:=(c.getD 0 (cr tI)).1
 bif decide (o=65)then decide (t=127)else bif decide (o=66)then decide (t=126)else bif decide (o=64780)then decide (t=123)else false
def s56:jJ:=kR (Ps [.im tI,.n .i64]) [] (Ps [.bo]) [.cq tI,i64] [.bool] fun x=>.ok (D5 x.1 x.2.1,())
theorem OY{cb:cx}(W:World cb):s56.Ok 137 cb:=by
 refine j4 (W.in .nil 3) (W.st 137 _ rfl) rfl (cp _) (m:=3) rfl ?_;rintro⟨c,t,⟨⟩⟩ q h;cases h
 have e:(mN (Ps [.im tI,.n .i64]) [] (Ps [.bo]) (fun _=>none) Tryz.asM 3 (j7 [] 3) (cg [.cq tI,i64] (c,t,()))).val=bif !decide ((c.length:Int)=2)then some (cg [.bool] (false,()))else bif jA 0 (Int.ofNat c.length)then
  bif decide ((c.getD 0 (cr tI)).1=65)then some (cg [.bool] (decide (t=127),()))else bif decide ((c.getD 0 (cr tI)).1=66)then some (cg [.bool] (decide (t=126),()))else bif decide ((c.getD 0 (cr tI)).1=64780)then some (cg [.bool] (decide (t=123),()))else some (cg [.bool] (false,()))else none:=by kernel_rfl
 rw[e];show _=some (cg [.bool] (D5 c t,()));unfold D5;dsimp only;cases h2:decide ((c.length:Int)=2)with
 |false=>rfl
 |true=>
  have:(c.length:Int)=2:=of_decide_eq_true h2;have hx:jA 0 (Int.ofNat c.length)=true:=kF (j:=0) (by omega);rw[hx];cases decide ((c.getD 0 (cr tI)).1=65)<;>cases decide ((c.getD 0 (cr tI)).1=66)<;>cases decide ((c.getD 0 (cr tI)).1=64780)<;>rfl
abbrev jT:Ty:=.pair i64 (.pair i64 (.pair (.cq i64) (.pair (.cq i64) (.pair .bool .bool))))
abbrev qp(g:Nat):n9:=.pt g (Ps [.im jK,.im kg,.im i64,.im cF,.im cF,.im jQ,.im kf,.n .i64,.im jS,.im jV,.im jZ,.ow i64,.ow i64,.ow jT,.bo])
abbrev EC:List Ty:=mT [.cq i64,.cq i64,.cq jT,.bool]
abbrev SW:List Ty:=mT [.cq i64,.cq i64,.cq jT,.bool,i64]
abbrev amx:List Ty:=i64::mT [.cq i64,.cq i64,.cq jT,.bool]
abbrev aAO:List Ty:=mT [.cq i64,.cq i64,.cq jT,.bool,.bool]
def s76:jJ:=kR (Ps [qp 0,.bo]) [14] (Ps [.tu .nil,qp 14]) aAO EC fun x=>match x with
 |(t,im,fs,tb,me,gl,ex,st,el,co,da,lo,ko,bl,bad,ok,_)=>.ok (t,im,fs,tb,me,gl,ex,st,el,co,da,lo,ko,bl,bad|| !ok,())
theorem Au{cb:cx}(W:World cb):s76.Ok 173 cb:=by
 refine j4 (W.in .nil 3) (W.st 173 _ rfl) rfl (cp _) (m:=3) rfl ?_;rintro⟨t,im,fs,tb,me,gl,ex,st,el,co,da,lo,ko,bl,bad,ok,⟨⟩⟩ q h;cases h;cases bad<;>kernel_rfl
def kB(bl:List (den jT)):den jT:=bl.getD (bl.length - 1) (cr jT)
def okW(ko:List Int)(bl:List (den jT)):Bool:=(decide (0<bl.length)&&(decide (bl.length<=1099511627776)&&decide (ko.length<=1099511627776)))&&(decide (0<=(kB bl).2.1)&&decide ((kB bl).2.1<=(ko.length:Int)))
def mr(ko:List Int)(bl:List (den jT))(bad:Bool)(want:Int):Int×List Int×Bool:=
 bif decide ((ko.length:Int)=(kB bl).2.1)then(want,ko,bad|| !(kB bl).2.2.2.2.1)else
 let t:=ko.getD (ko.length - 1) (cr i64)
 (bif decide (t=0)then want else t,ko.take (ko.length - 1),bad|| !(bif decide (t=want)then true else bif decide (t=0)then true else decide (want=0)))
def s73:jJ:=kR (Ps [qp 0,.n .i64]) [14] (Ps [.n .i64,qp 14]) SW amx fun x=>match x with
 |(t,im,fs,tb,me,gl,ex,st,el,co,da,lo,ko,bl,bad,want,_)=>.ck (okW ko bl) (let y:=mr ko bl bad want; .ok (y.1,t,im,fs,tb,me,gl,ex,st,el,co,da,lo,y.2.1,bl,y.2.2,()))
theorem Gq{cb:cx}(W:World cb):s73.Ok 170 cb:=by
 refine j4 (W.in .nil 3) (W.st 170 _ rfl) rfl (cp _) (m:=3) rfl ?_;rintro⟨t,im,fs,tb,me,gl,ex,st,el,co,da,lo,ko,bl,bad,want,⟨⟩⟩ q h;obtain⟨h1,h2⟩:=Lf.T.cw h;cases h2;unfold okW at h1;simp only[Bool.and_eq_true,decide_eq_true_eq]at h1;obtain⟨⟨b1,b2,b3⟩,b4,b5⟩:=h1
 let R (w:Int) (s:List Int) (b:Bool):Option (List Pl):=some (cg amx (w,t,im,fs,tb,me,gl,ex,st,el,co,da,lo,s,bl,b,()))
 have e: ∀ (B:den jT) (T:Int),B=bl.getD (jF .i64 (Int.ofNat bl.length) 1).toNat (cr jT)->T=ko.getD (jF .i64 (Int.ofNat ko.length) 1).toNat (cr i64)->
  (mN (Ps [qp 0,.n .i64]) [14] (Ps [.n .i64,qp 14]) (fun _=>none) Tryz.asR 3 (j7 [] 3) (cg SW (t,im,fs,tb,me,gl,ex,st,el,co,da,lo,ko,bl,bad,want,()))).val=
  bif jA (jF .i64 (Int.ofNat bl.length) 1) (Int.ofNat bl.length)then bif decide (Int.ofNat ko.length=B.2.1)then(bif bad then R want ko true else R want ko (!B.2.2.2.2.1))else
   bif jA (jF .i64 (Int.ofNat ko.length) 1) (Int.ofNat ko.length)then bif mS 0 (jF .i64 (Int.ofNat ko.length) 1) (Int.ofNat ko.length)then
    let S:=(ko.drop 0).take ((jF .i64 (Int.ofNat ko.length) 1).toNat - 0)
    let E:=fun b=>bif decide (T=0)then R want S b else R T S b
    bif decide (T=want)then(bif bad then E true else E (!true))else bif decide (T=0)then(bif bad then E true else E (!true))else(bif bad then E true else E (!decide (want=0)))
   else none else none else none:=by
  intro B T hB hT;subst hB;subst hT
  kernel_rfl
 rw[e _ _ rfl rfl,show Int.ofNat bl.length=(bl.length:Int)from rfl,show Int.ofNat ko.length=(ko.length:Int)from rfl,JD b1 (by omega),Int.toNat_natCast];have hb:jA ((bl.length - 1:Nat):Int) (bl.length:Int)=true:=kF (by omega);rw[hb,cond_true];show(bif decide ((ko.length:Int)=(kB bl).2.1)then _ else _)=some (cg amx ((mr ko bl bad want).1,t,im,fs,tb,me,gl,ex,st,el,co,da,lo,(mr ko bl bad want).2.1,bl,(mr ko bl bad want).2.2,()));unfold mr;cases hh:decide ((ko.length:Int)=(kB bl).2.1)with
 |true=>cases bad<;>rfl
 |false=>
  have qF: ¬ (ko.length:Int)=(kB bl).2.1:=of_decide_eq_false hh
  have hp:0<ko.length:=by omega
  have hs:jA ((ko.length - 1:Nat):Int) (ko.length:Int)=true:=kF (by omega)
  have hc:mS 0 ((ko.length - 1:Nat):Int) (ko.length:Int)=true:=by unfold mS;simp
  rw[JD hp (by omega),hs,hc,Int.toNat_natCast];simp only[cond_true,cond_false,List.drop_zero,Nat.sub_zero];cases decide (ko.getD (ko.length - 1) (cr i64)=want)<;>cases decide (ko.getD (ko.length - 1) (cr i64)=0)<;>cases bad<;>rfl
theorem X7{ko:List Int}{bl:List (den jT)}(bad:Bool)(want:Int)(h:okW ko bl=true):okW (mr ko bl bad want).2.1 bl=true:=by
 have h0:=h;unfold okW at h ⊢;simp only[Bool.and_eq_true,decide_eq_true_eq]at h ⊢;obtain⟨⟨b1,b2,b3⟩,b4,b5⟩:=h;unfold mr;cases hh:decide ((ko.length:Int)=(kB bl).2.1)with
 |true=>exact⟨⟨b1,b2,b3⟩,b4,b5⟩
 |false=>
  have qF: ¬ (ko.length:Int)=(kB bl).2.1:=of_decide_eq_false hh;simp only[cond_false,List.length_take];refine⟨⟨b1,b2,by omega⟩,b4,by omega⟩
def zt(L:List Int)(bl:List (den jT)):Nat->List Int->Bool->List Int×Bool
 |0,ko,bad=>(ko,bad)
 |n+1,ko,bad=>zt L bl n (mr ko bl bad (L.getD n (cr i64))).2.1 (mr ko bl bad (L.getD n (cr i64))).2.2
abbrev tTk:List Ty:=mT [.cq i64,.cq i64,.cq jT,.bool,.cq i64,i64]
abbrev adQ:List Ty:=mT [.cq i64,.cq i64,.cq jT,.bool,.cq i64]
def l71:qV:=⟨0,mV Tryz.alB.code 0,[0,1,4],Ps [qp 14,.im i64,.n .i64],[⟨.s7,[0],Ps [qp 14]⟩]⟩
def e71:List (Nat×jJ):=[(170,s73),(173,s76)]
theorem amz{cb:cx}(W:World cb):j1 cb e71:=.cons (Gq W) (.cons (Au W) .nil)
theorem MA(t:List (den jK))(im:List (den kg))(fs:List Int)(tb me:List (den cF))(gl:List (den jQ))(ex:List (den kf))(st:Int)(el:List (den jS))(co:List (den jV))(da:List (den jZ))(lo ko:List Int)(bl:List (den jT))(bad:Bool)(L:List Int)(i:Int):
 (l71.step (fun _=>none) (j7 e71 3) 3 (cg tTk (t,im,fs,tb,me,gl,ex,st,el,co,da,lo,ko,bl,bad,L,i,()))).val=
 bif decide (0<=i)then bif jA i (Int.ofNat L.length)then bif okW ko bl then some (Rs.next (cg tTk (t,im,fs,tb,me,gl,ex,st,el,co,da,lo,(mr ko bl bad (L.getD i.toNat (cr i64))).2.1,bl,(mr ko bl bad (L.getD i.toNat (cr i64))).2.2,L,jF .i64 i 1,())))else none else none
 else some (Rs.out 0 (cg EC (t,im,fs,tb,me,gl,ex,st,el,co,da,lo,ko,bl,bad,()))):=by kernel_rfl
theorem QI(t:List (den jK))(im:List (den kg))(fs:List Int)(tb me:List (den cF))(gl:List (den jQ))(ex:List (den kf))(st:Int)(el:List (den jS))(co:List (den jV))(da:List (den jZ))(lo:List Int)(bl:List (den jT))(L:List Int)(hL:L.length<=1099511627776): ∀ (n:Nat) (ko:List Int) (bad:Bool),n<=L.length->okW ko bl=true->
 oU (l71.step (fun _=>none) (j7 e71 3) 3) (cg tTk (t,im,fs,tb,me,gl,ex,st,el,co,da,lo,ko,bl,bad,L,(n:Int) - 1,())) 0 (cg EC (t,im,fs,tb,me,gl,ex,st,el,co,da,lo,(zt L bl n ko bad).1,bl,(zt L bl n ko bad).2,()))
 |0,ko,bad,_,_=>by
  refine .last ?_;rw[MA,decide_eq_false (by omega)];rfl
 |n+1,ko,bad,hn,h=>by
  have e:((n+1:Nat):Int) - 1=(n:Int):=by omega
  rw[e];have es:jF .i64 (n:Int) 1=(n:Int) - 1:=by
   show kK .i64 ((n:Int) - 1)=_;exact wrap_i64 (by omega) (by omega)
  refine .more ?_ (QI t im fs tb me gl ex st el co da lo bl L hL n (mr ko bl bad (L.getD n (cr i64))).2.1 (mr ko bl bad (L.getD n (cr i64))).2.2 (by omega) (X7 _ _ h));rw[MA,decide_eq_true (show(0:Int)<=(n:Int) by omega),kF (show n<L.length by omega),h,Int.toNat_natCast,es];rfl
def g71:ca tTk->T (Nat×List Pl):=fun x=>match x with
 |(t,im,fs,tb,me,gl,ex,st,el,co,da,lo,ko,bl,bad,L,i,_)=>.ck ((decide (i=jF .i64 (L.length:Int) 1)&&decide (L.length<=1099511627776))&&okW ko bl) (.ok (0,cg EC (t,im,fs,tb,me,gl,ex,st,el,co,da,lo,(zt L bl L.length ko bad).1,bl,(zt L bl L.length ko bad).2,())))
theorem amA(x:ca tTk)(k:Nat)(q:List Pl)(h:(g71 x).val=some (k,q)):oU (l71.step (fun _=>none) (j7 e71 3) 3) (cg tTk x) k q:=by
 obtain⟨t,im,fs,tb,me,gl,ex,st,el,co,da,lo,ko,bl,bad,L,i,⟨⟩⟩:=x;obtain⟨h1,h2⟩:=Lf.T.cw h;cases h2;simp only[Bool.and_eq_true,decide_eq_true_eq]at h1;obtain⟨⟨b1,b2⟩,b3⟩:=h1;have es:jF .i64 (L.length:Int) 1=(L.length:Int) - 1:=by
  show kK .i64 ((L.length:Int) - 1)=_;exact wrap_i64 (by omega) (by omega)
 rw[es]at b1;subst b1;exact QI t im fs tb me gl ex st el co da lo bl L b2 L.length ko bad (Nat.le_refl _) b3
def L71:Nat->Option mB:=vF [(0,w6 l71 tTk g71)]
def s71:jJ:=kR (Ps [qp 0,.im i64]) [14] (Ps [.tu .nil,qp 14]) adQ EC fun x=>match x with
 |(t,im,fs,tb,me,gl,ex,st,el,co,da,lo,ko,bl,bad,L,_)=>.ck (decide (L.length<=1099511627776)&&okW ko bl) (.ok (t,im,fs,tb,me,gl,ex,st,el,co,da,lo,(zt L bl L.length ko bad).1,bl,(zt L bl L.length ko bad).2,()))
theorem amB(t:List (den jK))(im:List (den kg))(fs:List Int)(tb me:List (den cF))(gl:List (den jQ))(ex:List (den kf))(st:Int)(el:List (den jS))(co:List (den jV))(da:List (den jZ))(lo ko:List Int)(bl:List (den jT))(bad:Bool)(L:List Int):(mN (Ps [qp 0,.im i64]) [14] (Ps [.tu .nil,qp 14]) L71 Tryz.alB 3 (j7 e71 3) (cg adQ (t,im,fs,tb,me,gl,ex,st,el,co,da,lo,ko,bl,bad,L,()))).val=
 bif (decide (jF .i64 (L.length:Int) 1=jF .i64 (L.length:Int) 1)&&decide (L.length<=1099511627776))&&okW ko bl then some (cg EC (t,im,fs,tb,me,gl,ex,st,el,co,da,lo,(zt L bl L.length ko bad).1,bl,(zt L bl L.length ko bad).2,()))else none:=by kernel_rfl
theorem OZ{cb:cx}(W:World cb):s71.Ok 168 cb:=by
 have C:=W.in (amz W) 3;have hl:lE Rx.w (w6 l71 tTk g71) (fun n d=>nO (cb n d) n (.bl 0 (.lp l71.body))):=oW C (cp _) (m:=3) amA;refine j4 C (W.st 168 _ rfl) rfl (L:=L71) (mz.pH (.cons (b:=l71.body) (by kernel_rfl) hl .nil)) (m:=3) rfl ?_;rintro⟨t,im,fs,tb,me,gl,ex,st,el,co,da,lo,ko,bl,bad,L,⟨⟩⟩ q h;obtain⟨h1,h2⟩:=Lf.T.cw h;cases h2;rw[amB,decide_eq_true (rfl:jF .i64 (L.length:Int) 1=jF .i64 (L.length:Int) 1),Bool.true_and,h1];rfl
def s72:jJ:=kR (Ps [qp 0,.im i64]) [14] (Ps [.tu .nil,qp 14]) adQ EC fun x=>match x with
 |(t,im,fs,tb,me,gl,ex,st,el,co,da,lo,ko,bl,bad,L,_)=>.ck (decide (ko.length+L.length<=1099511627776)) (.ok (t,im,fs,tb,me,gl,ex,st,el,co,da,lo,ko++L,bl,bad,()))
theorem amC(t:List (den jK))(im:List (den kg))(fs:List Int)(tb me:List (den cF))(gl:List (den jQ))(ex:List (den kf))(st:Int)(el:List (den jS))(co:List (den jV))(da:List (den jZ))(lo ko:List Int)(bl:List (den jT))(bad:Bool)(L:List Int):(mN (Ps [qp 0,.im i64]) [14] (Ps [.tu .nil,qp 14]) (fun _=>none) Tryz.asQ 3 (j7 [] 3) (cg adQ (t,im,fs,tb,me,gl,ex,st,el,co,da,lo,ko,bl,bad,L,()))).val=
 bif roomy 8 (ko.length+L.length)then some (cg EC (t,im,fs,tb,me,gl,ex,st,el,co,da,lo,app ko L,bl,bad,()))else none:=by kernel_rfl
theorem Gr{cb:cx}(W:World cb):s72.Ok 169 cb:=by
 refine j4 (W.in .nil 3) (W.st 169 _ rfl) rfl (cp _) (m:=3) rfl ?_;rintro⟨t,im,fs,tb,me,gl,ex,st,el,co,da,lo,ko,bl,bad,L,⟨⟩⟩ q h;obtain⟨h1,h2⟩:=Lf.T.cw h;cases h2;rw[amC,jW (by omega) (of_decide_eq_true h1),cZ];rfl
def BV(b:den jT):den jT:=(b.1,b.2.1,b.2.2.1,b.2.2.2.1,true,b.2.2.2.2.2)
def s83:jJ:=kR (Ps [qp 0]) [14] (Ps [.tu .nil,qp 14]) EC EC fun x=>match x with
 |(t,im,fs,tb,me,gl,ex,st,el,co,da,lo,ko,bl,bad,_)=>.ck (okW ko bl) (.ok (t,im,fs,tb,me,gl,ex,st,el,co,da,lo,ko.take (kB bl).2.1.toNat,bl.set (bl.length - 1) (BV (kB bl)),bad,()))
theorem amD(t:List (den jK))(im:List (den kg))(fs:List Int)(tb me:List (den cF))(gl:List (den jQ))(ex:List (den kf))(st:Int)(el:List (den jS))(co:List (den jV))(da:List (den jZ))(lo ko:List Int)(bl:List (den jT))(bad:Bool):(mN (Ps [qp 0]) [14] (Ps [.tu .nil,qp 14]) (fun _=>none) Tryz.asV 3 (j7 [] 3) (cg EC (t,im,fs,tb,me,gl,ex,st,el,co,da,lo,ko,bl,bad,()))).val=
 bif jA (jF .i64 (Int.ofNat bl.length) 1) (Int.ofNat bl.length)then bif mS 0 (bl.getD (jF .i64 (Int.ofNat bl.length) 1).toNat (cr jT)).2.1 (Int.ofNat ko.length)then
  some (cg EC (t,im,fs,tb,me,gl,ex,st,el,co,da,lo,(ko.drop 0).take ((bl.getD (jF .i64 (Int.ofNat bl.length) 1).toNat (cr jT)).2.1.toNat - 0),bl.set (jF .i64 (Int.ofNat bl.length) 1).toNat (BV (bl.getD (jF .i64 (Int.ofNat bl.length) 1).toNat (cr jT))),bad,()))else none else none:=by kernel_rfl
theorem amE{cb:cx}(W:World cb):s83.Ok 194 cb:=by
 refine j4 (W.in .nil 3) (W.st 194 _ rfl) rfl (cp _) (m:=3) rfl ?_;rintro⟨t,im,fs,tb,me,gl,ex,st,el,co,da,lo,ko,bl,bad,⟨⟩⟩ q h;obtain⟨h1,h2⟩:=Lf.T.cw h;cases h2;unfold okW at h1;simp only[Bool.and_eq_true,decide_eq_true_eq]at h1;obtain⟨⟨b1,b2,b3⟩,b4,b5⟩:=h1;have hb:jA ((bl.length - 1:Nat):Int) (bl.length:Int)=true:=kF (by omega);rw[amD,show Int.ofNat bl.length=(bl.length:Int)from rfl,show Int.ofNat ko.length=(ko.length:Int)from rfl,JD b1 (by omega),Int.toNat_natCast,hb,cond_true]
 have hc:mS 0 (kB bl).2.1 (ko.length:Int)=true:=by unfold mS;simp;omega
 show(bif mS 0 (kB bl).2.1 (ko.length:Int)then _ else _)=_;rw[hc,List.drop_zero,Nat.sub_zero];rfl
def s63:jJ:=kR (Ps [.im i64]) [] (Ps [.ow i64]) [.cq i64] [.cq i64] fun x=>.ck (decide (x.1.length<=1099511627776)) (.ok (x.1,()))
structure WorldC(V:ByteArray->Bool)(cb:cx):Prop extends WorldV V cb where
 cl:s63.Ok 85 cb
abbrev tMN:List Ty:=mT [i64]
abbrev JO:List Ty:=[.cq i64,.cq i64,.bool]
abbrev qSg:n9:=Ps [.tu (Ps [.ag (Ps [.ow i64,.ow i64]),.bo])]
def kG(t:List (den jK))(k:Int):Bool:= !(bif decide (k<0)then true else decide ((t.length:Int)<=k))
def jO(t:List (den jK))(k:Int):den jK:=bif kG t k then t.getD k.toNat (cr jK)else([],[])
def gT(t:List (den jK)):Bool:=List.all t fun s=>decide (List.length s.1<=1099511627776)&&decide (List.length s.2<=1099511627776)
def s21:jJ:=kR (Ps [pM,.n .i64]) [] qSg tMN JO fun x=>match x with
 |(t,im,fs,tb,me,gl,ex,st,el,co,da,k,_)=>.ck (gT t) (.ok ((jO t k).1,(jO t k).2,kG t k,()))
def e21:List (Nat×jJ):=[(85,s63)]
theorem amF{V cb}(W:WorldC V cb):j1 cb e21:=.cons W.cl .nil
theorem amG(t:List (den jK))(im:List (den kg))(fs:List Int)(tb me:List (den cF))(gl:List (den jQ))(ex:List (den kf))(st:Int)(el:List (den jS))(co:List (den jV))(da:List (den jZ))(k:Int):(mN (Ps [pM,.n .i64]) [] qSg (fun _=>none) Tryz.x75 3 (j7 e21 3) (cg tMN (t,im,fs,tb,me,gl,ex,st,el,co,da,k,()))).val=
 bif (bif decide (k<0)then true else decide ((t.length:Int)<=k))then some (cg JO ([],[],false,()))else cy (jA k (Int.ofNat t.length)) (cy (decide ((t.getD k.toNat (cr jK)).1.length<=1099511627776)) (cy (decide ((t.getD k.toNat (cr jK)).2.length<=1099511627776)) (some (cg JO ((t.getD k.toNat (cr jK)).1,(t.getD k.toNat (cr jK)).2,true,()))))):=by kernel_rfl
theorem O0{V cb}(W:WorldC V cb):s21.Ok 75 cb:=by
 refine j4 (W.toWorld.in (amF W) 3) (W.st 75 _ rfl) rfl (cp _) (m:=3) rfl ?_;rintro⟨t,im,fs,tb,me,gl,ex,st,el,co,da,k,⟨⟩⟩ q h;obtain⟨h0,h⟩:=Lf.T.cw h;cases h;rw[amG];unfold jO kG;by_cases h1:k<0
 ·rw[decide_eq_true h1];rfl
 ·by_cases h2:(t.length:Int)<=k
  ·rw[decide_eq_false h1,decide_eq_true h2];rfl
  ·have hx:jA k (Int.ofNat t.length)=true:=nZ.2 ⟨Int.not_lt.1 h1,Int.not_le.1 h2⟩;have hm:(t.getD k.toNat (cr jK))∈t:=by
    have key: ∀ (k:Int) (n:Nat),¬ k<0-> ¬ (n:Int)<=k->k.toNat<n:=fun k n _ _=>by omega
    have:k.toNat<t.length:=key k _ h1 h2;rw[List.getD_eq_getElem?_getD,List.getElem?_eq_getElem this];exact List.getElem_mem this
   unfold gT at h0;have h0:=List.all_eq_true.1 h0 _ hm;rw[Bool.and_eq_true]at h0;rw[decide_eq_false h1,decide_eq_false h2,hx,h0.1,h0.2];rfl
def pd(bl:List (den jT))(l:Int):List Int:=bif decide ((bl.length:Int)<=l)then []else
 let b:=bl.getD (jF .i64 (jF .i64 (Int.ofNat bl.length) 1) l).toNat (cr jT)
 bif decide (b.1=3)then b.2.2.1 else b.2.2.2.1
theorem aAQ{k:Int}{n:Nat}(h1:(n:Int)<=k)(h2:k<9223372036854775808):0<=jF .i64 k (n:Int):=by
 have es:jF .i64 k (n:Int)=k - (n:Int):=by
  show kK .i64 (k - (n:Int))=_;exact wrap_i64 (by omega) (by omega)
 rw[es];omega
def kI(im:List (den kg))(fs:List Int)(k:Int):Int:=
 bif (bif decide (0<=k)then decide (k<(im.length:Int))else false)then(im.getD k.toNat (cr kg)).2.2 else
 bif (bif decide ((im.length:Int)<=k)then decide (jF .i64 k (im.length:Int)<(fs.length:Int))else false)then fs.getD (jF .i64 k (im.length:Int)).toNat (cr i64)else -1
def s10:jJ:=kR (Ps [pM,.n .i64]) [] qSg tMN JO fun x=>match x with
 |(t,im,fs,tb,me,gl,ex,st,el,co,da,k,_)=>.ck (gT t&&(decide (k<9223372036854775808)&&decide (im.length<=1099511627776))) (.ok ((jO t (kI im fs k)).1,(jO t (kI im fs k)).2,kG t (kI im fs k),()))
def e10:List (Nat×jJ):=[(75,s21)]
theorem amH{V cb}(W:WorldC V cb):j1 cb e10:=.cons (O0 W) .nil
theorem amI(t:List (den jK))(im:List (den kg))(fs:List Int)(tb me:List (den cF))(gl:List (den jQ))(ex:List (den kf))(st:Int)(el:List (den jS))(co:List (den jV))(da:List (den jZ))(k:Int):(mN (Ps [pM,.n .i64]) [] qSg (fun _=>none) Tryz.x29 3 (j7 e10 3) (cg tMN (t,im,fs,tb,me,gl,ex,st,el,co,da,k,()))).val=
 bif (bif decide (0<=k)then decide (k<(im.length:Int))else false)then cy (jA k (Int.ofNat im.length)) (cy (gT t) (some (cg JO ((jO t (im.getD k.toNat (cr kg)).2.2).1,(jO t (im.getD k.toNat (cr kg)).2.2).2,kG t (im.getD k.toNat (cr kg)).2.2,()))))
 else bif (bif decide ((im.length:Int)<=k)then decide (jF .i64 k (im.length:Int)<(fs.length:Int))else false)then cy (jA (jF .i64 k (im.length:Int)) (Int.ofNat fs.length)) (cy (gT t) (
  some (cg JO ((jO t (fs.getD (jF .i64 k (im.length:Int)).toNat (cr i64))).1,(jO t (fs.getD (jF .i64 k (im.length:Int)).toNat (cr i64))).2,kG t (fs.getD (jF .i64 k (im.length:Int)).toNat (cr i64)),()))))
 else cy (gT t)<|some (cg JO ((jO t (-1)).1,(jO t (-1)).2,kG t (-1),())):=by kernel_rfl
theorem Gs{V cb}(W:WorldC V cb):s10.Ok 29 cb:=by
 refine j4 (W.toWorld.in (amH W) 3) (W.st 29 _ rfl) rfl (cp _) (m:=3) rfl ?_;rintro⟨t,im,fs,tb,me,gl,ex,st,el,co,da,k,⟨⟩⟩ q h;obtain⟨h1,h2⟩:=Lf.T.cw h;cases h2;simp only[Bool.and_eq_true,decide_eq_true_eq]at h1;obtain⟨b0,b1,b2⟩:=h1;rw[amI,b0];have goal: ∀ j:Int,j=kI im fs k->some (cg JO ((jO t j).1,(jO t j).2,kG t j,()))=some (cg JO ((jO t (kI im fs k)).1,(jO t (kI im fs k)).2,kG t (kI im fs k),())):=by
  rintro j rfl;rfl
 cases c1:(bif decide ((0:Int)<=k)then decide (k<(im.length:Int))else false)with
 |true=>
  have hx:jA k (Int.ofNat im.length)=true:=by
   rw[Bool.cond_false_right,Bool.and_eq_true,decide_eq_true_eq,decide_eq_true_eq]at c1;exact nZ.2 c1
  rw[hx];exact goal _ (by unfold kI;rw[c1];rfl)
 |false=>
  cases c2:(bif decide ((im.length:Int)<=k)then decide (jF .i64 k (im.length:Int)<(fs.length:Int))else false)with
  |true=>
   have hx:jA (jF .i64 k (im.length:Int)) (Int.ofNat fs.length)=true:=by
    rw[Bool.cond_false_right,Bool.and_eq_true,decide_eq_true_eq,decide_eq_true_eq]at c2;exact nZ.2 ⟨aAQ c2.1 b1,c2.2⟩
   rw[hx];exact goal _ (by unfold kI;rw[c1,c2];rfl)
  |false=>exact goal _ (by unfold kI;rw[c1,c2];rfl)
end Go.Proofs.Vd
