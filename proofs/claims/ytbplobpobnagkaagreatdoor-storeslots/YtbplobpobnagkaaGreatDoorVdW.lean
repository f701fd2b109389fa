import Derived.Test.YtbplobpobnagkaaGreatDoorVbS
noncomputable section
namespace Go.Proofs.Vd
open Go.Ab Go.Ab.Lf
set_option maxRecDepth 100000
abbrev St:=List Int×Bool
abbrev oQ:= ∀ α:Type,St->(St->Option α)->Option α
def Wr(n:Nat)(F:oQ):Prop:= ∀ s:St,s.1.length+n<=1099511627776-> ∃ s':St,s'.1.length<=s.1.length+n/\ ∀ α K,F α s K=K s'
theorem Wr.le{n m:Nat}{F:oQ}(h:Wr n F)(hm:n<=m):Wr m F:=fun s hs=>by
 obtain⟨s',h1,h2⟩:=h s (by omega)
 exact⟨s',by omega,h2⟩
theorem Wr.seq{n m:Nat}{F G:oQ}(h1:Wr n F)(h2:Wr m G):Wr (n+m) (fun α s K=>F α s fun s=>G α s K):=fun s hs=>by
 obtain⟨s1,a1,b1⟩:=h1 s (by omega)
 obtain⟨s2,a2,b2⟩:=h2 s1 (by omega)
 refine⟨s2,by omega,fun α K=>?_⟩
 show F α s _=_
 rw[b1,b2]
theorem Wr.bif{n:Nat}{c:Bool}{F G:oQ}(h1:Wr n F)(h2:Wr n G):Wr n (fun α s K=>bif c then F α s K else G α s K):=by
 cases c
 ·exact h2
 ·exact h1
theorem Wr.nop:Wr 0 (fun _ s K=>K s):=fun s _=>⟨s,Nat.le_refl _,fun _ _=>rfl⟩
def jv(c:Bool):oQ:=fun _ s K=>K (s.1,s.2|| !c)
theorem gv(c:Bool):Wr 0 (jv c):=fun s _=>⟨(s.1,s.2|| !c),Nat.le_refl _,fun _ _=>rfl⟩
def iJ(l:List Int):oQ:=fun _ s K=>aM (decide (s.1.length+l.length<=1099511627776)) (K (s.1++l,s.2))
theorem fj(l:List Int):Wr l.length (iJ l):=fun s h=>⟨(s.1++l,s.2),by simp,fun _ K=>by unfold iJ aM;rw[decide_eq_true h];rfl⟩
theorem oS(l:List Int): ∀ s:St,(cK s l).1.length<=s.1.length+10*l.length:=by
 induction l with
 |nil=>intro s;simp[cK]
 |cons x l ih=>
  intro s
  have:=ih (u0 s x)
  have h:=kb (bq .u64 x)
  have e:cK s (x::l)=cK (u0 s x) l:=rfl
  rw[e]
  have e2:(u0 s x).1.length=s.1.length+(ju (bq .u64 x)).length:=by simp[u0]
  simp only[List.length_cons]
  omega
theorem yX(l:List Int): ∀ s:St,(fu s l).1.length=s.1.length+l.length:=by
 induction l with
 |nil=>intro s;simp[fu]
 |cons x l ih=>
  intro s
  have:=ih (p8 s x)
  have e:fu s (x::l)=fu (p8 s x) l:=rfl
  rw[e]
  have e2:(p8 s x).1.length=s.1.length+1:=by simp[p8]
  simp only[List.length_cons]
  omega
def ic(l:List Int):oQ:=fun _ s K=>aM (decide (s.1.length+10*l.length<=1099511627776)) (K (cK s l))
theorem fv(l:List Int):Wr (10*l.length) (ic l):=fun s h=>⟨cK s l,oS l s,fun _ K=>by unfold ic aM;rw[decide_eq_true h];rfl⟩
def tC(l:List Int):oQ:=fun _ s K=>aM (decide (s.1.length+l.length<=1099511627776)) (K (fu s l))
theorem vY(l:List Int):Wr l.length (tC l):=fun s h=>⟨fu s l,Nat.le_of_eq (yX l s),fun _ K=>by unfold tC aM;rw[decide_eq_true h];rfl⟩
def zV(l:List Int):oQ:=fun _ s K=>aM (roomy 1 (s.1.length+l.length)) (K (app s.1 l,s.2))
theorem B0(l:List Int):Wr l.length (zV l):=fun s h=>⟨(s.1++l,s.2),by simp,fun _ K=>by unfold zV aM;rw[bJ (by omega) h,bp];rfl⟩
def mW(F:oQ)(s:St):St:=(F St s some).getD s
theorem D5{n:Nat}{F:oQ}(h:Wr n F){s:St}(hs:s.1.length+n<=1099511627776):(mW F s).1.length<=s.1.length+n/\ ∀ α K,F α s K=K (mW F s):=by
 obtain⟨s',h1,h2⟩:=h s hs
 have e:mW F s=s':=by unfold mW;rw[h2];rfl
 rw[e]
 exact⟨h1,h2⟩
def wT(ok:Bool)(n:Nat)(F:oQ):oQ:=fun _ s K=>aM (ok&&decide (s.1.length+n<=1099511627776)) (K (mW F s))
theorem m0{ok:Bool}{n:Nat}{F:oQ}(h:Wr n F)(ho:ok=true):Wr n (wT ok n F):=fun s hs=>⟨mW F s,(D5 h hs).1,fun _ K=>by unfold wT aM;rw[ho,decide_eq_true hs];rfl⟩
abbrev k3(s:St):Option (List Pl):=some (aA [.ae u8,.bool] (s.1,s.2,()))
abbrev qW:jW:=Ps [.tu .nil,gV 2]
def sC(A:jW)(ta:List Ty)(F:aj ta->oQ)(wt:aj ta->Nat)(ok:aj ta->Bool):cR:=
 hU (.cons (gV 0) A) [2] qW (.ae u8::.bool::ta) [.ae u8,.bool] fun x=>.ck (ok x.2.2&&decide (x.1.length+wt x.2.2<=1099511627776)) (.ok ((mW (F x.2.2) (x.1,x.2.1)).1,(mW (F x.2.2) (x.1,x.2.1)).2,()))
theorem gL{call:eJ}{aq:aB}(C:oE call aq){f:FuncId}{b:dB}(hb:mT aq f b)(qC:Nat.ble b.ntmps 512=true){L:Nat->Option fA}(hL:jl Rx.w aq L b.code){m:Nat}{A:jW}{ta:List Ty}{F:aj ta->oQ}{wt:aj ta->Nat}{ok:aj ta->Bool}
 (hW: ∀ y,ok y=true->Wr (wt y) (F y))(ht: ∀ b1 k y,(iN (.cons (gV 0) A) [2] qW L b m call (aA (.ae u8::.bool::ta) (b1,k,y))).val=F y _ (b1,k) k3):(sC A ta F wt ok).Ok f aq:=by
 refine dF C hb qC hL (m:=m) rfl ?_
 rintro⟨b1,k,y⟩ q h
 obtain⟨h1,h2⟩:=Lf.T.ba h
 cases h2
 simp only[Bool.and_eq_true,decide_eq_true_eq]at h1
 rw[ht]
 exact(D5 (hW y h1.1) h1.2).2 _ k3
def KK(y:aj [.ae tI]):oQ:=fun _ s K=>aM (qw y.1) (aM (roomy 1 (s.1.length+(p9 y.1).length)) (K (app s.1 (p9 y.1),s.2|| !(decide (oP y.1=0)))))
theorem vZ(y:aj [.ae tI])(h:qw y.1=true):Wr (qL y.1) (KK y):=fun s hs=>by
 have h':=h
 simp only[qw,Bool.and_eq_true,decide_eq_true_eq]at h'
 have hl:=D4 y.1 h'.1
 exact⟨(s.1++p9 y.1,s.2|| !(decide (oP y.1=0))),by simp;omega,fun _ K=>by unfold KK aM;rw[h,bJ (by omega) (by omega),bp];rfl⟩
def s50:cR:=sC (Ps [.im tI]) [.ae tI] KK (fun y=>qL y.1) (fun y=>qw y.1)
def e50:List (Nat×cR):=[(43,S6),(84,s67)]
theorem Y9{aq:aB}(W:World aq):db aq e50:=.cons (ry W) (.cons (Y8 W) .nil)
theorem NR{aq:aB}(W:World aq):s50.Ok 65 aq:=by
 refine gL (W.in (Y9 W) 3) (W.st 65 _ rfl) rfl (aE _) (m:=3) vZ ?_
 rintro b k ⟨c,⟨⟩⟩
 kernel_rfl
end Go.Proofs.Vd

noncomputable section
namespace Go.Proofs.Vd
open Go.Ab Go.Ab.Lf
set_option maxRecDepth 100000
def gNo:Bool:=false
def AM(s:ByteArray):Bool:=decide (s.size<=9223372036854775807)&&gNo
def s66(V:ByteArray->Bool):cR:=hU (Ps [.st]) [] (Ps [.bo]) [.str] [.bool] fun x=>.ck (AM x.1) (.ok (V x.1,()))
structure WorldV(V:ByteArray->Bool)(aq:aB):Prop extends World aq where
 vs:(s66 V).Ok 83 aq
def eW:List (Nat×cR):=[(43,S6),(46,s31),(47,s32),(48,s33),(65,s50)]
theorem Ib{aq:aB}(W:World aq):db aq eW:=.cons (ry W) (.cons (Gp W) (.cons (yN W) (.cons (ND W) (.cons (NR W) .nil))))
def F44(y:aj [i64,.bool,.ae tI]):oQ:=fun α s K=>tC [y.1] α s fun s=>bif y.2.1 then iJ [1] α s fun s=>wT (qw y.2.2.1) (qL y.2.2.1) (KK y.2.2) α s K else iJ [0] α s fun s=>wT (qw y.2.2.1) (qL y.2.2.1) (KK y.2.2) α s K
def Y'(y:aj [i64,.bool,.ae tI]):Nat:=1+(1+qL y.2.2.1)
theorem NS(y:aj [i64,.bool,.ae tI])(h:qw y.2.2.1=true):Wr (Y' y) (F44 y):=
 (vY [y.1]).seq (.bif ((fj [1]).seq (m0 (vZ y.2.2 h) h)) ((fj [0]).seq (m0 (vZ y.2.2 h) h)))
def s44:cR:=sC (Ps [.ag (Ps [.n .i64,.bo,.im tI])]) [i64,.bool,.ae tI] F44 Y' fun y=>qw y.2.2.1
theorem Za{aq:aB}(W:World aq):s44.Ok 59 aq:=by
 refine gL (W.in (Ib W) 3) (W.st 59 _ rfl) rfl (aE _) (m:=3) NS ?_
 rintro b k ⟨t,m,c,⟨⟩⟩
 kernel_rfl
def F41(y:aj [i64,i64,i64]):oQ:=fun α s K=>jv (decide (y.1<=y.2.2.1)) α s fun s=>bif decide (y.2.1= -1)then iJ [0] α s fun s=>ic [y.1] α s K else iJ [1] α s fun s=>ic [y.1,y.2.1] α s K
theorem B1(y:aj [i64,i64,i64]):Wr 21 (F41 y):=
 ((gv _).seq (.bif (((fj [0]).seq (fv [y.1])).le (m:=21) (by simp)) ((fj [1]).seq (fv [y.1,y.2.1])))).le (by simp)
def s41:cR:=sC (Ps [.ag (Ps [.n .i64,.n .i64]),.n .i64]) [i64,i64,i64] F41 (fun _=>21) fun _=>true
theorem Zb{aq:aB}(W:World aq):s41.Ok 56 aq:=by
 refine gL (W.in (Ib W) 3) (W.st 56 _ rfl) rfl (aE _) (m:=3) (fun y _=>B1 y) ?_
 rintro b k ⟨mi,ma,mo,⟨⟩⟩
 kernel_rfl
def Qk(y:aj [u8,.ae u8,.bool]):oQ:=fun α s K=>jv (!y.2.2.1) α s fun s=>iJ [y.1] α s fun s=>ic [(y.2.1.length:Int)] α s fun s=>zV y.2.1 α s K
def wW(y:aj [u8,.ae u8,.bool]):Nat:=0+(1+(10+y.2.1.length))
theorem Gu(y:aj [u8,.ae u8,.bool]):Wr (wW y) (Qk y):=(gv _).seq ((fj [y.1]).seq ((fv [(y.2.1.length:Int)]).seq (B0 y.2.1)))
def s47:cR:=sC (Ps [.n .u8,gV 0]) [u8,.ae u8,.bool] Qk wW fun _=>true
theorem Gv{aq:aB}(W:World aq):s47.Ok 62 aq:=by
 refine gL (W.in (Ib W) 3) (W.st 62 _ rfl) rfl (aE _) (m:=3) (fun y _=>Gu y) ?_
 rintro b k ⟨id,b2,k2,⟨⟩⟩
 kernel_rfl
def Wd(s:ByteArray):List Int:=s.data.toList.map fun b=>Int.ofNat b.toNat
theorem Ic(s:ByteArray):(Wd s).length=s.size:=by unfold Wd;rw[List.length_map];rfl
def NT(V:ByteArray->Bool)(y:aj [.str]):oQ:=fun α s K=>aM (AM y.1)<|jv (V y.1) α s fun s=>ic [(y.1.size:Int)] α s fun s=>zV (Wd y.1) α s K
def u6(y:aj [.str]):Nat:=10+y.1.size
theorem yY(V:ByteArray->Bool)(y:aj [.str])(hg:AM y.1=true):Wr (u6 y) (NT V y):=by
 have e:NT V y=fun α s K=>jv (V y.1) α s fun s=>ic [(y.1.size:Int)] α s fun s=>zV (Wd y.1) α s K:=by
  unfold NT
  rw[hg]
  rfl
 rw[e]
 refine((gv (V y.1)).seq ((fv [(y.1.size:Int)]).seq (B0 (Wd y.1)))).le ?_
 rw[Ic]
 unfold u6
 simp only[List.length_cons,List.length_nil]
 omega
def s36(V:ByteArray->Bool):cR:=sC (Ps [.st]) [.str] (NT V) u6 fun y=>AM y.1
def e36(V:ByteArray->Bool):List (Nat×cR):=[(43,S6),(47,s32),(83,s66 V)]
theorem Zc{V:ByteArray->Bool}{aq:aB}(W:WorldV V aq):db aq (e36 V):=.cons (ry W.toWorld) (.cons (yN W.toWorld) (.cons W.vs .nil))
theorem Zd{V:ByteArray->Bool}{aq:aB}(W:WorldV V aq):(s36 V).Ok 51 aq:=by
 refine gL (W.toWorld.in (Zc W) 3) (W.st 51 _ rfl) rfl (aE _) (m:=3) (fun y h=>yY V y h) ?_
 rintro b k ⟨s,⟨⟩⟩
 kernel_rfl
def eV(V:ByteArray->Bool):List (Nat×cR):=[(43,S6),(46,s31),(47,s32),(48,s33),(51,s36 V),(56,s41),(62,s47),(65,s50)]
theorem wE{V:ByteArray->Bool}{aq:aB}(W:WorldV V aq):db aq (eV V):=.cons (ry W.toWorld) (.cons (Gp W.toWorld) (.cons (yN W.toWorld) (.cons (ND W.toWorld) (.cons (Zd W) (.cons (Zb W.toWorld) (.cons (Gv W.toWorld) (.cons (NR W.toWorld) .nil)))))))
def R30(y:aj [.ae i64,.ae i64]):oQ:=fun α s K=>iJ [96] α s fun s=>ic [(y.1.length:Int)] α s fun s=>tC y.1 α s fun s=>ic [(y.2.1.length:Int)] α s fun s=>tC y.2.1 α s K
def F30(y:aj [.ae i64,.ae i64]):oQ:=fun α s K=>bif decide ((y.1.length:Int)<=32)then jv (decide ((y.2.1.length:Int)<=32)) α s fun s=>R30 y α s K else jv false α s fun s=>R30 y α s K
def Ze(y:aj [.ae i64,.ae i64]):Nat:=0+(1+(10+(y.1.length+(10+y.2.1.length))))
theorem NU(y:aj [.ae i64,.ae i64]):Wr (1+(10+(y.1.length+(10+y.2.1.length)))) (R30 y):=(fj [96]).seq ((fv [(y.1.length:Int)]).seq ((vY y.1).seq ((fv [(y.2.1.length:Int)]).seq (vY y.2.1))))
theorem NV(y:aj [.ae i64,.ae i64]):Wr (Ze y) (F30 y):=.bif ((gv _).seq (NU y)) ((gv _).seq (NU y))
def s30:cR:=sC (Ps [.ag (Ps [.im i64,.im i64])]) [.ae i64,.ae i64] F30 Ze fun _=>true
theorem Zf{V:ByteArray->Bool}{aq:aB}(W:WorldV V aq):s30.Ok 45 aq:=by
 refine gL (W.toWorld.in (wE W) 3) (W.st 45 _ rfl) rfl (aE _) (m:=3) (fun y _=>NV y) ?_
 rintro b k ⟨i,o,⟨⟩⟩
 kernel_rfl
def F35(V:ByteArray->Bool)(y:aj [.str,.str,i64]):oQ:=fun α s K=>wT (AM y.1) (u6 (y.1,())) (NT V (y.1,())) α s fun s=>wT (AM y.2.1) (u6 (y.2.1,())) (NT V (y.2.1,())) α s fun s=>iJ [0] α s fun s=>ic [y.2.2.1] α s K
def Zg(y:aj [.str,.str,i64]):Nat:=u6 (y.1,())+(u6 (y.2.1,())+(1+10))
theorem NW(V:ByteArray->Bool)(y:aj [.str,.str,i64])(hg:(AM y.1&&AM y.2.1)=true):Wr (Zg y) (F35 V y):=(m0 (yY V (y.1,()) (Bool.and_eq_true _ _▸hg).1) (Bool.and_eq_true _ _▸hg).1).seq ((m0 (yY V (y.2.1,()) (Bool.and_eq_true _ _▸hg).2) (Bool.and_eq_true _ _▸hg).2).seq ((fj [0]).seq (fv [y.2.2.1])))
def s35(V:ByteArray->Bool):cR:=sC (Ps [.ag (Ps [.st,.st,.n .i64])]) [.str,.str,i64] (F35 V) Zg fun y=>AM y.1&&AM y.2.1
theorem Zh{V:ByteArray->Bool}{aq:aB}(W:WorldV V aq):(s35 V).Ok 50 aq:=by
 refine gL (W.toWorld.in (wE W) 3) (W.st 50 _ rfl) rfl (aE _) (m:=3) (fun y h=>NW V y h) ?_
 rintro b k ⟨m,n,t,⟨⟩⟩
 kernel_rfl
def F38(y:aj [i64]):oQ:=ic [y.1]
def s38:cR:=sC (Ps [.n .i64]) [i64] F38 (fun _=>10) fun _=>true
theorem Zi{V:ByteArray->Bool}{aq:aB}(W:WorldV V aq):s38.Ok 53 aq:=by
 refine gL (W.toWorld.in (wE W) 3) (W.st 53 _ rfl) rfl (aE _) (m:=3) (fun y _=>fv [y.1]) ?_
 rintro b k ⟨n,⟨⟩⟩
 kernel_rfl
def F40(y:aj [i64,i64]):oQ:=fun α s K=>iJ [112] α s fun s=>wT true 21 (F41 (y.1,y.2.1,1024,())) α s K
theorem NX(y:aj [i64,i64]):Wr 22 (F40 y):=(fj [112]).seq (m0 (B1 _) rfl)
def s40:cR:=sC (Ps [.ag (Ps [.n .i64,.n .i64])]) [i64,i64] F40 (fun _=>22) fun _=>true
theorem Zj{V:ByteArray->Bool}{aq:aB}(W:WorldV V aq):s40.Ok 55 aq:=by
 refine gL (W.toWorld.in (wE W) 3) (W.st 55 _ rfl) rfl (aE _) (m:=3) (fun y _=>NX y) ?_
 rintro b k ⟨mi,ma,⟨⟩⟩
 kernel_rfl
def F42(y:aj [i64,i64]):oQ:=wT true 21 (F41 (y.1,y.2.1,16,()))
def s42:cR:=sC (Ps [.ag (Ps [.n .i64,.n .i64])]) [i64,i64] F42 (fun _=>21) fun _=>true
theorem Zk{V:ByteArray->Bool}{aq:aB}(W:WorldV V aq):s42.Ok 57 aq:=by
 refine gL (W.toWorld.in (wE W) 3) (W.st 57 _ rfl) rfl (aE _) (m:=3) (fun y _=>m0 (B1 _) rfl) ?_
 rintro b k ⟨mi,ma,⟨⟩⟩
 kernel_rfl
end Go.Proofs.Vd

noncomputable section
namespace Go.Proofs.Vd
open Go.Ab Go.Ab.Lf
set_option maxRecDepth 100000
abbrev tS(t:Ty):List Ty:=[.ae u8,.bool,u8,.ae u8,.bool,.ae t,i64,i64]
abbrev tSo:List Ty:=[.ae u8,.bool,u8,.ae u8,.bool]
def lS(x:dB)(f:FuncId)(t:Ty):jX:=⟨0,fE x.code 0,[0,1,4,10,33,34,35],Ps [gV 2,.n .u8,.fn f .nil,gV 0,.im t,.n .i64,.n .i64],[⟨.lL,[0,1,10],Ps [gV 2,.n .u8,gV 0]⟩]⟩
def tD{α:Type}(G:α->oQ)(s:St)(l:List α):St:=l.foldl (fun s x=>mW (G x) s) s
def nr{α:Type}(wt:α->Nat)(l:List α):Nat:=l.foldr (fun x n=>wt x+n) 0
theorem oU{α:Type}(wt:α->Nat)(x:α)(l:List α):nr wt (x::l)=wt x+nr wt l:=rfl
structure Item(α:Type) where
 G:α->oQ
 wt:α->Nat
 ok:α->Bool
 wr: ∀ x,ok x=true->Wr (wt x) (G x)
 pos: ∀ x,1<=wt x
theorem Item.len{α:Type}(A:Item α)(l:List α):l.length<=nr A.wt l:=by
 induction l with
 |nil=>exact Nat.le_refl _
 |cons x l ih=>rw[oU];have:=A.pos x;simp only[List.length_cons];omega
theorem Item.row{α:Type}(A:Item α)(l:List α)(h:cu A.ok l=true): ∀ s:St,s.1.length+nr A.wt l<=1099511627776->(tD A.G s l).1.length<=s.1.length+nr A.wt l:=by
 induction l with
 |nil=>intro s _;exact Nat.le_refl _
 |cons x l ih=>
  intro s hs
  obtain⟨h1,h2⟩:=jP h
  rw[oU]at hs ⊢
  have k:=(D5 (A.wr x h1) (s:=s) (by omega)).1
  have:=ih h2 (mW (A.G x) s) (by omega)
  show(tD A.G (mW (A.G x) s) l).1.length<=_
  omega
def B3{t:Ty}(l:jX)(call:eJ)(A:Item (den t)):Prop:= ∀ b k id b2 k2 (r:List (den t)) n i,(l.step (fun _=>none) call 3 (aA (tS t) (b,k,id,b2,k2,r,n,i,()))).val=
 bif decide (i<n)then bif aU i (Int.ofNat r.length)then bif (A.ok (r.getD i.toNat (ao t))&&decide (b2.length+A.wt (r.getD i.toNat (ao t))<=1099511627776))then
  some (Rs.next (aA (tS t) (b,k,id,(mW (A.G (r.getD i.toNat (ao t))) (b2,k2)).1,(mW (A.G (r.getD i.toNat (ao t))) (b2,k2)).2,r,n,bw .i64 i 1,())))else none else none else some (Rs.out 0 (aA tSo (b,k,id,b2,k2,())))
theorem Th{t:Ty}{l:jX}{call:eJ}{A:Item (den t)}(hs:B3 l call A)(b:List Int)(k:Bool)(id:Int)(b2:List Int)(k2:Bool)(r:List (den t))(h1:cu A.ok r=true)(h2:b2.length+nr A.wt r<=1099511627776):
 gG (l.step (fun _=>none) call 3) (aA (tS t) (b,k,id,b2,k2,r,(r.length:Int),0,())) 0 (aA tSo (b,k,id,(tD A.G (b2,k2) r).1,(tD A.G (b2,k2) r).2,())):=by
 have hl:=A.len r
 have:=JR (f:=l.step (fun _=>none) call 3) (l:=r) (fun(q:St) j=>aA (tS t) (b,k,id,q.1,q.2,r,(r.length:Int),(j:Int),())) (fun q x=>.inl (mW (A.G x) q)) (fun q=>(0,aA tSo (b,k,id,q.1,q.2,())))
  (fun q u=>cu A.ok u=true/\q.1.length+nr A.wt u<=1099511627776) (fun q j x u h hi=>by
  obtain⟨b2,k2⟩:=q
  obtain⟨e1,e2⟩:=dr h (ao t)
  obtain⟨a0,a3⟩:=hi
  obtain⟨a1,a2⟩:=jP a0
  rw[oU]at a3
  have hj:j<4611686018427387904:=by omega
  have a3:b2.length+(A.wt x+nr A.wt u)<=1099511627776:=a3
  have a4:b2.length+A.wt x<=1099511627776:=by omega
  have hm:=(D5 (A.wr x a1) (s:=(b2,k2)) a4).1
  refine⟨?_,fun s' e=>?_⟩
  ·rw[hs,dX e1,cond_true,bX e1,cond_true,Int.toNat_natCast,e2,kE hj,a1,decide_eq_true a4]
   rfl
  ·cases e
   refine⟨a2,?_⟩
   have hm:(mW (A.G x) (b2,k2)).1.length<=b2.length+A.wt x:=hm
   omega) (fun q j h hj hi=>by
  have:j=r.length:=by have:=List.drop_eq_nil_iff.1 h;omega
  subst this
  rw[hs,dn (Nat.le_refl _)]
  rfl) r 0 (b2,k2) rfl (by omega) ⟨h1,h2⟩
 rw[fI]at this
 exact this
def gS{t:Ty}(A:Item (den t)):aj (tS t)->T (Nat×List Pl):=fun x=>.ck ((decide (x.2.2.2.2.2.2.1=(x.2.2.2.2.2.1.length:Int))&&decide (x.2.2.2.2.2.2.2.1=0))&&(cu A.ok x.2.2.2.2.2.1&&decide (x.2.2.2.1.length+nr A.wt x.2.2.2.2.2.1<=1099511627776)))
 (.ok (0,aA tSo (x.1,x.2.1,x.2.2.1,(tD A.G (x.2.2.2.1,x.2.2.2.2.1) x.2.2.2.2.2.1).1,(tD A.G (x.2.2.2.1,x.2.2.2.2.1) x.2.2.2.2.2.1).2,())))
theorem adT{t:Ty}{l:jX}{call:eJ}{A:Item (den t)}(hs:B3 l call A)(x:aj (tS t))(k:Nat)(q:List Pl)(h:(gS A x).val=some (k,q)):gG (l.step (fun _=>none) call 3) (aA (tS t) x) k q:=by
 obtain⟨b,bad,id,b2,k2,r,n,i,⟨⟩⟩:=x
 obtain⟨h1,h2⟩:=Lf.T.ba h
 cases h2
 simp only[Bool.and_eq_true,decide_eq_true_eq]at h1
 obtain⟨⟨b1,KI⟩,b3,b4⟩:=h1
 subst b1;subst KI
 exact Th hs b bad id b2 k2 r b3 b4
def FS{t:Ty}(A:Item (den t))(y:aj [u8,i64,.ae t]):oQ:=fun α s K=>jv (decide ((y.2.2.1.length:Int)<=y.2.1)) α s fun s=>bif decide ((y.2.2.1.length:Int)=0)then K s else
 aM (decide (([]:List Int).length+10*[(y.2.2.1.length:Int)].length<=1099511627776)) (
  let p:=cK ([],s.2) [(y.2.2.1.length:Int)]
  let q:=tD A.G p y.2.2.1
  aM ((decide ((y.2.2.1.length:Int)=(y.2.2.1.length:Int))&&decide ((0:Int)=0))&&(cu A.ok y.2.2.1&&decide (p.1.length+nr A.wt y.2.2.1<=1099511627776))) (wT true (wW (y.1,q.1,q.2,())) (Qk (y.1,q.1,q.2,())) α s K))
def wtS{t:Ty}(A:Item (den t))(y:aj [u8,i64,.ae t]):Nat:=21+nr A.wt y.2.2.1
theorem We{t:Ty}(A:Item (den t))(y:aj [u8,i64,.ae t])(h:cu A.ok y.2.2.1=true):Wr (wtS A y) (FS A y):=by
 refine((gv (decide ((y.2.2.1.length:Int)<=y.2.1))).seq (n:=0) (m:=21+nr A.wt y.2.2.1) ?_).le (by unfold wtS;omega)
 refine .bif (Wr.nop.le (Nat.zero_le _)) ?_
 intro s hs
 have hp:=oS [(y.2.2.1.length:Int)] ([],s.2)
 have hp:(cK ([],s.2) [(y.2.2.1.length:Int)]).1.length<=10:=by simpa using hp
 have hq:=A.row y.2.2.1 h (cK ([],s.2) [(y.2.2.1.length:Int)]) (by omega)
 have c1:(cK ([],s.2) [(y.2.2.1.length:Int)]).1.length+nr A.wt y.2.2.1<=1099511627776:=by omega
 let q:=tD A.G (cK ([],s.2) [(y.2.2.1.length:Int)]) y.2.2.1
 have hq:q.1.length<=10+nr A.wt y.2.2.1:=Nat.le_trans hq (Nat.add_le_add_right hp _)
 have hw:wW (y.1,q.1,q.2,())<=21+nr A.wt y.2.2.1:=by show 0+(1+(10+q.1.length))<=_;omega
 obtain⟨s',a1,a2⟩:=(m0 (Gu (y.1,q.1,q.2,())) rfl).le hw s hs
 refine⟨s',a1,fun α K=>?_⟩
 refine Eq.trans ?_ (a2 α K)
 show aM _ (aM ((decide _&&decide _)&&(cu A.ok y.2.2.1&&decide _)) _)=_
 rw[h,decide_eq_true c1]
 simp only[decide_true,Bool.and_self]
 rfl
def sS{t:Ty}(f:FuncId)(A:Item (den t)):cR:=sC (Ps [.n .u8,.n .i64,.im t,.fn f .nil]) [u8,i64,.ae t] (FS A) (wtS A) fun y=>cu A.ok y.2.2.1
def eP:List (Nat×cR):=[(43,S6),(47,s32),(62,s47)]
theorem adU{aq:aB}(W:World aq):db aq eP:=.cons (ry W) (.cons (yN W) (.cons (Gv W) .nil))
def LS{t:Ty}(b:dB)(f:FuncId)(A:Item (den t)):Nat->Option fA:=pX [(0,pW (lS b f t) (tS t) (gS A))]
theorem sO{aq:aB}(W:World aq){t:Ty}{f g:FuncId}{A:Item (den t)}{b:dB}{e:List (Nat×cR)}(he:db aq e)(hb:bkD g=some b)(qC:Nat.ble b.ntmps 512=true)(hs:B3 (lS b f t) (dH e 3) A)
 (hL:dZ Rx.w (pW (lS b f t) (tS t) (gS A)) (fun n d=>gD (aq n d) n (.bl 0 (.lp (lS b f t).body)))->jl Rx.w aq (LS b f A) b.code)
 (ht: ∀ b1 k y,(iN (.cons (gV 0) (Ps [.n .u8,.n .i64,.im t,.fn f .nil])) [2] qW (LS b f A) b 3 (dH eP 3) (aA (.ae u8::.bool:: [u8,i64,.ae t]) (b1,k,y))).val=FS A y _ (b1,k) k3):(sS f A).Ok g aq:=
 gL (W.in (adU W) 3) (W.st g _ hb) qC (hL (iG (W.in he 3) (aE _) (m:=3) (adT hs))) (m:=3) (We A) ht
def Wf:Item (den i64):=⟨fun x=>F38 (x,()),fun _=>10,fun _=>true,fun x _=>fv [x],fun _=>by decide⟩
theorem adV{V:ByteArray->Bool}{aq:aB}(W:WorldV V aq):(sS 53 Wf).Ok 52 aq:=by
 refine sO W.toWorld (b:=Tryz.x52) (e:=[(53,s38)]) (.cons (Zi W) .nil) rfl rfl ?_ (fun h=>fq.jl (.cons (b:=(lS Tryz.x52 53 i64).body) (by kernel_rfl) h .nil)) ?_
 ·intro b k id b2 k2 r n i
  kernel_rfl
 ·rintro b k ⟨id,mo,r,⟨⟩⟩
  kernel_rfl
end Go.Proofs.Vd

noncomputable section
namespace Go.Proofs.Vd
open Go.Ab Go.Ab.Lf
set_option maxRecDepth 100000
def F46(V:ByteArray->Bool)(y:aj [.str,i64,i64]):oQ:=fun α s K=>bif decide (0<=y.2.1)then(jv (decide (y.2.1<=3)) α s fun s=>wT (AM y.1) (u6 (y.1,())) (NT V (y.1,())) α s fun s=>iJ [bq .u8 y.2.1] α s fun s=>ic [y.2.2.1] α s K)
 else(jv false α s fun s=>wT (AM y.1) (u6 (y.1,())) (NT V (y.1,())) α s fun s=>iJ [bq .u8 y.2.1] α s fun s=>ic [y.2.2.1] α s K)
def Zl(y:aj [.str,i64,i64]):Nat:=0+(u6 (y.1,())+(1+10))
theorem NY(V:ByteArray->Bool)(y:aj [.str,i64,i64])(hg:AM y.1=true):Wr (Zl y) (F46 V y):=.bif ((gv _).seq ((m0 (yY V (y.1,()) hg) hg).seq ((fj [_]).seq (fv [y.2.2.1])))) ((gv _).seq ((m0 (yY V (y.1,()) hg) hg).seq ((fj [_]).seq (fv [y.2.2.1]))))
def s46(V:ByteArray->Bool):cR:=sC (Ps [.ag (Ps [.st,.n .i64,.n .i64])]) [.str,i64,i64] (F46 V) Zl fun y=>AM y.1
theorem Zm{V:ByteArray->Bool}{aq:aB}(W:WorldV V aq):(s46 V).Ok 61 aq:=by
 refine gL (W.toWorld.in (wE W) 3) (W.st 61 _ rfl) rfl (aE _) (m:=3) (fun y h=>NY V y h) ?_
 rintro b k ⟨n,kd,ix,⟨⟩⟩
 kernel_rfl
def F49(y:aj [.ae tI,.ae i64]):oQ:=fun α s K=>jv (decide ((y.2.1.length:Int)<=1024)) α s fun s=>iJ [0] α s fun s=>wT (qw y.1) (qL y.1) (KK (y.1,())) α s fun s=>ic [(y.2.1.length:Int)] α s fun s=>ic y.2.1 α s K
def Zn(y:aj [.ae tI,.ae i64]):Nat:=0+(1+(qL y.1+(10+10*y.2.1.length)))
theorem NZ(y:aj [.ae tI,.ae i64])(h:qw y.1=true):Wr (Zn y) (F49 y):=(gv _).seq ((fj [0]).seq ((m0 (vZ (y.1,()) h) h).seq ((fv [(y.2.1.length:Int)]).seq (fv y.2.1))))
def s49:cR:=sC (Ps [.ag (Ps [.im tI,.im i64])]) [.ae tI,.ae i64] F49 Zn fun y=>qw y.1
theorem Zo{V:ByteArray->Bool}{aq:aB}(W:WorldV V aq):s49.Ok 64 aq:=by
 refine gL (W.toWorld.in (wE W) 3) (W.st 64 _ rfl) rfl (aE _) (m:=3) NZ ?_
 rintro b k ⟨c,fs,⟨⟩⟩
 kernel_rfl
def F54(y:aj [.ae tI,.ae u8]):oQ:=fun α s K=>iJ [0] α s fun s=>wT (qw y.1) (qL y.1) (KK (y.1,())) α s fun s=>ic [(y.2.1.length:Int)] α s fun s=>iJ y.2.1 α s K
def Zp(y:aj [.ae tI,.ae u8]):Nat:=1+(qL y.1+(10+y.2.1.length))
theorem N2(y:aj [.ae tI,.ae u8])(h:qw y.1=true):Wr (Zp y) (F54 y):=(fj [0]).seq ((m0 (vZ (y.1,()) h) h).seq ((fv [(y.2.1.length:Int)]).seq (fj y.2.1)))
def s54:cR:=sC (Ps [.ag (Ps [.im tI,.im u8])]) [.ae tI,.ae u8] F54 Zp fun y=>qw y.1
theorem Zq{V:ByteArray->Bool}{aq:aB}(W:WorldV V aq):s54.Ok 69 aq:=by
 refine gL (W.toWorld.in (wE W) 3) (W.st 69 _ rfl) rfl (aE _) (m:=3) N2 ?_
 rintro b k ⟨c,fs,⟨⟩⟩
 kernel_rfl
abbrev aH:Ty:=.pair (.ae i64) (.ae i64)
abbrev aS:Ty:=.pair .str (.pair .str i64)
abbrev ak:Ty:=.pair i64 i64
abbrev aC:Ty:=.pair i64 (.pair .bool (.ae tI))
abbrev aR:Ty:=.pair .str (.pair i64 i64)
abbrev aG:Ty:=.pair (.ae tI) (.ae i64)
abbrev aL:Ty:=.pair (.ae i64) (.ae tI)
abbrev aJ:Ty:=.pair (.ae tI) (.ae u8)
def Wg:Item (den aH):=⟨fun x=>F30 (x.1,x.2,()),fun x=>Ze (x.1,x.2,()),fun _=>true,fun x _=>NV _,fun x=>by show 1<=0+(1+_);omega⟩
def Zr(V:ByteArray->Bool):Item (den aS):=⟨fun x=>F35 V (x.1,x.2.1,x.2.2,()),fun x=>Zg (x.1,x.2.1,x.2.2,()),fun x=>AM x.1&&AM x.2.1,fun x h=>NW V (x.1,x.2.1,x.2.2,()) h,fun x=>by show 1<=u6 _+(u6 _+(1+10));omega⟩
def Wh:Item (den ak):=⟨fun x=>F40 (x.1,x.2,()),fun _=>22,fun _=>true,fun x _=>NX _,fun _=>by decide⟩
def Wi:Item (den ak):=⟨fun x=>F42 (x.1,x.2,()),fun _=>21,fun _=>true,fun x _=>m0 (B1 _) rfl,fun _=>by decide⟩
def Gw:Item (den aC):=⟨fun x=>F44 (x.1,x.2.1,x.2.2,()),fun x=>Y' (x.1,x.2.1,x.2.2,()),fun x=>qw x.2.2,fun x h=>NS _ h,fun x=>by show 1<=1+_;omega⟩
def Zs(V:ByteArray->Bool):Item (den aR):=⟨fun x=>F46 V (x.1,x.2.1,x.2.2,()),fun x=>Zl (x.1,x.2.1,x.2.2,()),fun x=>AM x.1,fun x h=>NY V (x.1,x.2.1,x.2.2,()) h,fun x=>by show 1<=0+(u6 _+(1+10));omega⟩
def Ti:Item (den aG):=⟨fun x=>F49 (x.1,x.2,()),fun x=>Zn (x.1,x.2,()),fun x=>qw x.1,fun x h=>NZ _ h,fun x=>by show 1<=0+(1+_);omega⟩
def Tj:Item (den aJ):=⟨fun x=>F54 (x.1,x.2,()),fun x=>Zp (x.1,x.2,()),fun x=>qw x.1,fun x h=>N2 _ h,fun x=>by show 1<=1+_;omega⟩
theorem N3{V:ByteArray->Bool}{aq:aB}(W:WorldV V aq):(sS 45 Wg).Ok 44 aq:=by
 refine sO W.toWorld (b:=Tryz.x44) (e:=[(45,s30)]) (.cons (Zf W) .nil) rfl rfl ?_ (fun h=>fq.jl (.cons (b:=(lS Tryz.x44 45 aH).body) (by kernel_rfl) h .nil)) ?_
 ·intro b k id b2 k2 r n i
  kernel_rfl
 ·rintro b k ⟨id,mo,r,⟨⟩⟩
  kernel_rfl
theorem N4{V:ByteArray->Bool}{aq:aB}(W:WorldV V aq):(sS 50 (Zr V)).Ok 49 aq:=by
 refine sO W.toWorld (b:=Tryz.x49) (e:=[(50,s35 V)]) (.cons (Zh W) .nil) rfl rfl ?_ (fun h=>fq.jl (.cons (b:=(lS Tryz.x49 50 aS).body) (by kernel_rfl) h .nil)) ?_
 ·intro b k id b2 k2 r n i
  kernel_rfl
 ·rintro b k ⟨id,mo,r,⟨⟩⟩
  kernel_rfl
theorem N5{V:ByteArray->Bool}{aq:aB}(W:WorldV V aq):(sS 55 Wh).Ok 54 aq:=by
 refine sO W.toWorld (b:=Tryz.x54) (e:=[(55,s40)]) (.cons (Zj W) .nil) rfl rfl ?_ (fun h=>fq.jl (.cons (b:=(lS Tryz.x54 55 ak).body) (by kernel_rfl) h .nil)) ?_
 ·intro b k id b2 k2 r n i
  kernel_rfl
 ·rintro b k ⟨id,mo,r,⟨⟩⟩
  kernel_rfl
theorem N6{V:ByteArray->Bool}{aq:aB}(W:WorldV V aq):(sS 57 Wi).Ok 54 aq:=by
 refine sO W.toWorld (b:=Tryz.x54) (e:=[(57,s42)]) (.cons (Zk W) .nil) rfl rfl ?_ (fun h=>fq.jl (.cons (b:=(lS Tryz.x54 57 ak).body) (by kernel_rfl) h .nil)) ?_
 ·intro b k id b2 k2 r n i
  kernel_rfl
 ·rintro b k ⟨id,mo,r,⟨⟩⟩
  kernel_rfl
theorem N7{V:ByteArray->Bool}{aq:aB}(W:WorldV V aq):(sS 59 Gw).Ok 58 aq:=by
 refine sO W.toWorld (b:=Tryz.x58) (e:=[(59,s44)]) (.cons (Za W.toWorld) .nil) rfl rfl ?_ (fun h=>fq.jl (.cons (b:=(lS Tryz.x58 59 aC).body) (by kernel_rfl) h .nil)) ?_
 ·intro b k id b2 k2 r n i
  kernel_rfl
 ·rintro b k ⟨id,mo,r,⟨⟩⟩
  kernel_rfl
theorem N8{V:ByteArray->Bool}{aq:aB}(W:WorldV V aq):(sS 61 (Zs V)).Ok 60 aq:=by
 refine sO W.toWorld (b:=Tryz.x60) (e:=[(61,s46 V)]) (.cons (Zm W) .nil) rfl rfl ?_ (fun h=>fq.jl (.cons (b:=(lS Tryz.x60 61 aR).body) (by kernel_rfl) h .nil)) ?_
 ·intro b k id b2 k2 r n i
  kernel_rfl
 ·rintro b k ⟨id,mo,r,⟨⟩⟩
  kernel_rfl
theorem N9{V:ByteArray->Bool}{aq:aB}(W:WorldV V aq):(sS 64 Ti).Ok 63 aq:=by
 refine sO W.toWorld (b:=Tryz.x63) (e:=[(64,s49)]) (.cons (Zo W) .nil) rfl rfl ?_ (fun h=>fq.jl (.cons (b:=(lS Tryz.x63 64 aG).body) (by kernel_rfl) h .nil)) ?_
 ·intro b k id b2 k2 r n i
  kernel_rfl
 ·rintro b k ⟨id,mo,r,⟨⟩⟩
  kernel_rfl
theorem Oa{V:ByteArray->Bool}{aq:aB}(W:WorldV V aq):(sS 69 Tj).Ok 68 aq:=by
 refine sO W.toWorld (b:=Tryz.x68) (e:=[(69,s54)]) (.cons (Zq W) .nil) rfl rfl ?_ (fun h=>fq.jl (.cons (b:=(lS Tryz.x68 69 aJ).body) (by kernel_rfl) h .nil)) ?_
 ·intro b k id b2 k2 r n i
  kernel_rfl
 ·rintro b k ⟨id,mo,r,⟨⟩⟩
  kernel_rfl
end Go.Proofs.Vd

noncomputable section
namespace Go.Proofs.Vd
open Go.Ab Go.Ab.Lf
set_option maxRecDepth 100000
abbrev pC2:jW:=.pt 0 (Ps [.im i64,.im tI])
abbrev Ql:List Ty:=[.ae u8,.bool,.ae i64,.ae tI,.ae u8,.bool,i64,i64,i64]
abbrev wX:List Ty:=[.ae u8,.bool,.ae i64,.ae tI,.ae u8,.bool,i64,i64]
abbrev wY:List Ty:=[.ae u8,.bool,.ae i64,.ae tI,.ae u8,.bool,i64]
abbrev Zt:List Ty:=[.ae u8,.bool,.ae i64,.ae tI,.ae u8,.bool]
def D6:jX:=⟨0,fE Tryz.x67.code 0,[0,3,4,5,19,20],Ps [gV 2,pC2,gV 0,.n .i64,.n .i64,.n .i64],[⟨.lL,[0,3,4,5],Ps [gV 2,pC2,gV 0,.n .i64]⟩]⟩
def Gx:jX:=⟨4,fE Tryz.x67.code 4,[0,3,4,7,8],Ps [gV 2,pC2,gV 0,.n .i64,.n .i64],[⟨.lL,[0,3,4,7,8],Ps [gV 2,pC2,gV 0,.n .i64,.n .i64]⟩]⟩
def Gy:jX:=⟨2,fE Tryz.x67.code 2,[0,3,4,7],Ps [gV 2,pC2,gV 0,.n .i64],[⟨.lL,[0,3,4],Ps [gV 2,pC2,gV 0]⟩]⟩
def Ob(L:List Int)(r:Int)(j:Nat):Int:=bif (bif decide ((j:Int)=0)then true else !decide (L.getD (j:Int).toNat (ao i64)=L.getD (bQ .i64 (j:Int) 1).toNat (ao i64)))then bw .i64 r 1 else r
def ee(L:List Int)(r:Int):Int:=(List.range L.length).foldl (Ob L) r
theorem AN(b:List Int)(k:Bool)(L:List Int)(c:List (den tI))(b2:List Int)(k2:Bool)(r n i:Int):(D6.step (fun _=>none) (dH eW 3) 3 (aA Ql (b,k,L,c,b2,k2,r,n,i,()))).val=
 bif decide (i<n)then bif (bif decide (i=0)then true else(aU i (Int.ofNat L.length)&&aU (bQ .i64 i 1) (Int.ofNat L.length)))then
  bif (bif decide (i=0)then true else !decide (L.getD i.toNat (ao i64)=L.getD (bQ .i64 i 1).toNat (ao i64)))then some (Rs.next (aA Ql (b,k,L,c,b2,k2,bw .i64 r 1,n,bw .i64 i 1,())))else some (Rs.next (aA Ql (b,k,L,c,b2,k2,r,n,bw .i64 i 1,())))else none
 else some (Rs.out 0 (aA wY (b,k,L,c,b2,k2,r,()))):=by kernel_rfl
theorem Oe(b:List Int)(k:Bool)(L:List Int)(c:List (den tI))(b2:List Int)(k2:Bool)(r:Int)(hL:L.length<=1099511627776):
 gG (D6.step (fun _=>none) (dH eW 3) 3) (aA Ql (b,k,L,c,b2,k2,r,(L.length:Int),0,())) 0 (aA wY (b,k,L,c,b2,k2,ee L r,())):=by
 have:=JR (f:=D6.step (fun _=>none) (dH eW 3) 3) (l:=List.range L.length) (fun(q:Int) j=>aA Ql (b,k,L,c,b2,k2,q,(L.length:Int),(j:Int),())) (fun q x=>.inl (Ob L q x)) (fun q=>(0,aA wY (b,k,L,c,b2,k2,q,()))) (fun _ _=>True) (fun q j x u h _=>by
  obtain⟨e1,e2⟩:=dr h 0
  have e3:x=j:=by
   rw[<-e2,List.getD_eq_getElem?_getD,List.getElem?_eq_getElem e1]
   simp
  subst e3
  rw[List.length_range]at e1
  have hj:x<4611686018427387904:=by omega
  refine⟨?_,fun _ _=>trivial⟩
  rw[AN,dX e1,cond_true,kE hj]
  have hc:(bif decide ((x:Int)=0)then true else(aU (x:Int) (Int.ofNat L.length)&&aU (bQ .i64 (x:Int) 1) (Int.ofNat L.length)))=true:=by
   by_cases h0:x=0
   ·subst h0;rfl
   ·rw[decide_eq_false (by omega),cond_false,bX e1,BU (by omega) (by omega),bX (by omega)]
    rfl
  rw[hc,cond_true]
  unfold Ob
  cases(bif decide ((x:Int)=0)then true else !decide (L.getD (x:Int).toNat (ao i64)=L.getD (bQ .i64 (x:Int) 1).toNat (ao i64)))<;>rfl) (fun q j h hj _=>by
  have:j=L.length:=by have:=List.drop_eq_nil_iff.1 h;rw[List.length_range]at this hj;omega
  subst this
  rw[AN,dn (Nat.le_refl _)]
  rfl) (List.range L.length) 0 r rfl (by rw[List.length_range];omega) trivial
 rw[fI]at this
 exact this
def Zu:aj Ql->T (Nat×List Pl):=fun x=>.ck ((decide (x.2.2.2.2.2.2.2.1=(x.2.2.1.length:Int))&&decide (x.2.2.2.2.2.2.2.2.1=0))&&decide (x.2.2.1.length<=1099511627776)) (.ok (0,aA wY (x.1,x.2.1,x.2.2.1,x.2.2.2.1,x.2.2.2.2.1,x.2.2.2.2.2.1,ee x.2.2.1 x.2.2.2.2.2.2.1,())))
theorem Tk(x:aj Ql)(k:Nat)(q:List Pl)(h:(Zu x).val=some (k,q)):gG (D6.step (fun _=>none) (dH eW 3) 3) (aA Ql x) k q:=by
 obtain⟨b,bad,L,c,b2,k2,r,n,i,⟨⟩⟩:=x
 obtain⟨h1,h2⟩:=Lf.T.ba h
 cases h2
 simp only[Bool.and_eq_true,decide_eq_true_eq]at h1
 obtain⟨⟨b1,KI⟩,b3⟩:=h1
 subst b1;subst KI
 exact Oe b bad L c b2 k2 r b3
def oV(L:List Int)(i:Nat):Nat->Nat->Nat
 |0,n=>n
 |k+1,n=>if i+n<L.length/\L.getD (i+n) (ao i64)=L.getD i (ao i64)then oV L i k (n+1)else n
theorem D7(L:List Int)(i:Nat): ∀ (k n:Nat),i+n<=L.length->n<=oV L i k n/\i+oV L i k n<=L.length
 |0,n,h=>⟨Nat.le_refl _,h⟩
 |k+1,n,h=>by
  unfold oV
  split
  ·rename_i hc
   have:=D7 L i k (n+1) (by omega)
   omega
  ·exact⟨Nat.le_refl _,h⟩
theorem JV{i n:Nat}(h:i+n<4611686018427387904):bw .i64 (i:Int) (n:Int)=((i+n:Nat):Int):=by
 show eZ .i64 ((i:Int)+(n:Int))=_
 rw[wrap_i64 (by omega) (by omega)]
 omega
theorem r6(b:List Int)(k:Bool)(L:List Int)(c:List (den tI))(b2:List Int)(k2:Bool)(i n:Int):(Gx.step (fun _=>none) (dH eW 3) 3 (aA wX (b,k,L,c,b2,k2,i,n,()))).val=
 bif (bif decide (bw .i64 i n<Int.ofNat L.length)then(aU (bw .i64 i n) (Int.ofNat L.length)&&aU i (Int.ofNat L.length))else true)then
  bif (bif decide (bw .i64 i n<Int.ofNat L.length)then decide (L.getD (bw .i64 i n).toNat (ao i64)=L.getD i.toNat (ao i64))else false)then some (Rs.next (aA wX (b,k,L,c,b2,k2,i,bw .i64 n 1,())))else some (Rs.out 0 (aA wX (b,k,L,c,b2,k2,i,n,())))
 else none:=by kernel_rfl
theorem D8(b:List Int)(k:Bool)(L:List Int)(c:List (den tI))(b2:List Int)(k2:Bool)(i:Nat)(hL:L.length<=1099511627776)(hi:i<L.length): ∀ (f n:Nat),i+n<=L.length->L.length<=i+n+f->
 gG (Gx.step (fun _=>none) (dH eW 3) 3) (aA wX (b,k,L,c,b2,k2,(i:Int),(n:Int),())) 0 (aA wX (b,k,L,c,b2,k2,(i:Int),(oV L i f n:Nat),()))
 |0,n,h1,h2=>by
  refine .last ?_
  rw[r6,JV (by omega),show Int.ofNat L.length=(L.length:Int)from rfl,dn (by omega)]
  rfl
 |f+1,n,h1,h2=>by
  by_cases hn:i+n<L.length
  ·have e0:((i:Nat):Int).toNat=i:=Int.toNat_natCast i
   by_cases hq:L.getD (i+n) (ao i64)=L.getD i (ao i64)
   ·refine .more (pl':=aA wX (b,k,L,c,b2,k2,(i:Int),((n+1:Nat):Int),())) ?_ ?_
    ·rw[r6,JV (by omega),bX hn,bX hi,Int.toNat_natCast,e0,show Int.ofNat L.length=(L.length:Int)from rfl,dX hn,decide_eq_true hq,kE (by omega)]
     rfl
    ·have e:oV L i (f+1) n=oV L i f (n+1):=if_pos ⟨hn,hq⟩
     rw[e]
     exact D8 b k L c b2 k2 i hL hi f (n+1) (by omega) (by omega)
   ·refine .last ?_
    have e:oV L i (f+1) n=n:=if_neg (fun h=>hq h.2)
    rw[r6,JV (by omega),bX hn,bX hi,Int.toNat_natCast,e0,show Int.ofNat L.length=(L.length:Int)from rfl,dX hn,decide_eq_false hq,e]
    rfl
  ·refine .last ?_
   have e:oV L i (f+1) n=n:=if_neg (fun h=>hn h.1)
   rw[r6,JV (by omega),show Int.ofNat L.length=(L.length:Int)from rfl,dn (by omega),e]
   rfl
def gW(L:List Int)(i:Int):Nat:=oV L i.toNat L.length 1
def Zv:aj wX->T (Nat×List Pl):=fun x=>.ck (((decide (0<=x.2.2.2.2.2.2.1)&&decide (x.2.2.2.2.2.2.1<(x.2.2.1.length:Int)))&&decide (x.2.2.2.2.2.2.2.1=1))&&decide (x.2.2.1.length<=1099511627776)) (.ok (0,aA wX (x.1,x.2.1,x.2.2.1,x.2.2.2.1,x.2.2.2.2.1,x.2.2.2.2.2.1,x.2.2.2.2.2.2.1,(gW x.2.2.1 x.2.2.2.2.2.2.1:Int),())))
theorem Tl(x:aj wX)(k:Nat)(q:List Pl)(h:(Zv x).val=some (k,q)):gG (Gx.step (fun _=>none) (dH eW 3) 3) (aA wX x) k q:=by
 obtain⟨b,bad,L,c,b2,k2,i,n,⟨⟩⟩:=x
 obtain⟨h1,h2⟩:=Lf.T.ba h
 cases h2
 simp only[Bool.and_eq_true,decide_eq_true_eq]at h1
 obtain⟨⟨⟨b1,KI⟩,b3⟩,b4⟩:=h1
 subst b3
 obtain⟨j,rfl⟩:=Int.eq_ofNat_of_zero_le b1
 have KI:(j:Int)<(L.length:Int):=KI
 have:=D8 b bad L c b2 k2 j b4 (by omega) L.length 1 (by omega) (by omega)
 exact this
def rB(L:List Int):Nat->St->Nat->St
 |0,s,_=>s
 |k+1,s,i=>if i<L.length then rB L k (fu (cK s [(gW L (i:Int):Int)]) [L.getD i (ao i64)]) (i+gW L (i:Int))else s
theorem B4(L:List Int)(i:Nat)(h:i<L.length):1<=gW L (i:Int)/\i+gW L (i:Int)<=L.length:=D7 L i L.length 1 (by omega)
def Tn:Nat->Option fA:=pX [(4,pW Gx wX Zv)]
theorem v3(b:List Int)(k:Bool)(L:List Int)(c:List (den tI))(b2:List Int)(k2:Bool)(i:Int):(Gy.step Tn (dH eW 3) 3 (aA wY (b,k,L,c,b2,k2,i,()))).val=
 bif decide (i<Int.ofNat L.length)then bif ((decide (0<=i)&&decide (i<(L.length:Int)))&&decide ((1:Int)=1))&&decide (L.length<=1099511627776)then bif decide (b2.length+10*[(gW L i:Int)].length<=1099511627776)then bif aU i (Int.ofNat L.length)then
  bif decide ((cK (b2,k2) [(gW L i:Int)]).1.length+[L.getD i.toNat (ao i64)].length<=1099511627776)then some (Rs.next (aA wY (b,k,L,c,(fu (cK (b2,k2) [(gW L i:Int)]) [L.getD i.toNat (ao i64)]).1,(fu (cK (b2,k2) [(gW L i:Int)]) [L.getD i.toNat (ao i64)]).2,bw .i64 i (gW L i:Int),())))
  else none else none else none else none else some (Rs.out 0 (aA Zt (b,k,L,c,b2,k2,()))):=by kernel_rfl
theorem yZ(b:List Int)(k:Bool)(L:List Int)(c:List (den tI))(hL:L.length<=1099511627776): ∀ (f:Nat) (s:St) (i:Nat),i<=L.length->L.length<=i+f->s.1.length+11*(L.length - i)<=1099511627776->
 gG (Gy.step Tn (dH eW 3) 3) (aA wY (b,k,L,c,s.1,s.2,(i:Int),())) 0 (aA Zt (b,k,L,c,(rB L f s i).1,(rB L f s i).2,()))/\(rB L f s i).1.length<=s.1.length+11*(L.length - i)
 |0,s,i,h1,h2,h3=>by
  refine⟨.last ?_,Nat.le_add_right _ _⟩
  rw[v3,show Int.ofNat L.length=(L.length:Int)from rfl,dn (by omega)]
  rfl
 |f+1,s,i,h1,h2,h3=>by
  by_cases hi:i<L.length
  ·obtain⟨r1,r2⟩:=B4 L i hi
   have hn:=oS [(gW L (i:Int):Int)] s
   have hn:(cK s [(gW L (i:Int):Int)]).1.length<=s.1.length+10:=by simpa using hn
   have hk:=yX [L.getD i (ao i64)] (cK s [(gW L (i:Int):Int)])
   have hk:(fu (cK s [(gW L (i:Int):Int)]) [L.getD i (ao i64)]).1.length=(cK s [(gW L (i:Int):Int)]).1.length+1:=by simpa using hk
   obtain⟨a1,a2⟩:=yZ b k L c hL f (fu (cK s [(gW L (i:Int):Int)]) [L.getD i (ao i64)]) (i+gW L (i:Int)) r2 (by omega) (by omega)
   have e:rB L (f+1) s i=rB L f (fu (cK s [(gW L (i:Int):Int)]) [L.getD i (ao i64)]) (i+gW L (i:Int)):=if_pos hi
   rw[e]
   refine⟨.more ?_ a1,by omega⟩
   have c1:s.1.length+10*[(gW L (i:Int):Int)].length<=1099511627776:=by simp only[List.length_cons,List.length_nil];omega
   have c2:(cK s [(gW L (i:Int):Int)]).1.length+[L.getD i (ao i64)].length<=1099511627776:=by simp only[List.length_cons,List.length_nil];omega
   rw[v3,bX hi,Int.toNat_natCast,show Int.ofNat L.length=(L.length:Int)from rfl,dX hi,JV (by omega),decide_eq_true c1,decide_eq_true (show(0:Int)<=(i:Int) by omega),decide_eq_true hL]
   show(bif decide _ then _ else _)=_
   rw[decide_eq_true c2]
   rfl
  ·have e:rB L (f+1) s i=s:=if_neg hi
   rw[e]
   refine⟨.last ?_,Nat.le_add_right _ _⟩
   rw[v3,show Int.ofNat L.length=(L.length:Int)from rfl,dn (by omega)]
   rfl
def wZ(s:St)(L:List Int):St:=rB L L.length s 0
def Zw:aj wY->T (Nat×List Pl):=fun x=>.ck ((decide (x.2.2.2.2.2.2.1=0)&&decide (x.2.2.1.length<=1099511627776))&&decide (x.2.2.2.2.1.length+11*x.2.2.1.length<=1099511627776)) (.ok (0,aA Zt (x.1,x.2.1,x.2.2.1,x.2.2.2.1,(wZ (x.2.2.2.2.1,x.2.2.2.2.2.1) x.2.2.1).1,(wZ (x.2.2.2.2.1,x.2.2.2.2.2.1) x.2.2.1).2,())))
theorem To(x:aj wY)(k:Nat)(q:List Pl)(h:(Zw x).val=some (k,q)):gG (Gy.step Tn (dH eW 3) 3) (aA wY x) k q:=by
 obtain⟨b,bad,L,c,b2,k2,i,⟨⟩⟩:=x
 obtain⟨h1,h2⟩:=Lf.T.ba h
 cases h2
 simp only[Bool.and_eq_true,decide_eq_true_eq]at h1
 obtain⟨⟨b1,KI⟩,b3⟩:=h1
 subst b1
 exact(yZ b bad L c KI L.length (b2,k2) 0 (by omega) (by omega) (by simpa using b3)).1
def L52:Nat->Option fA:=pX [(0,pW D6 Ql Zu),(2,pW Gy wY Zw)]
def F52(y:aj [.ae i64,.ae tI]):oQ:=fun α s K=>jv (decide ((y.1.length:Int)<=512)) α s fun s=>aM ((decide ((y.1.length:Int)=(y.1.length:Int))&&decide ((0:Int)=0))&&decide (y.1.length<=1099511627776))
 (ic [ee y.1 0] α ([],false) fun q=>aM ((decide ((0:Int)=0)&&decide (y.1.length<=1099511627776))&&decide (q.1.length+11*y.1.length<=1099511627776)) (wT (qw y.2.1) (qL y.2.1) (KK (y.2.1,())) α (wZ q y.1) fun q=>jv (!q.2) α s fun s=>ic [(q.1.length:Int)] α s fun s=>zV q.1 α s K))
def Gz(y:aj [.ae i64,.ae tI]):Nat:=20+11*y.1.length+qL y.2.1
theorem Zx(b:List Int)(k:Bool)(L:List Int)(c:List (den tI)):(iN (.cons (gV 0) (Ps [.ag (Ps [.im i64,.im tI])])) [2] qW L52 Tryz.x67 3 (dH eW 3) (aA (.ae u8::.bool:: [.ae i64,.ae tI]) (b,k,L,c,()))).val=F52 (L,c,()) _ (b,k) k3:=by kernel_rfl
end Go.Proofs.Vd

noncomputable section
namespace Go.Proofs.Vd
open Go.Ab Go.Ab.Lf
set_option maxRecDepth 100000
theorem D9(s:St)(L:List Int)(hL:L.length<=1099511627776)(h:s.1.length+11*L.length<=1099511627776):(wZ s L).1.length<=s.1.length+11*L.length:=
 (yZ [] false L [] hL L.length s 0 (by omega) (by omega) (by simpa using h)).2
theorem Of(y:aj [.ae i64,.ae tI])(h:qw y.2.1=true):Wr (Gz y) (F52 y):=by
 refine((gv (decide ((y.1.length:Int)<=512))).seq (n:=0) (m:=Gz y) ?_).le (by omega)
 intro s hs
 unfold Gz at hs ⊢
 have hn:=oS [ee y.1 0] ([],false)
 have hn:(cK ([],false) [ee y.1 0]).1.length<=10:=by simpa using hn
 have hL:y.1.length<=1099511627776:=by omega
 have c1:(cK ([],false) [ee y.1 0]).1.length+11*y.1.length<=1099511627776:=by omega
 have hm:=D9 (cK ([],false) [ee y.1 0]) y.1 hL c1
 have c2:(wZ (cK ([],false) [ee y.1 0]) y.1).1.length+qL y.2.1<=1099511627776:=by omega
 obtain⟨q,hq,eq⟩:=m0 (vZ (y.2.1,()) h) h (wZ (cK ([],false) [ee y.1 0]) y.1) c2
 have hq:q.1.length<=(wZ (cK ([],false) [ee y.1 0]) y.1).1.length+qL y.2.1:=hq
 obtain⟨s',Yl,es⟩:=((gv (!q.2)).seq ((fv [(q.1.length:Int)]).seq (B0 q.1))).le (m:=20+11*y.1.length+qL y.2.1) (by simp only[List.length_cons,List.length_nil];omega) s hs
 refine⟨s',Yl,fun α K=>?_⟩
 refine Eq.trans ?_ (es α K)
 show aM ((decide _&&decide _)&&decide _) (aM (decide (([]:List Int).length+10*[ee y.1 0].length<=1099511627776)) (aM ((decide _&&decide _)&&decide _) (wT (qw y.2.1) (qL y.2.1) (KK (y.2.1,())) α (wZ (cK ([],false) [ee y.1 0]) y.1) _)))=_
 rw[eq,decide_eq_true hL,decide_eq_true c1,decide_eq_true (show(y.1.length:Int)=(y.1.length:Int)from rfl)]
 rfl
def s52:cR:=sC (Ps [.ag (Ps [.im i64,.im tI])]) [.ae i64,.ae tI] F52 Gz fun y=>qw y.2.1
theorem Zy{V:ByteArray->Bool}{aq:aB}(W:WorldV V aq):s52.Ok 67 aq:=by
 have C:=W.toWorld.in (Ib W.toWorld) 3
 have h0:dZ Rx.w (pW D6 Ql Zu) (fun n d=>gD (aq n d) n (.bl 0 (.lp D6.body))):=iG C (aE _) (m:=3) Tk
 have h4:dZ Rx.w (pW Gx wX Zv) (fun n d=>gD (aq n d) n (.bl 4 (.lp Gx.body))):=iG C (aE _) (m:=3) Tl
 have h2:dZ Rx.w (pW Gy wY Zw) (fun n d=>gD (aq n d) n (.bl 2 (.lp Gy.body))):=iG C (L:=Tn) (fq.jl (.cons (b:=Gx.body) (by kernel_rfl) h4 .nil)) (m:=3) To
 refine gL C (W.st 67 _ rfl) rfl (L:=L52) (fq.jl (.cons (b:=D6.body) (by kernel_rfl) h0 (.cons (b:=Gy.body) (by kernel_rfl) h2 .nil))) (m:=3) Of ?_
 rintro b k ⟨L,c,⟨⟩⟩
 exact Zx b k L c
def Tp:Item (den aL):=⟨fun x=>F52 (x.1,x.2,()),fun x=>Gz (x.1,x.2,()),fun x=>qw x.2,fun x h=>Of _ h,fun x=>by show 1<=20+_+_;omega⟩
theorem Og{V:ByteArray->Bool}{aq:aB}(W:WorldV V aq):(sS 67 Tp).Ok 66 aq:=by
 refine sO W.toWorld (b:=Tryz.x66) (e:=[(67,s52)]) (.cons (Zy W) .nil) rfl rfl ?_ (fun h=>fq.jl (.cons (b:=(lS Tryz.x66 67 aL).body) (by kernel_rfl) h .nil)) ?_
 ·intro b k id b2 k2 r n i
  kernel_rfl
 ·rintro b k ⟨id,mo,r,⟨⟩⟩
  kernel_rfl
end Go.Proofs.Vd

noncomputable section
namespace Go.Proofs.Vd
open Go.Ab Go.Ab.Lf
set_option maxRecDepth 100000
def Zz(a b:eJ):eJ:=fun f args h=>match a f args h with
 | .bad=>b f args h
 |t=>t
theorem Ts{a b:eJ}{aq:aB}(ha:oE a aq)(hb:oE b aq):oE (Zz a b) aq:=by
 intro E f args ys H h v H' hv hH e
 unfold Zz at e
 split at e
 ·exact hb E f args ys H h v H' hv hH e
 ·exact ha E f args ys H h v H' hv hH e
abbrev tM:List Ty:=[.ae aH,.ae aS,.ae i64,.ae ak,.ae ak,.ae aC,.ae aR,i64,.ae aG,.ae aL,.ae aJ]
abbrev pM:jW:=.ag (Ps [.im aH,.im aS,.im i64,.im ak,.im ak,.im aC,.im aR,.n .i64,.im aG,.im aL,.im aJ])
def e18(V:ByteArray->Bool):List (Nat×cR):=[(43,S6),(44,sS 45 Wg),(47,s32),(49,sS 50 (Zr V)),(52,sS 53 Wf),(54,sS 55 Wh),(58,sS 59 Gw),(60,sS 61 (Zs V)),(62,s47),(63,sS 64 Ti),(66,sS 67 Tp),(68,sS 69 Tj)]
theorem ZA{V:ByteArray->Bool}{aq:aB}(W:WorldV V aq):db aq (e18 V):=
 .cons (ry W.toWorld) (.cons (N3 W) (.cons (yN W.toWorld) (.cons (N4 W) (.cons (adV W) (.cons (N5 W) (.cons (N7 W) (.cons (N8 W) (.cons (Gv W.toWorld) (.cons (N9 W) (.cons (Og W) (.cons (Oa W) .nil)))))))))))
def c18(V:ByteArray->Bool):eJ:=Zz (dH (e18 V) 3) (dH [(54,sS 57 Wi)] 3)
theorem ZB{V:ByteArray->Bool}{aq:aB}(W:WorldV V aq):oE (c18 V) aq:=Ts (W.toWorld.in (ZA W) 3) (W.toWorld.in (.cons (N6 W) .nil) 3)
def w7{t:Ty}(A:Item (den t))(id most:Int)(l:List (den t)):oQ:=wT (cu A.ok l) (21+nr A.wt l) (FS A (id,most,l,()))
theorem kK{t:Ty}(A:Item (den t))(id most:Int)(l:List (den t))(h:cu A.ok l=true):Wr (21+nr A.wt l) (w7 A id most l):=m0 (We A (id,most,l,()) h) h
def Tt(y:aj tM):oQ:=fun α s K=>w7 Ti 9 512 y.2.2.2.2.2.2.2.2.1 α s fun s=>w7 Tp 10 512 y.2.2.2.2.2.2.2.2.2.1 α s fun s=>w7 Tj 11 512 y.2.2.2.2.2.2.2.2.2.2.1 α s K
def F18(V:ByteArray->Bool)(y:aj tM):oQ:=fun α s K=>jv (decide ((y.2.2.1.length:Int)=(y.2.2.2.2.2.2.2.2.2.1.length:Int))) α s fun s=>
 w7 Wg 1 256 y.1 α s fun s=>w7 (Zr V) 2 512 y.2.1 α s fun s=>w7 Wf 3 512 y.2.2.1 α s fun s=>w7 Wh 4 512 y.2.2.2.1 α s fun s=>w7 Wi 5 512 y.2.2.2.2.1 α s fun s=>w7 Gw 6 512 y.2.2.2.2.2.1 α s fun s=>w7 (Zs V) 7 512 y.2.2.2.2.2.2.1 α s fun s=>
 jv (decide (-1<=y.2.2.2.2.2.2.2.1)) α s fun s=>bif decide (0<=y.2.2.2.2.2.2.2.1)then
  ic [y.2.2.2.2.2.2.2.1] α ([],false) fun p=>wT true (wW (8,p.1,p.2,())) (Qk (8,p.1,p.2,())) α s fun s=>Tt y α s K
 else Tt y α s K
def Tu(s:St):Option (List Pl):=bif s.2 then some (aA [.ae u8,i64] ([],1,()))else bif decide (16384<(s.1.length:Int))then some (aA [.ae u8,i64] ([],4,()))else some (aA [.ae u8,i64] (s.1,0,()))
def s0:St:=([0,97,115,109,1,0,0,0],false)
theorem ZC(V:ByteArray->Bool)(y:aj tM):(iN (Ps [pM]) [] (Ps [.tu (Ps [.ow u8,.n .i64])]) (fun _=>none) Tryz.x25 3 (c18 V) (aA tM y)).val=F18 V y _ s0 Tu:=by
 obtain⟨t,im,fs,tb,me,gl,ex,st,el,co,da,⟨⟩⟩:=y
 kernel_rfl
end Go.Proofs.Vd

noncomputable section
namespace Go.Proofs.Vd
open Go.Ab Go.Ab.Lf
set_option maxRecDepth 100000
def Wj(V:ByteArray->Bool)(y:aj tM):Bool:=
 (cu Wg.ok y.1&&(cu (Zr V).ok y.2.1&&(cu Wf.ok y.2.2.1&&(cu Wh.ok y.2.2.2.1&&(cu Wi.ok y.2.2.2.2.1&&(cu Gw.ok y.2.2.2.2.2.1&&(cu (Zs V).ok y.2.2.2.2.2.2.1&&
 (cu Ti.ok y.2.2.2.2.2.2.2.2.1&&(cu Tp.ok y.2.2.2.2.2.2.2.2.2.1&&cu Tj.ok y.2.2.2.2.2.2.2.2.2.2.1)))))))))
def Ea(y:aj tM):Nat:=(21+nr Ti.wt y.2.2.2.2.2.2.2.2.1)+((21+nr Tp.wt y.2.2.2.2.2.2.2.2.2.1)+(21+nr Tj.wt y.2.2.2.2.2.2.2.2.2.2.1))
def Eb(V:ByteArray->Bool)(y:aj tM):Nat:=0+((21+nr Wg.wt y.1)+((21+nr (Zr V).wt y.2.1)+((21+nr Wf.wt y.2.2.1)+((21+nr Wh.wt y.2.2.2.1)+((21+nr Wi.wt y.2.2.2.2.1)+((21+nr Gw.wt y.2.2.2.2.2.1)+((21+nr (Zs V).wt y.2.2.2.2.2.2.1)+(0+(21+Ea y)))))))))
def Oh(n:Int):oQ:=fun α s K=>ic [n] α ([],false) fun p=>wT true (wW (8,p.1,p.2,())) (Qk (8,p.1,p.2,())) α s K
theorem JW(n:Int):Wr 21 (Oh n):=by
 intro s hs
 have hn:=oS [n] ([],false)
 have hn:(cK ([],false) [n]).1.length<=10:=by simpa using hn
 obtain⟨s',h1,h2⟩:=(m0 (Gu (8,(cK ([],false) [n]).1,(cK ([],false) [n]).2,())) rfl).le (m:=21) (by show 0+(1+(10+(cK ([],false) [n]).1.length))<=21;omega) s hs
 exact⟨s',h1,fun α K=>Eq.trans rfl (h2 α K)⟩
theorem Ie(y:aj tM)(h1:cu Ti.ok y.2.2.2.2.2.2.2.2.1=true)(h2:cu Tp.ok y.2.2.2.2.2.2.2.2.2.1=true)(h3:cu Tj.ok y.2.2.2.2.2.2.2.2.2.2.1=true):Wr (Ea y) (Tt y):=
 (kK Ti 9 512 _ h1).seq ((kK Tp 10 512 _ h2).seq (kK Tj 11 512 _ h3))
theorem ZD(V:ByteArray->Bool)(y:aj tM)(h:Wj V y=true):Wr (Eb V y) (F18 V y):=by
 unfold Wj at h
 simp only[Bool.and_eq_true]at h
 obtain⟨h1,h2,h3,h4,h5,h6,h7,h8,h9,Tv⟩:=h
 exact(gv _).seq ((kK Wg 1 256 _ h1).seq ((kK (Zr V) 2 512 _ h2).seq ((kK Wf 3 512 _ h3).seq ((kK Wh 4 512 _ h4).seq ((kK Wi 5 512 _ h5).seq ((kK Gw 6 512 _ h6).seq ((kK (Zs V) 7 512 _ h7).seq
  ((gv _).seq (.bif ((JW _).seq (Ie y h8 h9 Tv)) ((Ie y h8 h9 Tv).le (Nat.le_add_left _ _)))))))))))
def zW(V:ByteArray->Bool)(y:aj tM):St:=mW (F18 V y) s0
def nB(V:ByteArray->Bool)(y:aj tM):Int:=bif (zW V y).2 then 1 else bif decide (16384<((zW V y).1.length:Int))then 4 else 0
def Wk(V:ByteArray->Bool)(y:aj tM):List Int:=bif (zW V y).2 then []else bif decide (16384<((zW V y).1.length:Int))then []else(zW V y).1
def GA(V:ByteArray->Bool)(y:aj tM):Bool:=Wj V y&&decide (8+Eb V y<=1099511627776)
def s18(V:ByteArray->Bool):cR:=hU (Ps [pM]) [] (Ps [.tu (Ps [.ow u8,.n .i64])]) tM [.ae u8,i64] fun y=>.ck (GA V y) (.ok (Wk V y,nB V y,()))
theorem ZE{V:ByteArray->Bool}{aq:aB}(W:WorldV V aq):(s18 V).Ok 25 aq:=by
 refine dF (ZB W) (W.st 25 _ rfl) rfl (aE _) (m:=3) rfl ?_
 intro y q h
 obtain⟨h1,h2⟩:=Lf.T.ba h
 cases h2
 rw[ZC]
 unfold GA at h1
 simp only[Bool.and_eq_true,decide_eq_true_eq]at h1
 refine((D5 (ZD V y h1.1) (s:=s0) h1.2).2 _ Tu).trans ?_
 show Tu (zW V y)=_
 unfold Tu Wk nB
 cases(zW V y).2 with
 |true=>rfl
 |false=>cases decide (16384<((zW V y).1.length:Int))<;>rfl
end Go.Proofs.Vd

noncomputable section
namespace Go.Proofs.Vd
open Go.Ab Go.Ab.Lf
set_option maxRecDepth 100000
def v5(c:List (den tI))(t:Int):Bool:=bif !decide ((c.length:Int)=2)then false else
 let o:=(c.getD 0 (ao tI)).1
 bif decide (o=65)then decide (t=127)else bif decide (o=66)then decide (t=126)else bif decide (o=64780)then decide (t=123)else false
def s56:cR:=hU (Ps [.im tI,.n .i64]) [] (Ps [.bo]) [.ae tI,i64] [.bool] fun x=>.ok (v5 x.1 x.2.1,())
theorem GB{aq:aB}(W:World aq):s56.Ok 72 aq:=by
 refine dF (W.in .nil 3) (W.st 72 _ rfl) rfl (aE _) (m:=3) rfl ?_
 rintro⟨c,t,⟨⟩⟩ q h
 cases h
 have e:(iN (Ps [.im tI,.n .i64]) [] (Ps [.bo]) (fun _=>none) Tryz.x72 3 (dH [] 3) (aA [.ae tI,i64] (c,t,()))).val=bif !decide ((c.length:Int)=2)then some (aA [.bool] (false,()))else bif aU 0 (Int.ofNat c.length)then
  bif decide ((c.getD 0 (ao tI)).1=65)then some (aA [.bool] (decide (t=127),()))else bif decide ((c.getD 0 (ao tI)).1=66)then some (aA [.bool] (decide (t=126),()))else bif decide ((c.getD 0 (ao tI)).1=64780)then some (aA [.bool] (decide (t=123),()))else some (aA [.bool] (false,()))else none:=by kernel_rfl
 rw[e]
 show _=some (aA [.bool] (v5 c t,()))
 unfold v5
 dsimp only
 cases h2:decide ((c.length:Int)=2)with
 |false=>rfl
 |true=>
  have:(c.length:Int)=2:=of_decide_eq_true h2
  have hx:aU 0 (Int.ofNat c.length)=true:=bX (j:=0) (by omega)
  rw[hx]
  cases decide ((c.getD 0 (ao tI)).1=65)<;>cases decide ((c.getD 0 (ao tI)).1=66)<;>cases decide ((c.getD 0 (ao tI)).1=64780)<;>rfl
abbrev cI:Ty:=.pair i64 (.pair i64 (.pair (.ae i64) (.pair (.ae i64) (.pair .bool .bool))))
abbrev jK(g:Nat):jW:=.pt g (Ps [.im aH,.im aS,.im i64,.im ak,.im ak,.im aC,.im aR,.n .i64,.im aG,.im aL,.im aJ,.ow i64,.ow i64,.ow cI,.bo])
abbrev xz:List Ty:=[.ae aH,.ae aS,.ae i64,.ae ak,.ae ak,.ae aC,.ae aR,i64,.ae aG,.ae aL,.ae aJ,.ae i64,.ae i64,.ae cI,.bool]
abbrev JX:List Ty:=[.ae aH,.ae aS,.ae i64,.ae ak,.ae ak,.ae aC,.ae aR,i64,.ae aG,.ae aL,.ae aJ,.ae i64,.ae i64,.ae cI,.bool,i64]
abbrev ZF:List Ty:=[i64,.ae aH,.ae aS,.ae i64,.ae ak,.ae ak,.ae aC,.ae aR,i64,.ae aG,.ae aL,.ae aJ,.ae i64,.ae i64,.ae cI,.bool]
abbrev ajF:List Ty:=[.ae aH,.ae aS,.ae i64,.ae ak,.ae ak,.ae aC,.ae aR,i64,.ae aG,.ae aL,.ae aJ,.ae i64,.ae i64,.ae cI,.bool,.bool]
def Wl:cR:=hU (Ps [jK 0,.bo]) [14] (Ps [.tu .nil,jK 14]) ajF xz fun x=>match x with
 |(t,im,fs,tb,me,gl,ex,st,el,co,da,lo,dq,bl,bad,ok,_)=>.ok (t,im,fs,tb,me,gl,ex,st,el,co,da,lo,dq,bl,bad|| !ok,())
theorem tE{aq:aB}(W:World aq):Wl.Ok 95 aq:=by
 refine dF (W.in .nil 3) (W.st 95 _ rfl) rfl (aE _) (m:=3) rfl ?_
 rintro⟨t,im,fs,tb,me,gl,ex,st,el,co,da,lo,dq,bl,bad,ok,⟨⟩⟩ q h
 cases h
 cases bad<;>kernel_rfl
def dA(bl:List (den cI)):den cI:=bl.getD (bl.length - 1) (ao cI)
def okW(dq:List Int)(bl:List (den cI)):Bool:=(decide (0<bl.length)&&(decide (bl.length<=1099511627776)&&decide (dq.length<=1099511627776)))&&(decide (0<=(dA bl).2.1)&&decide ((dA bl).2.1<=(dq.length:Int)))
def e9(dq:List Int)(bl:List (den cI))(bad:Bool)(want:Int):Int×List Int×Bool:=
 bif decide ((dq.length:Int)=(dA bl).2.1)then(want,dq,bad|| !(dA bl).2.2.2.2.1)else
 let t:=dq.getD (dq.length - 1) (ao i64)
 (bif decide (t=0)then want else t,dq.take (dq.length - 1),bad|| !(bif decide (t=want)then true else bif decide (t=0)then true else decide (want=0)))
def s73:cR:=hU (Ps [jK 0,.n .i64]) [14] (Ps [.n .i64,jK 14]) JX ZF fun x=>match x with
 |(t,im,fs,tb,me,gl,ex,st,el,co,da,lo,dq,bl,bad,want,_)=>.ck (okW dq bl) (let y:=e9 dq bl bad want; .ok (y.1,t,im,fs,tb,me,gl,ex,st,el,co,da,lo,y.2.1,bl,y.2.2,()))
theorem y0{aq:aB}(W:World aq):s73.Ok 92 aq:=by
 refine dF (W.in .nil 3) (W.st 92 _ rfl) rfl (aE _) (m:=3) rfl ?_
 rintro⟨t,im,fs,tb,me,gl,ex,st,el,co,da,lo,dq,bl,bad,want,⟨⟩⟩ q h
 obtain⟨h1,h2⟩:=Lf.T.ba h
 cases h2
 unfold okW at h1
 simp only[Bool.and_eq_true,decide_eq_true_eq]at h1
 obtain⟨⟨b1,b2,b3⟩,b4,b5⟩:=h1
 let R (w:Int) (s:List Int) (b:Bool):Option (List Pl):=some (aA ZF (w,t,im,fs,tb,me,gl,ex,st,el,co,da,lo,s,bl,b,()))
 have e: ∀ (B:den cI) (T:Int),B=bl.getD (bQ .i64 (Int.ofNat bl.length) 1).toNat (ao cI)->T=dq.getD (bQ .i64 (Int.ofNat dq.length) 1).toNat (ao i64)->
  (iN (Ps [jK 0,.n .i64]) [14] (Ps [.n .i64,jK 14]) (fun _=>none) Tryz.x92 3 (dH [] 3) (aA JX (t,im,fs,tb,me,gl,ex,st,el,co,da,lo,dq,bl,bad,want,()))).val=
  bif aU (bQ .i64 (Int.ofNat bl.length) 1) (Int.ofNat bl.length)then bif decide (Int.ofNat dq.length=B.2.1)then(bif bad then R want dq true else R want dq (!B.2.2.2.2.1))else
   bif aU (bQ .i64 (Int.ofNat dq.length) 1) (Int.ofNat dq.length)then bif eK 0 (bQ .i64 (Int.ofNat dq.length) 1) (Int.ofNat dq.length)then
    let S:=(dq.drop 0).take ((bQ .i64 (Int.ofNat dq.length) 1).toNat - 0)
    let E:=fun b=>bif decide (T=0)then R want S b else R T S b
    bif decide (T=want)then(bif bad then E true else E (!true))else bif decide (T=0)then(bif bad then E true else E (!true))else(bif bad then E true else E (!decide (want=0)))
   else none else none else none:=by
  intro B T hB hT
  subst hB;subst hT
  kernel_rfl
 rw[e _ _ rfl rfl,show Int.ofNat bl.length=(bl.length:Int)from rfl,show Int.ofNat dq.length=(dq.length:Int)from rfl,BU b1 (by omega),Int.toNat_natCast]
 have hb:aU ((bl.length - 1:Nat):Int) (bl.length:Int)=true:=bX (by omega)
 rw[hb,cond_true]
 show(bif decide ((dq.length:Int)=(dA bl).2.1)then _ else _)=some (aA ZF ((e9 dq bl bad want).1,t,im,fs,tb,me,gl,ex,st,el,co,da,lo,(e9 dq bl bad want).2.1,bl,(e9 dq bl bad want).2.2,()))
 unfold e9
 cases hh:decide ((dq.length:Int)=(dA bl).2.1)with
 |true=>cases bad<;>rfl
 |false=>
  have jR: ¬ (dq.length:Int)=(dA bl).2.1:=of_decide_eq_false hh
  have hp:0<dq.length:=by omega
  have hs:aU ((dq.length - 1:Nat):Int) (dq.length:Int)=true:=bX (by omega)
  have hc:eK 0 ((dq.length - 1:Nat):Int) (dq.length:Int)=true:=by unfold eK;simp
  rw[BU hp (by omega),hs,hc,Int.toNat_natCast]
  simp only[cond_true,cond_false,List.drop_zero,Nat.sub_zero]
  cases decide (dq.getD (dq.length - 1) (ao i64)=want)<;>cases decide (dq.getD (dq.length - 1) (ao i64)=0)<;>cases bad<;>rfl
end Go.Proofs.Vd

noncomputable section
namespace Go.Proofs.Vd
open Go.Ab Go.Ab.Lf
set_option maxRecDepth 100000
theorem Oi{dq:List Int}{bl:List (den cI)}(bad:Bool)(want:Int)(h:okW dq bl=true):okW (e9 dq bl bad want).2.1 bl=true:=by
 have h0:=h
 unfold okW at h ⊢
 simp only[Bool.and_eq_true,decide_eq_true_eq]at h ⊢
 obtain⟨⟨b1,b2,b3⟩,b4,b5⟩:=h
 unfold e9
 cases hh:decide ((dq.length:Int)=(dA bl).2.1)with
 |true=>exact⟨⟨b1,b2,b3⟩,b4,b5⟩
 |false=>
  have jR: ¬ (dq.length:Int)=(dA bl).2.1:=of_decide_eq_false hh
  simp only[cond_false,List.length_take]
  refine⟨⟨b1,b2,by omega⟩,b4,by omega⟩
def sD(L:List Int)(bl:List (den cI)):Nat->List Int->Bool->List Int×Bool
 |0,dq,bad=>(dq,bad)
 |n+1,dq,bad=>sD L bl n (e9 dq bl bad (L.getD n (ao i64))).2.1 (e9 dq bl bad (L.getD n (ao i64))).2.2
abbrev Wm:List Ty:=[.ae aH,.ae aS,.ae i64,.ae ak,.ae ak,.ae aC,.ae aR,i64,.ae aG,.ae aL,.ae aJ,.ae i64,.ae i64,.ae cI,.bool,.ae i64,i64]
abbrev Tw:List Ty:=[.ae aH,.ae aS,.ae i64,.ae ak,.ae ak,.ae aC,.ae aR,i64,.ae aG,.ae aL,.ae aJ,.ae i64,.ae i64,.ae cI,.bool,.ae i64]
def ZG:jX:=⟨0,fE Tryz.x90.code 0,[0,1,4],Ps [jK 14,.im i64,.n .i64],[⟨.lL,[0],Ps [jK 14]⟩]⟩
def e71:List (Nat×cR):=[(92,s73),(95,Wl)]
theorem ZH{aq:aB}(W:World aq):db aq e71:=.cons (y0 W) (.cons (tE W) .nil)
theorem Ec(t:List (den aH))(im:List (den aS))(fs:List Int)(tb me:List (den ak))(gl:List (den aC))(ex:List (den aR))(st:Int)(el:List (den aG))(co:List (den aL))(da:List (den aJ))(lo dq:List Int)(bl:List (den cI))(bad:Bool)(L:List Int)(i:Int):
 (ZG.step (fun _=>none) (dH e71 3) 3 (aA Wm (t,im,fs,tb,me,gl,ex,st,el,co,da,lo,dq,bl,bad,L,i,()))).val=
 bif decide (0<=i)then bif aU i (Int.ofNat L.length)then bif okW dq bl then some (Rs.next (aA Wm (t,im,fs,tb,me,gl,ex,st,el,co,da,lo,(e9 dq bl bad (L.getD i.toNat (ao i64))).2.1,bl,(e9 dq bl bad (L.getD i.toNat (ao i64))).2.2,L,bQ .i64 i 1,())))else none else none
 else some (Rs.out 0 (aA xz (t,im,fs,tb,me,gl,ex,st,el,co,da,lo,dq,bl,bad,()))):=by kernel_rfl
theorem Ig(t:List (den aH))(im:List (den aS))(fs:List Int)(tb me:List (den ak))(gl:List (den aC))(ex:List (den aR))(st:Int)(el:List (den aG))(co:List (den aL))(da:List (den aJ))(lo:List Int)(bl:List (den cI))(L:List Int)(hL:L.length<=1099511627776): ∀ (n:Nat) (dq:List Int) (bad:Bool),n<=L.length->okW dq bl=true->
 gG (ZG.step (fun _=>none) (dH e71 3) 3) (aA Wm (t,im,fs,tb,me,gl,ex,st,el,co,da,lo,dq,bl,bad,L,(n:Int) - 1,())) 0 (aA xz (t,im,fs,tb,me,gl,ex,st,el,co,da,lo,(sD L bl n dq bad).1,bl,(sD L bl n dq bad).2,()))
 |0,dq,bad,_,_=>by
  refine .last ?_
  rw[Ec,decide_eq_false (by omega)]
  rfl
 |n+1,dq,bad,hn,h=>by
  have e:((n+1:Nat):Int) - 1=(n:Int):=by omega
  rw[e]
  have es:bQ .i64 (n:Int) 1=(n:Int) - 1:=by
   show eZ .i64 ((n:Int) - 1)=_
   exact wrap_i64 (by omega) (by omega)
  refine .more ?_ (Ig t im fs tb me gl ex st el co da lo bl L hL n (e9 dq bl bad (L.getD n (ao i64))).2.1 (e9 dq bl bad (L.getD n (ao i64))).2.2 (by omega) (Oi _ _ h))
  rw[Ec,decide_eq_true (show(0:Int)<=(n:Int) by omega),bX (show n<L.length by omega),h,Int.toNat_natCast,es]
  rfl
def g71:aj Wm->T (Nat×List Pl):=fun x=>match x with
 |(t,im,fs,tb,me,gl,ex,st,el,co,da,lo,dq,bl,bad,L,i,_)=>.ck ((decide (i=bQ .i64 (L.length:Int) 1)&&decide (L.length<=1099511627776))&&okW dq bl) (.ok (0,aA xz (t,im,fs,tb,me,gl,ex,st,el,co,da,lo,(sD L bl L.length dq bad).1,bl,(sD L bl L.length dq bad).2,())))
theorem ZI(x:aj Wm)(k:Nat)(q:List Pl)(h:(g71 x).val=some (k,q)):gG (ZG.step (fun _=>none) (dH e71 3) 3) (aA Wm x) k q:=by
 obtain⟨t,im,fs,tb,me,gl,ex,st,el,co,da,lo,dq,bl,bad,L,i,⟨⟩⟩:=x
 obtain⟨h1,h2⟩:=Lf.T.ba h
 cases h2
 simp only[Bool.and_eq_true,decide_eq_true_eq]at h1
 obtain⟨⟨b1,b2⟩,b3⟩:=h1
 have es:bQ .i64 (L.length:Int) 1=(L.length:Int) - 1:=by
  show eZ .i64 ((L.length:Int) - 1)=_
  exact wrap_i64 (by omega) (by omega)
 rw[es]at b1
 subst b1
 exact Ig t im fs tb me gl ex st el co da lo bl L b2 L.length dq bad (Nat.le_refl _) b3
def L71:Nat->Option fA:=pX [(0,pW ZG Wm g71)]
def s71:cR:=hU (Ps [jK 0,.im i64]) [14] (Ps [.tu .nil,jK 14]) Tw xz fun x=>match x with
 |(t,im,fs,tb,me,gl,ex,st,el,co,da,lo,dq,bl,bad,L,_)=>.ck (decide (L.length<=1099511627776)&&okW dq bl) (.ok (t,im,fs,tb,me,gl,ex,st,el,co,da,lo,(sD L bl L.length dq bad).1,bl,(sD L bl L.length dq bad).2,()))
theorem ZJ(t:List (den aH))(im:List (den aS))(fs:List Int)(tb me:List (den ak))(gl:List (den aC))(ex:List (den aR))(st:Int)(el:List (den aG))(co:List (den aL))(da:List (den aJ))(lo dq:List Int)(bl:List (den cI))(bad:Bool)(L:List Int):(iN (Ps [jK 0,.im i64]) [14] (Ps [.tu .nil,jK 14]) L71 Tryz.x90 3 (dH e71 3) (aA Tw (t,im,fs,tb,me,gl,ex,st,el,co,da,lo,dq,bl,bad,L,()))).val=
 bif (decide (bQ .i64 (L.length:Int) 1=bQ .i64 (L.length:Int) 1)&&decide (L.length<=1099511627776))&&okW dq bl then some (aA xz (t,im,fs,tb,me,gl,ex,st,el,co,da,lo,(sD L bl L.length dq bad).1,bl,(sD L bl L.length dq bad).2,()))else none:=by kernel_rfl
theorem GC{aq:aB}(W:World aq):s71.Ok 90 aq:=by
 have C:=W.in (ZH W) 3
 have hl:dZ Rx.w (pW ZG Wm g71) (fun n d=>gD (aq n d) n (.bl 0 (.lp ZG.body))):=iG C (aE _) (m:=3) ZI
 refine dF C (W.st 90 _ rfl) rfl (L:=L71) (fq.jl (.cons (b:=ZG.body) (by kernel_rfl) hl .nil)) (m:=3) rfl ?_
 rintro⟨t,im,fs,tb,me,gl,ex,st,el,co,da,lo,dq,bl,bad,L,⟨⟩⟩ q h
 obtain⟨h1,h2⟩:=Lf.T.ba h
 cases h2
 rw[ZJ,decide_eq_true (rfl:bQ .i64 (L.length:Int) 1=bQ .i64 (L.length:Int) 1),Bool.true_and,h1]
 rfl
def s72:cR:=hU (Ps [jK 0,.im i64]) [14] (Ps [.tu .nil,jK 14]) Tw xz fun x=>match x with
 |(t,im,fs,tb,me,gl,ex,st,el,co,da,lo,dq,bl,bad,L,_)=>.ck (decide (dq.length+L.length<=1099511627776)) (.ok (t,im,fs,tb,me,gl,ex,st,el,co,da,lo,dq++L,bl,bad,()))
theorem ZK(t:List (den aH))(im:List (den aS))(fs:List Int)(tb me:List (den ak))(gl:List (den aC))(ex:List (den aR))(st:Int)(el:List (den aG))(co:List (den aL))(da:List (den aJ))(lo dq:List Int)(bl:List (den cI))(bad:Bool)(L:List Int):(iN (Ps [jK 0,.im i64]) [14] (Ps [.tu .nil,jK 14]) (fun _=>none) Tryz.x91 3 (dH [] 3) (aA Tw (t,im,fs,tb,me,gl,ex,st,el,co,da,lo,dq,bl,bad,L,()))).val=
 bif roomy 8 (dq.length+L.length)then some (aA xz (t,im,fs,tb,me,gl,ex,st,el,co,da,lo,app dq L,bl,bad,()))else none:=by kernel_rfl
theorem za{aq:aB}(W:World aq):s72.Ok 91 aq:=by
 refine dF (W.in .nil 3) (W.st 91 _ rfl) rfl (aE _) (m:=3) rfl ?_
 rintro⟨t,im,fs,tb,me,gl,ex,st,el,co,da,lo,dq,bl,bad,L,⟨⟩⟩ q h
 obtain⟨h1,h2⟩:=Lf.T.ba h
 cases h2
 rw[ZK,bJ (by omega) (of_decide_eq_true h1),bp]
 rfl
def u7(b:den cI):den cI:=(b.1,b.2.1,b.2.2.1,b.2.2.2.1,true,b.2.2.2.2.2)
def s83:cR:=hU (Ps [jK 0]) [14] (Ps [.tu .nil,jK 14]) xz xz fun x=>match x with
 |(t,im,fs,tb,me,gl,ex,st,el,co,da,lo,dq,bl,bad,_)=>.ck (okW dq bl) (.ok (t,im,fs,tb,me,gl,ex,st,el,co,da,lo,dq.take (dA bl).2.1.toNat,bl.set (bl.length - 1) (u7 (dA bl)),bad,()))
theorem ZL(t:List (den aH))(im:List (den aS))(fs:List Int)(tb me:List (den ak))(gl:List (den aC))(ex:List (den aR))(st:Int)(el:List (den aG))(co:List (den aL))(da:List (den aJ))(lo dq:List Int)(bl:List (den cI))(bad:Bool):(iN (Ps [jK 0]) [14] (Ps [.tu .nil,jK 14]) (fun _=>none) Tryz.YH 3 (dH [] 3) (aA xz (t,im,fs,tb,me,gl,ex,st,el,co,da,lo,dq,bl,bad,()))).val=
 bif aU (bQ .i64 (Int.ofNat bl.length) 1) (Int.ofNat bl.length)then bif eK 0 (bl.getD (bQ .i64 (Int.ofNat bl.length) 1).toNat (ao cI)).2.1 (Int.ofNat dq.length)then
  some (aA xz (t,im,fs,tb,me,gl,ex,st,el,co,da,lo,(dq.drop 0).take ((bl.getD (bQ .i64 (Int.ofNat bl.length) 1).toNat (ao cI)).2.1.toNat - 0),bl.set (bQ .i64 (Int.ofNat bl.length) 1).toNat (u7 (bl.getD (bQ .i64 (Int.ofNat bl.length) 1).toNat (ao cI))),bad,()))else none else none:=by kernel_rfl
theorem ZM{aq:aB}(W:World aq):s83.Ok 104 aq:=by
 refine dF (W.in .nil 3) (W.st 104 _ rfl) rfl (aE _) (m:=3) rfl ?_
 rintro⟨t,im,fs,tb,me,gl,ex,st,el,co,da,lo,dq,bl,bad,⟨⟩⟩ q h
 obtain⟨h1,h2⟩:=Lf.T.ba h
 cases h2
 unfold okW at h1
 simp only[Bool.and_eq_true,decide_eq_true_eq]at h1
 obtain⟨⟨b1,b2,b3⟩,b4,b5⟩:=h1
 have hb:aU ((bl.length - 1:Nat):Int) (bl.length:Int)=true:=bX (by omega)
 rw[ZL,show Int.ofNat bl.length=(bl.length:Int)from rfl,show Int.ofNat dq.length=(dq.length:Int)from rfl,BU b1 (by omega),Int.toNat_natCast,hb,cond_true]
 have hc:eK 0 (dA bl).2.1 (dq.length:Int)=true:=by unfold eK;simp;omega
 show(bif eK 0 (dA bl).2.1 (dq.length:Int)then _ else _)=_
 rw[hc,List.drop_zero,Nat.sub_zero]
 rfl
end Go.Proofs.Vd

noncomputable section
namespace Go.Proofs.Vd
open Go.Ab Go.Ab.Lf
set_option maxRecDepth 100000
def Wn:cR:=hU (Ps [.im i64]) [] (Ps [.ow i64]) [.ae i64] [.ae i64] fun x=>.ck (decide (x.1.length<=1099511627776)) (.ok (x.1,()))
structure WorldC(V:ByteArray->Bool)(aq:aB):Prop extends WorldV V aq where
 cl:Wn.Ok 32 aq
abbrev Wo:List Ty:=[.ae aH,.ae aS,.ae i64,.ae ak,.ae ak,.ae aC,.ae aR,i64,.ae aG,.ae aL,.ae aJ,i64]
abbrev B5:List Ty:=[.ae i64,.ae i64,.bool]
abbrev qSg:jW:=Ps [.tu (Ps [.ag (Ps [.ow i64,.ow i64]),.bo])]
def dM(t:List (den aH))(k:Int):Bool:= !(bif decide (k<0)then true else decide ((t.length:Int)<=k))
def cr(t:List (den aH))(k:Int):den aH:=bif dM t k then t.getD k.toNat (ao aH)else([],[])
def gT(t:List (den aH)):Bool:=List.all t fun s=>decide (List.length s.1<=1099511627776)&&decide (List.length s.2<=1099511627776)
def s21:cR:=hU (Ps [pM,.n .i64]) [] qSg Wo B5 fun x=>match x with
 |(t,im,fs,tb,me,gl,ex,st,el,co,da,k,_)=>.ck (gT t) (.ok ((cr t k).1,(cr t k).2,dM t k,()))
def e21:List (Nat×cR):=[(32,Wn)]
theorem ZN{V:ByteArray->Bool}{aq:aB}(W:WorldC V aq):db aq e21:=.cons W.cl .nil
theorem ZO(t:List (den aH))(im:List (den aS))(fs:List Int)(tb me:List (den ak))(gl:List (den aC))(ex:List (den aR))(st:Int)(el:List (den aG))(co:List (den aL))(da:List (den aJ))(k:Int):(iN (Ps [pM,.n .i64]) [] qSg (fun _=>none) Tryz.x85 3 (dH e21 3) (aA Wo (t,im,fs,tb,me,gl,ex,st,el,co,da,k,()))).val=
 bif (bif decide (k<0)then true else decide ((t.length:Int)<=k))then some (aA B5 ([],[],false,()))else aM (aU k (Int.ofNat t.length)) (aM (decide ((t.getD k.toNat (ao aH)).1.length<=1099511627776)) (aM (decide ((t.getD k.toNat (ao aH)).2.length<=1099511627776)) (some (aA B5 ((t.getD k.toNat (ao aH)).1,(t.getD k.toNat (ao aH)).2,true,()))))):=by kernel_rfl
theorem GD{V:ByteArray->Bool}{aq:aB}(W:WorldC V aq):s21.Ok 85 aq:=by
 refine dF (W.toWorld.in (ZN W) 3) (W.st 85 _ rfl) rfl (aE _) (m:=3) rfl ?_
 rintro⟨t,im,fs,tb,me,gl,ex,st,el,co,da,k,⟨⟩⟩ q h
 obtain⟨h0,h⟩:=Lf.T.ba h
 cases h
 rw[ZO]
 unfold cr dM
 by_cases h1:k<0
 ·rw[decide_eq_true h1];rfl
 ·by_cases h2:(t.length:Int)<=k
  ·rw[decide_eq_false h1,decide_eq_true h2];rfl
  ·have hx:aU k (Int.ofNat t.length)=true:=iE.2 ⟨Int.not_lt.1 h1,Int.not_le.1 h2⟩
   have hm:(t.getD k.toNat (ao aH))∈t:=by
    have key: ∀ (k:Int) (n:Nat),¬ k<0-> ¬ (n:Int)<=k->k.toNat<n:=fun k n _ _=>by omega
    have:k.toNat<t.length:=key k _ h1 h2
    rw[List.getD_eq_getElem?_getD,List.getElem?_eq_getElem this]
    exact List.getElem_mem this
   unfold gT at h0
   have h0:=List.all_eq_true.1 h0 _ hm
   rw[Bool.and_eq_true]at h0
   rw[decide_eq_false h1,decide_eq_false h2,hx,h0.1,h0.2];rfl
def iK(bl:List (den cI))(l:Int):List Int:=bif decide ((bl.length:Int)<=l)then []else
 let b:=bl.getD (bQ .i64 (bQ .i64 (Int.ofNat bl.length) 1) l).toNat (ao cI)
 bif decide (b.1=3)then b.2.2.1 else b.2.2.2.1
theorem ajH{k:Int}{n:Nat}(h1:(n:Int)<=k)(h2:k<9223372036854775808):0<=bQ .i64 k (n:Int):=by
 have es:bQ .i64 k (n:Int)=k - (n:Int):=by
  show eZ .i64 (k - (n:Int))=_
  exact wrap_i64 (by omega) (by omega)
 rw[es]
 omega
def dO(im:List (den aS))(fs:List Int)(k:Int):Int:=
 bif (bif decide (0<=k)then decide (k<(im.length:Int))else false)then(im.getD k.toNat (ao aS)).2.2 else
 bif (bif decide ((im.length:Int)<=k)then decide (bQ .i64 k (im.length:Int)<(fs.length:Int))else false)then fs.getD (bQ .i64 k (im.length:Int)).toNat (ao i64)else -1
def s10:cR:=hU (Ps [pM,.n .i64]) [] qSg Wo B5 fun x=>match x with
 |(t,im,fs,tb,me,gl,ex,st,el,co,da,k,_)=>.ck (gT t&&(decide (k<9223372036854775808)&&decide (im.length<=1099511627776))) (.ok ((cr t (dO im fs k)).1,(cr t (dO im fs k)).2,dM t (dO im fs k),()))
def e10:List (Nat×cR):=[(85,s21)]
theorem ZP{V:ByteArray->Bool}{aq:aB}(W:WorldC V aq):db aq e10:=.cons (GD W) .nil
theorem ZQ(t:List (den aH))(im:List (den aS))(fs:List Int)(tb me:List (den ak))(gl:List (den aC))(ex:List (den aR))(st:Int)(el:List (den aG))(co:List (den aL))(da:List (den aJ))(k:Int):(iN (Ps [pM,.n .i64]) [] qSg (fun _=>none) Tryz.x70 3 (dH e10 3) (aA Wo (t,im,fs,tb,me,gl,ex,st,el,co,da,k,()))).val=
 bif (bif decide (0<=k)then decide (k<(im.length:Int))else false)then aM (aU k (Int.ofNat im.length)) (aM (gT t) (some (aA B5 ((cr t (im.getD k.toNat (ao aS)).2.2).1,(cr t (im.getD k.toNat (ao aS)).2.2).2,dM t (im.getD k.toNat (ao aS)).2.2,()))))
 else bif (bif decide ((im.length:Int)<=k)then decide (bQ .i64 k (im.length:Int)<(fs.length:Int))else false)then aM (aU (bQ .i64 k (im.length:Int)) (Int.ofNat fs.length)) (aM (gT t) (
  some (aA B5 ((cr t (fs.getD (bQ .i64 k (im.length:Int)).toNat (ao i64))).1,(cr t (fs.getD (bQ .i64 k (im.length:Int)).toNat (ao i64))).2,dM t (fs.getD (bQ .i64 k (im.length:Int)).toNat (ao i64)),()))))
 else aM (gT t)<|some (aA B5 ((cr t (-1)).1,(cr t (-1)).2,dM t (-1),())):=by kernel_rfl
theorem B6{V:ByteArray->Bool}{aq:aB}(W:WorldC V aq):s10.Ok 70 aq:=by
 refine dF (W.toWorld.in (ZP W) 3) (W.st 70 _ rfl) rfl (aE _) (m:=3) rfl ?_
 rintro⟨t,im,fs,tb,me,gl,ex,st,el,co,da,k,⟨⟩⟩ q h
 obtain⟨h1,h2⟩:=Lf.T.ba h
 cases h2
 simp only[Bool.and_eq_true,decide_eq_true_eq]at h1
 obtain⟨b0,b1,b2⟩:=h1
 rw[ZQ,b0]
 have goal: ∀ j:Int,j=dO im fs k->some (aA B5 ((cr t j).1,(cr t j).2,dM t j,()))=some (aA B5 ((cr t (dO im fs k)).1,(cr t (dO im fs k)).2,dM t (dO im fs k),())):=by
  rintro j rfl;rfl
 cases c1:(bif decide ((0:Int)<=k)then decide (k<(im.length:Int))else false)with
 |true=>
  have hx:aU k (Int.ofNat im.length)=true:=by
   rw[Bool.cond_false_right,Bool.and_eq_true,decide_eq_true_eq,decide_eq_true_eq]at c1
   exact iE.2 c1
  rw[hx]
  exact goal _ (by unfold dO;rw[c1];rfl)
 |false=>
  cases c2:(bif decide ((im.length:Int)<=k)then decide (bQ .i64 k (im.length:Int)<(fs.length:Int))else false)with
  |true=>
   have hx:aU (bQ .i64 k (im.length:Int)) (Int.ofNat fs.length)=true:=by
    rw[Bool.cond_false_right,Bool.and_eq_true,decide_eq_true_eq,decide_eq_true_eq]at c2
    exact iE.2 ⟨ajH c2.1 b1,c2.2⟩
   rw[hx]
   exact goal _ (by unfold dO;rw[c1,c2];rfl)
  |false=>exact goal _ (by unfold dO;rw[c1,c2];rfl)
end Go.Proofs.Vd
