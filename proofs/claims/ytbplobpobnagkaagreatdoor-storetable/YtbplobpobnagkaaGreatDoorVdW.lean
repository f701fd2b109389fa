import Derived.Test.YtbplobpobnagkaaGreatDoorVbS
noncomputable section
namespace Go.Proofs.Vd
open Go.Ab Go.Ab.Lf
set_option maxRecDepth 100000
abbrev St:=List Int×Bool
abbrev oH:= ∀ α:Type,St->(St->Option α)->Option α
def Wr(n:Nat)(F:oH):Prop:= ∀ s:St,s.1.length+n<=1099511627776-> ∃ s':St,s'.1.length<=s.1.length+n/\ ∀ α K,F α s K=K s'
theorem Wr.le{n m:Nat}{F:oH}(h:Wr n F)(hm:n<=m):Wr m F:=fun s hs=>by
 obtain⟨s',h1,h2⟩:=h s (by omega)
 exact⟨s',by omega,h2⟩
theorem Wr.seq{n m:Nat}{F G:oH}(h1:Wr n F)(h2:Wr m G):Wr (n+m) (fun α s K=>F α s fun s=>G α s K):=fun s hs=>by
 obtain⟨s1,a1,b1⟩:=h1 s (by omega)
 obtain⟨s2,a2,b2⟩:=h2 s1 (by omega)
 refine⟨s2,by omega,fun α K=>?_⟩
 show F α s _=_
 rw[b1,b2]
theorem Wr.bif{n:Nat}{c:Bool}{F G:oH}(h1:Wr n F)(h2:Wr n G):Wr n (fun α s K=>bif c then F α s K else G α s K):=by
 cases c
 ·exact h2
 ·exact h1
theorem Wr.nop:Wr 0 (fun _ s K=>K s):=fun s _=>⟨s,Nat.le_refl _,fun _ _=>rfl⟩
def jt(c:Bool):oH:=fun _ s K=>K (s.1,s.2|| !c)
theorem gv(c:Bool):Wr 0 (jt c):=fun s _=>⟨(s.1,s.2|| !c),Nat.le_refl _,fun _ _=>rfl⟩
def iL(l:List Int):oH:=fun _ s K=>aS (decide (s.1.length+l.length<=1099511627776)) (K (s.1++l,s.2))
theorem fj(l:List Int):Wr l.length (iL l):=fun s h=>⟨(s.1++l,s.2),by simp,fun _ K=>by unfold iL aS;rw[decide_eq_true h];rfl⟩
theorem oJ(l:List Int): ∀ s:St,(cz s l).1.length<=s.1.length+10*l.length:=by
 induction l with
 |nil=>intro s;simp[cz]
 |cons x l ih=>
  intro s
  have:=ih (uH s x)
  have h:=j9 (aV .u64 x)
  have e:cz s (x::l)=cz (uH s x) l:=rfl
  rw[e]
  have e2:(uH s x).1.length=s.1.length+(js (aV .u64 x)).length:=by simp[uH]
  simp only[List.length_cons]
  omega
theorem yC(l:List Int): ∀ s:St,(fv s l).1.length=s.1.length+l.length:=by
 induction l with
 |nil=>intro s;simp[fv]
 |cons x l ih=>
  intro s
  have:=ih (pT s x)
  have e:fv s (x::l)=fv (pT s x) l:=rfl
  rw[e]
  have e2:(pT s x).1.length=s.1.length+1:=by simp[pT]
  simp only[List.length_cons]
  omega
def ig(l:List Int):oH:=fun _ s K=>aS (decide (s.1.length+10*l.length<=1099511627776)) (K (cz s l))
theorem fw(l:List Int):Wr (10*l.length) (ig l):=fun s h=>⟨cz s l,oJ l s,fun _ K=>by unfold ig aS;rw[decide_eq_true h];rfl⟩
def sZ(l:List Int):oH:=fun _ s K=>aS (decide (s.1.length+l.length<=1099511627776)) (K (fv s l))
theorem vC(l:List Int):Wr l.length (sZ l):=fun s h=>⟨fv s l,Nat.le_of_eq (yC l s),fun _ K=>by unfold sZ aS;rw[decide_eq_true h];rfl⟩
def zC(l:List Int):oH:=fun _ s K=>aS (roomy 1 (s.1.length+l.length)) (K (app s.1 l,s.2))
theorem BD(l:List Int):Wr l.length (zC l):=fun s h=>⟨(s.1++l,s.2),by simp,fun _ K=>by unfold zC aS;rw[bP (by omega) h,bp];rfl⟩
def mW(F:oH)(s:St):St:=(F St s some).getD s
theorem DQ{n:Nat}{F:oH}(h:Wr n F){s:St}(hs:s.1.length+n<=1099511627776):(mW F s).1.length<=s.1.length+n/\ ∀ α K,F α s K=K (mW F s):=by
 obtain⟨s',h1,h2⟩:=h s hs
 have e:mW F s=s':=by unfold mW;rw[h2];rfl
 rw[e]
 exact⟨h1,h2⟩
def wT(ok:Bool)(n:Nat)(F:oH):oH:=fun _ s K=>aS (ok&&decide (s.1.length+n<=1099511627776)) (K (mW F s))
theorem mT{ok:Bool}{n:Nat}{F:oH}(h:Wr n F)(ho:ok=true):Wr n (wT ok n F):=fun s hs=>⟨mW F s,(DQ h hs).1,fun _ K=>by unfold wT aS;rw[ho,decide_eq_true hs];rfl⟩
abbrev k3(s:St):Option (List Pl):=some (aA [.ae u8,.bool] (s.1,s.2,()))
abbrev qW:jV:=Ps [.tu .nil,gY 2]
def rX(A:jV)(ta:List Ty)(F:ak ta->oH)(wt:ak ta->Nat)(ok:ak ta->Bool):cQ:=
 iy (.cons (gY 0) A) [2] qW (.ae u8::.bool::ta) [.ae u8,.bool] fun x=>.ck (ok x.2.2&&decide (x.1.length+wt x.2.2<=1099511627776)) (.ok ((mW (F x.2.2) (x.1,x.2.1)).1,(mW (F x.2.2) (x.1,x.2.1)).2,()))
theorem gO{call:eK}{aq:aB}(C:oz call aq){f:FuncId}{b:dE}(hb:mO aq f b)(qo:Nat.ble b.ntmps 512=true){L:Nat->Option fE}(hL:jm Rx.w aq L b.code){m:Nat}{A:jV}{ta:List Ty}{F:ak ta->oH}{wt:ak ta->Nat}{ok:ak ta->Bool}
 (hW: ∀ y,ok y=true->Wr (wt y) (F y))(ht: ∀ b1 k y,(je (.cons (gY 0) A) [2] qW L b m call (aA (.ae u8::.bool::ta) (b1,k,y))).val=F y _ (b1,k) k3):(rX A ta F wt ok).Ok f aq:=by
 refine dF C hb qo hL (m:=m) rfl ?_
 rintro⟨b1,k,y⟩ q h
 obtain⟨h1,h2⟩:=Lf.T.aY h
 cases h2
 simp only[Bool.and_eq_true,decide_eq_true_eq]at h1
 rw[ht]
 exact(DQ (hW y h1.1) h1.2).2 _ k3
def Kw(y:ak [.ae tI]):oH:=fun _ s K=>aS (qk y.1) (aS (roomy 1 (s.1.length+(pU y.1).length)) (K (app s.1 (pU y.1),s.2|| !(decide (nf y.1=0)))))
theorem vD(y:ak [.ae tI])(h:qk y.1=true):Wr (qt y.1) (Kw y):=fun s hs=>by
 have h':=h
 simp only[qk,Bool.and_eq_true,decide_eq_true_eq]at h'
 have hl:=DP y.1 h'.1
 exact⟨(s.1++pU y.1,s.2|| !(decide (nf y.1=0))),by simp;omega,fun _ K=>by unfold Kw aS;rw[h,bP (by omega) (by omega),bp];rfl⟩
def s50:cQ:=rX (Ps [.im tI]) [.ae tI] Kw (fun y=>qt y.1) (fun y=>qk y.1)
def e50:List (Nat×cQ):=[(43,SS),(84,s67)]
theorem YJ{aq:aB}(W:World aq):dh aq e50:=.cons (qX W) (.cons (YI W) .nil)
theorem Nz{aq:aB}(W:World aq):s50.Ok 65 aq:=by
 refine gO (W.in (YJ W) 3) (W.st 65 _ rfl) rfl (aE _) (m:=3) vD ?_
 rintro b k ⟨c,⟨⟩⟩
 kernel_rfl
end Go.Proofs.Vd

noncomputable section
namespace Go.Proofs.Vd
open Go.Ab Go.Ab.Lf
set_option maxRecDepth 100000
def gNo:Bool:=false
def Ao(s:ByteArray):Bool:=decide (s.size<=9223372036854775807)&&gNo
def s66(V:ByteArray->Bool):cQ:=iy (Ps [.st]) [] (Ps [.bo]) [.str] [.bool] fun x=>.ck (Ao x.1) (.ok (V x.1,()))
structure WorldV(V:ByteArray->Bool)(aq:aB):Prop extends World aq where
 vs:(s66 V).Ok 83 aq
def eW:List (Nat×cQ):=[(43,SS),(46,s31),(47,s32),(48,s33),(65,s50)]
theorem HT{aq:aB}(W:World aq):dh aq eW:=.cons (qX W) (.cons (F5 W) (.cons (yu W) (.cons (Nk W) (.cons (Nz W) .nil))))
def F44(y:ak [i64,.bool,.ae tI]):oH:=fun α s K=>sZ [y.1] α s fun s=>bif y.2.1 then iL [1] α s fun s=>wT (qk y.2.2.1) (qt y.2.2.1) (Kw y.2.2) α s K else iL [0] α s fun s=>wT (qk y.2.2.1) (qt y.2.2.1) (Kw y.2.2) α s K
def YK(y:ak [i64,.bool,.ae tI]):Nat:=1+(1+qt y.2.2.1)
theorem NA(y:ak [i64,.bool,.ae tI])(h:qk y.2.2.1=true):Wr (YK y) (F44 y):=
 (vC [y.1]).seq (.bif ((fj [1]).seq (mT (vD y.2.2 h) h)) ((fj [0]).seq (mT (vD y.2.2 h) h)))
def s44:cQ:=rX (Ps [.ag (Ps [.n .i64,.bo,.im tI])]) [i64,.bool,.ae tI] F44 YK fun y=>qk y.2.2.1
theorem YL{aq:aB}(W:World aq):s44.Ok 59 aq:=by
 refine gO (W.in (HT W) 3) (W.st 59 _ rfl) rfl (aE _) (m:=3) NA ?_
 rintro b k ⟨t,m,c,⟨⟩⟩
 kernel_rfl
def F41(y:ak [i64,i64,i64]):oH:=fun α s K=>jt (decide (y.1<=y.2.2.1)) α s fun s=>bif decide (y.2.1= -1)then iL [0] α s fun s=>ig [y.1] α s K else iL [1] α s fun s=>ig [y.1,y.2.1] α s K
theorem BE(y:ak [i64,i64,i64]):Wr 21 (F41 y):=
 ((gv _).seq (.bif (((fj [0]).seq (fw [y.1])).le (m:=21) (by simp)) ((fj [1]).seq (fw [y.1,y.2.1])))).le (by simp)
def s41:cQ:=rX (Ps [.ag (Ps [.n .i64,.n .i64]),.n .i64]) [i64,i64,i64] F41 (fun _=>21) fun _=>true
theorem YM{aq:aB}(W:World aq):s41.Ok 56 aq:=by
 refine gO (W.in (HT W) 3) (W.st 56 _ rfl) rfl (aE _) (m:=3) (fun y _=>BE y) ?_
 rintro b k ⟨mi,ma,mo,⟨⟩⟩
 kernel_rfl
def Qe(y:ak [u8,.ae u8,.bool]):oH:=fun α s K=>jt (!y.2.2.1) α s fun s=>iL [y.1] α s fun s=>ig [(y.2.1.length:Int)] α s fun s=>zC y.2.1 α s K
def wz(y:ak [u8,.ae u8,.bool]):Nat:=0+(1+(10+y.2.1.length))
theorem Ga(y:ak [u8,.ae u8,.bool]):Wr (wz y) (Qe y):=(gv _).seq ((fj [y.1]).seq ((fw [(y.2.1.length:Int)]).seq (BD y.2.1)))
def s47:cQ:=rX (Ps [.n .u8,gY 0]) [u8,.ae u8,.bool] Qe wz fun _=>true
theorem Gb{aq:aB}(W:World aq):s47.Ok 62 aq:=by
 refine gO (W.in (HT W) 3) (W.st 62 _ rfl) rfl (aE _) (m:=3) (fun y _=>Ga y) ?_
 rintro b k ⟨id,b2,k2,⟨⟩⟩
 kernel_rfl
def VQ(s:ByteArray):List Int:=s.data.toList.map fun b=>Int.ofNat b.toNat
theorem HU(s:ByteArray):(VQ s).length=s.size:=by unfold VQ;rw[List.length_map];rfl
def NB(V:ByteArray->Bool)(y:ak [.str]):oH:=fun α s K=>aS (Ao y.1)<|jt (V y.1) α s fun s=>ig [(y.1.size:Int)] α s fun s=>zC (VQ y.1) α s K
def uL(y:ak [.str]):Nat:=10+y.1.size
theorem yD(V:ByteArray->Bool)(y:ak [.str])(hg:Ao y.1=true):Wr (uL y) (NB V y):=by
 have e:NB V y=fun α s K=>jt (V y.1) α s fun s=>ig [(y.1.size:Int)] α s fun s=>zC (VQ y.1) α s K:=by
  unfold NB
  rw[hg]
  rfl
 rw[e]
 refine((gv (V y.1)).seq ((fw [(y.1.size:Int)]).seq (BD (VQ y.1)))).le ?_
 rw[HU]
 unfold uL
 simp only[List.length_cons,List.length_nil]
 omega
def s36(V:ByteArray->Bool):cQ:=rX (Ps [.st]) [.str] (NB V) uL fun y=>Ao y.1
def e36(V:ByteArray->Bool):List (Nat×cQ):=[(43,SS),(47,s32),(83,s66 V)]
theorem YN{V:ByteArray->Bool}{aq:aB}(W:WorldV V aq):dh aq (e36 V):=.cons (qX W.toWorld) (.cons (yu W.toWorld) (.cons W.vs .nil))
theorem YO{V:ByteArray->Bool}{aq:aB}(W:WorldV V aq):(s36 V).Ok 51 aq:=by
 refine gO (W.toWorld.in (YN W) 3) (W.st 51 _ rfl) rfl (aE _) (m:=3) (fun y h=>yD V y h) ?_
 rintro b k ⟨s,⟨⟩⟩
 kernel_rfl
def eV(V:ByteArray->Bool):List (Nat×cQ):=[(43,SS),(46,s31),(47,s32),(48,s33),(51,s36 V),(56,s41),(62,s47),(65,s50)]
theorem v8{V:ByteArray->Bool}{aq:aB}(W:WorldV V aq):dh aq (eV V):=.cons (qX W.toWorld) (.cons (F5 W.toWorld) (.cons (yu W.toWorld) (.cons (Nk W.toWorld) (.cons (YO W) (.cons (YM W.toWorld) (.cons (Gb W.toWorld) (.cons (Nz W.toWorld) .nil)))))))
def R30(y:ak [.ae i64,.ae i64]):oH:=fun α s K=>iL [96] α s fun s=>ig [(y.1.length:Int)] α s fun s=>sZ y.1 α s fun s=>ig [(y.2.1.length:Int)] α s fun s=>sZ y.2.1 α s K
def F30(y:ak [.ae i64,.ae i64]):oH:=fun α s K=>bif decide ((y.1.length:Int)<=32)then jt (decide ((y.2.1.length:Int)<=32)) α s fun s=>R30 y α s K else jt false α s fun s=>R30 y α s K
def YP(y:ak [.ae i64,.ae i64]):Nat:=0+(1+(10+(y.1.length+(10+y.2.1.length))))
theorem NC(y:ak [.ae i64,.ae i64]):Wr (1+(10+(y.1.length+(10+y.2.1.length)))) (R30 y):=(fj [96]).seq ((fw [(y.1.length:Int)]).seq ((vC y.1).seq ((fw [(y.2.1.length:Int)]).seq (vC y.2.1))))
theorem ND(y:ak [.ae i64,.ae i64]):Wr (YP y) (F30 y):=.bif ((gv _).seq (NC y)) ((gv _).seq (NC y))
def s30:cQ:=rX (Ps [.ag (Ps [.im i64,.im i64])]) [.ae i64,.ae i64] F30 YP fun _=>true
theorem YQ{V:ByteArray->Bool}{aq:aB}(W:WorldV V aq):s30.Ok 45 aq:=by
 refine gO (W.toWorld.in (v8 W) 3) (W.st 45 _ rfl) rfl (aE _) (m:=3) (fun y _=>ND y) ?_
 rintro b k ⟨i,o,⟨⟩⟩
 kernel_rfl
def F35(V:ByteArray->Bool)(y:ak [.str,.str,i64]):oH:=fun α s K=>wT (Ao y.1) (uL (y.1,())) (NB V (y.1,())) α s fun s=>wT (Ao y.2.1) (uL (y.2.1,())) (NB V (y.2.1,())) α s fun s=>iL [0] α s fun s=>ig [y.2.2.1] α s K
def YR(y:ak [.str,.str,i64]):Nat:=uL (y.1,())+(uL (y.2.1,())+(1+10))
theorem NF(V:ByteArray->Bool)(y:ak [.str,.str,i64])(hg:(Ao y.1&&Ao y.2.1)=true):Wr (YR y) (F35 V y):=(mT (yD V (y.1,()) (Bool.and_eq_true _ _▸hg).1) (Bool.and_eq_true _ _▸hg).1).seq ((mT (yD V (y.2.1,()) (Bool.and_eq_true _ _▸hg).2) (Bool.and_eq_true _ _▸hg).2).seq ((fj [0]).seq (fw [y.2.2.1])))
def s35(V:ByteArray->Bool):cQ:=rX (Ps [.ag (Ps [.st,.st,.n .i64])]) [.str,.str,i64] (F35 V) YR fun y=>Ao y.1&&Ao y.2.1
theorem YS{V:ByteArray->Bool}{aq:aB}(W:WorldV V aq):(s35 V).Ok 50 aq:=by
 refine gO (W.toWorld.in (v8 W) 3) (W.st 50 _ rfl) rfl (aE _) (m:=3) (fun y h=>NF V y h) ?_
 rintro b k ⟨m,n,t,⟨⟩⟩
 kernel_rfl
def F38(y:ak [i64]):oH:=ig [y.1]
def s38:cQ:=rX (Ps [.n .i64]) [i64] F38 (fun _=>10) fun _=>true
theorem YT{V:ByteArray->Bool}{aq:aB}(W:WorldV V aq):s38.Ok 53 aq:=by
 refine gO (W.toWorld.in (v8 W) 3) (W.st 53 _ rfl) rfl (aE _) (m:=3) (fun y _=>fw [y.1]) ?_
 rintro b k ⟨n,⟨⟩⟩
 kernel_rfl
def F40(y:ak [i64,i64]):oH:=fun α s K=>iL [112] α s fun s=>wT true 21 (F41 (y.1,y.2.1,1024,())) α s K
theorem NG(y:ak [i64,i64]):Wr 22 (F40 y):=(fj [112]).seq (mT (BE _) rfl)
def s40:cQ:=rX (Ps [.ag (Ps [.n .i64,.n .i64])]) [i64,i64] F40 (fun _=>22) fun _=>true
theorem YU{V:ByteArray->Bool}{aq:aB}(W:WorldV V aq):s40.Ok 55 aq:=by
 refine gO (W.toWorld.in (v8 W) 3) (W.st 55 _ rfl) rfl (aE _) (m:=3) (fun y _=>NG y) ?_
 rintro b k ⟨mi,ma,⟨⟩⟩
 kernel_rfl
def F42(y:ak [i64,i64]):oH:=wT true 21 (F41 (y.1,y.2.1,16,()))
def s42:cQ:=rX (Ps [.ag (Ps [.n .i64,.n .i64])]) [i64,i64] F42 (fun _=>21) fun _=>true
theorem YV{V:ByteArray->Bool}{aq:aB}(W:WorldV V aq):s42.Ok 57 aq:=by
 refine gO (W.toWorld.in (v8 W) 3) (W.st 57 _ rfl) rfl (aE _) (m:=3) (fun y _=>mT (BE _) rfl) ?_
 rintro b k ⟨mi,ma,⟨⟩⟩
 kernel_rfl
end Go.Proofs.Vd

noncomputable section
namespace Go.Proofs.Vd
open Go.Ab Go.Ab.Lf
set_option maxRecDepth 100000
abbrev tS(t:Ty):List Ty:=[.ae u8,.bool,u8,.ae u8,.bool,.ae t,i64,i64]
abbrev tSo:List Ty:=[.ae u8,.bool,u8,.ae u8,.bool]
def lS(x:dE)(f:FuncId)(t:Ty):jW:=⟨0,fI x.code 0,[0,1,4,10,33,34,35],Ps [gY 2,.n .u8,.fn f .nil,gY 0,.im t,.n .i64,.n .i64],[⟨.lL,[0,1,10],Ps [gY 2,.n .u8,gY 0]⟩]⟩
def s5{α:Type}(G:α->oH)(s:St)(l:List α):St:=l.foldl (fun s x=>mW (G x) s) s
def kE{α:Type}(wt:α->Nat)(l:List α):Nat:=l.foldr (fun x n=>wt x+n) 0
theorem oK{α:Type}(wt:α->Nat)(x:α)(l:List α):kE wt (x::l)=wt x+kE wt l:=rfl
structure Item(α:Type) where
 G:α->oH
 wt:α->Nat
 ok:α->Bool
 wr: ∀ x,ok x=true->Wr (wt x) (G x)
 pos: ∀ x,1<=wt x
theorem Item.len{α:Type}(A:Item α)(l:List α):l.length<=kE A.wt l:=by
 induction l with
 |nil=>exact Nat.le_refl _
 |cons x l ih=>rw[oK];have:=A.pos x;simp only[List.length_cons];omega
theorem Item.row{α:Type}(A:Item α)(l:List α)(h:cb A.ok l=true): ∀ s:St,s.1.length+kE A.wt l<=1099511627776->(s5 A.G s l).1.length<=s.1.length+kE A.wt l:=by
 induction l with
 |nil=>intro s _;exact Nat.le_refl _
 |cons x l ih=>
  intro s hs
  obtain⟨h1,h2⟩:=jO h
  rw[oK]at hs ⊢
  have k:=(DQ (A.wr x h1) (s:=s) (by omega)).1
  have:=ih h2 (mW (A.G x) s) (by omega)
  show(s5 A.G (mW (A.G x) s) l).1.length<=_
  omega
def BG{t:Ty}(l:jW)(call:eK)(A:Item (den t)):Prop:= ∀ b k id b2 k2 (r:List (den t)) n i,(l.step (fun _=>none) call 3 (aA (tS t) (b,k,id,b2,k2,r,n,i,()))).val=
 bif decide (i<n)then bif bg i (Int.ofNat r.length)then bif (A.ok (r.getD i.toNat (ao t))&&decide (b2.length+A.wt (r.getD i.toNat (ao t))<=1099511627776))then
  some (Rs.next (aA (tS t) (b,k,id,(mW (A.G (r.getD i.toNat (ao t))) (b2,k2)).1,(mW (A.G (r.getD i.toNat (ao t))) (b2,k2)).2,r,n,cf .i64 i 1,())))else none else none else some (Rs.out 0 (aA tSo (b,k,id,b2,k2,())))
theorem S9{t:Ty}{l:jW}{call:eK}{A:Item (den t)}(hs:BG l call A)(b:List Int)(k:Bool)(id:Int)(b2:List Int)(k2:Bool)(r:List (den t))(h1:cb A.ok r=true)(h2:b2.length+kE A.wt r<=1099511627776):
 gQ (l.step (fun _=>none) call 3) (aA (tS t) (b,k,id,b2,k2,r,(r.length:Int),0,())) 0 (aA tSo (b,k,id,(s5 A.G (b2,k2) r).1,(s5 A.G (b2,k2) r).2,())):=by
 have hl:=A.len r
 have:=JE (f:=l.step (fun _=>none) call 3) (l:=r) (fun(q:St) j=>aA (tS t) (b,k,id,q.1,q.2,r,(r.length:Int),(j:Int),())) (fun q x=>.inl (mW (A.G x) q)) (fun q=>(0,aA tSo (b,k,id,q.1,q.2,())))
  (fun q u=>cb A.ok u=true/\q.1.length+kE A.wt u<=1099511627776) (fun q j x u h hi=>by
  obtain⟨b2,k2⟩:=q
  obtain⟨e1,e2⟩:=dn h (ao t)
  obtain⟨a0,a3⟩:=hi
  obtain⟨a1,a2⟩:=jO a0
  rw[oK]at a3
  have hj:j<4611686018427387904:=by omega
  have a3:b2.length+(A.wt x+kE A.wt u)<=1099511627776:=a3
  have a4:b2.length+A.wt x<=1099511627776:=by omega
  have hm:=(DQ (A.wr x a1) (s:=(b2,k2)) a4).1
  refine⟨?_,fun s' e=>?_⟩
  ·rw[hs,dY e1,cond_true,bZ e1,cond_true,Int.toNat_natCast,e2,kA hj,a1,decide_eq_true a4]
   rfl
  ·cases e
   refine⟨a2,?_⟩
   have hm:(mW (A.G x) (b2,k2)).1.length<=b2.length+A.wt x:=hm
   omega) (fun q j h hj hi=>by
  have:j=r.length:=by have:=List.drop_eq_nil_iff.1 h;omega
  subst this
  rw[hs,dj (Nat.le_refl _)]
  rfl) r 0 (b2,k2) rfl (by omega) ⟨h1,h2⟩
 rw[fM]at this
 exact this
def gS{t:Ty}(A:Item (den t)):ak (tS t)->T (Nat×List Pl):=fun x=>.ck ((decide (x.2.2.2.2.2.2.1=(x.2.2.2.2.2.1.length:Int))&&decide (x.2.2.2.2.2.2.2.1=0))&&(cb A.ok x.2.2.2.2.2.1&&decide (x.2.2.2.1.length+kE A.wt x.2.2.2.2.2.1<=1099511627776)))
 (.ok (0,aA tSo (x.1,x.2.1,x.2.2.1,(s5 A.G (x.2.2.2.1,x.2.2.2.2.1) x.2.2.2.2.2.1).1,(s5 A.G (x.2.2.2.1,x.2.2.2.2.1) x.2.2.2.2.2.1).2,())))
theorem adf{t:Ty}{l:jW}{call:eK}{A:Item (den t)}(hs:BG l call A)(x:ak (tS t))(k:Nat)(q:List Pl)(h:(gS A x).val=some (k,q)):gQ (l.step (fun _=>none) call 3) (aA (tS t) x) k q:=by
 obtain⟨b,bad,id,b2,k2,r,n,i,⟨⟩⟩:=x
 obtain⟨h1,h2⟩:=Lf.T.aY h
 cases h2
 simp only[Bool.and_eq_true,decide_eq_true_eq]at h1
 obtain⟨⟨b1,Ku⟩,b3,b4⟩:=h1
 subst b1;subst Ku
 exact S9 hs b bad id b2 k2 r b3 b4
def FS{t:Ty}(A:Item (den t))(y:ak [u8,i64,.ae t]):oH:=fun α s K=>jt (decide ((y.2.2.1.length:Int)<=y.2.1)) α s fun s=>bif decide ((y.2.2.1.length:Int)=0)then K s else
 aS (decide (([]:List Int).length+10*[(y.2.2.1.length:Int)].length<=1099511627776)) (
  let p:=cz ([],s.2) [(y.2.2.1.length:Int)]
  let q:=s5 A.G p y.2.2.1
  aS ((decide ((y.2.2.1.length:Int)=(y.2.2.1.length:Int))&&decide ((0:Int)=0))&&(cb A.ok y.2.2.1&&decide (p.1.length+kE A.wt y.2.2.1<=1099511627776))) (wT true (wz (y.1,q.1,q.2,())) (Qe (y.1,q.1,q.2,())) α s K))
def wtS{t:Ty}(A:Item (den t))(y:ak [u8,i64,.ae t]):Nat:=21+kE A.wt y.2.2.1
theorem VS{t:Ty}(A:Item (den t))(y:ak [u8,i64,.ae t])(h:cb A.ok y.2.2.1=true):Wr (wtS A y) (FS A y):=by
 refine((gv (decide ((y.2.2.1.length:Int)<=y.2.1))).seq (n:=0) (m:=21+kE A.wt y.2.2.1) ?_).le (by unfold wtS;omega)
 refine .bif (Wr.nop.le (Nat.zero_le _)) ?_
 intro s hs
 have hp:=oJ [(y.2.2.1.length:Int)] ([],s.2)
 have hp:(cz ([],s.2) [(y.2.2.1.length:Int)]).1.length<=10:=by simpa using hp
 have hq:=A.row y.2.2.1 h (cz ([],s.2) [(y.2.2.1.length:Int)]) (by omega)
 have c1:(cz ([],s.2) [(y.2.2.1.length:Int)]).1.length+kE A.wt y.2.2.1<=1099511627776:=by omega
 let q:=s5 A.G (cz ([],s.2) [(y.2.2.1.length:Int)]) y.2.2.1
 have hq:q.1.length<=10+kE A.wt y.2.2.1:=Nat.le_trans hq (Nat.add_le_add_right hp _)
 have hw:wz (y.1,q.1,q.2,())<=21+kE A.wt y.2.2.1:=by show 0+(1+(10+q.1.length))<=_;omega
 obtain⟨s',a1,a2⟩:=(mT (Ga (y.1,q.1,q.2,())) rfl).le hw s hs
 refine⟨s',a1,fun α K=>?_⟩
 refine Eq.trans ?_ (a2 α K)
 show aS _ (aS ((decide _&&decide _)&&(cb A.ok y.2.2.1&&decide _)) _)=_
 rw[h,decide_eq_true c1]
 simp only[decide_true,Bool.and_self]
 rfl
def sS{t:Ty}(f:FuncId)(A:Item (den t)):cQ:=rX (Ps [.n .u8,.n .i64,.im t,.fn f .nil]) [u8,i64,.ae t] (FS A) (wtS A) fun y=>cb A.ok y.2.2.1
def eP:List (Nat×cQ):=[(43,SS),(47,s32),(62,s47)]
theorem adg{aq:aB}(W:World aq):dh aq eP:=.cons (qX W) (.cons (yu W) (.cons (Gb W) .nil))
def LS{t:Ty}(b:dE)(f:FuncId)(A:Item (den t)):Nat->Option fE:=pP [(0,pO (lS b f t) (tS t) (gS A))]
theorem su{aq:aB}(W:World aq){t:Ty}{f g:FuncId}{A:Item (den t)}{b:dE}{e:List (Nat×cQ)}(he:dh aq e)(hb:bkD g=some b)(qo:Nat.ble b.ntmps 512=true)(hs:BG (lS b f t) (dH e 3) A)
 (hL:ed Rx.w (pO (lS b f t) (tS t) (gS A)) (fun n d=>gG (aq n d) n (.bl 0 (.lp (lS b f t).body)))->jm Rx.w aq (LS b f A) b.code)
 (ht: ∀ b1 k y,(je (.cons (gY 0) (Ps [.n .u8,.n .i64,.im t,.fn f .nil])) [2] qW (LS b f A) b 3 (dH eP 3) (aA (.ae u8::.bool:: [u8,i64,.ae t]) (b1,k,y))).val=FS A y _ (b1,k) k3):(sS f A).Ok g aq:=
 gO (W.in (adg W) 3) (W.st g _ hb) qo (hL (iI (W.in he 3) (aE _) (m:=3) (adf hs))) (m:=3) (VS A) ht
def Ta:Item (den i64):=⟨fun x=>F38 (x,()),fun _=>10,fun _=>true,fun x _=>fw [x],fun _=>by decide⟩
theorem adh{V:ByteArray->Bool}{aq:aB}(W:WorldV V aq):(sS 53 Ta).Ok 52 aq:=by
 refine su W.toWorld (b:=Tryz.x52) (e:=[(53,s38)]) (.cons (YT W) .nil) rfl rfl ?_ (fun h=>fq.jm (.cons (b:=(lS Tryz.x52 53 i64).body) (by kernel_rfl) h .nil)) ?_
 ·intro b k id b2 k2 r n i
  kernel_rfl
 ·rintro b k ⟨id,mo,r,⟨⟩⟩
  kernel_rfl
end Go.Proofs.Vd

noncomputable section
namespace Go.Proofs.Vd
open Go.Ab Go.Ab.Lf
set_option maxRecDepth 100000
def F46(V:ByteArray->Bool)(y:ak [.str,i64,i64]):oH:=fun α s K=>bif decide (0<=y.2.1)then(jt (decide (y.2.1<=3)) α s fun s=>wT (Ao y.1) (uL (y.1,())) (NB V (y.1,())) α s fun s=>iL [aV .u8 y.2.1] α s fun s=>ig [y.2.2.1] α s K)
 else(jt false α s fun s=>wT (Ao y.1) (uL (y.1,())) (NB V (y.1,())) α s fun s=>iL [aV .u8 y.2.1] α s fun s=>ig [y.2.2.1] α s K)
def YW(y:ak [.str,i64,i64]):Nat:=0+(uL (y.1,())+(1+10))
theorem NH(V:ByteArray->Bool)(y:ak [.str,i64,i64])(hg:Ao y.1=true):Wr (YW y) (F46 V y):=.bif ((gv _).seq ((mT (yD V (y.1,()) hg) hg).seq ((fj [_]).seq (fw [y.2.2.1])))) ((gv _).seq ((mT (yD V (y.1,()) hg) hg).seq ((fj [_]).seq (fw [y.2.2.1]))))
def s46(V:ByteArray->Bool):cQ:=rX (Ps [.ag (Ps [.st,.n .i64,.n .i64])]) [.str,i64,i64] (F46 V) YW fun y=>Ao y.1
theorem YX{V:ByteArray->Bool}{aq:aB}(W:WorldV V aq):(s46 V).Ok 61 aq:=by
 refine gO (W.toWorld.in (v8 W) 3) (W.st 61 _ rfl) rfl (aE _) (m:=3) (fun y h=>NH V y h) ?_
 rintro b k ⟨n,kd,ix,⟨⟩⟩
 kernel_rfl
def F49(y:ak [.ae tI,.ae i64]):oH:=fun α s K=>jt (decide ((y.2.1.length:Int)<=1024)) α s fun s=>iL [0] α s fun s=>wT (qk y.1) (qt y.1) (Kw (y.1,())) α s fun s=>ig [(y.2.1.length:Int)] α s fun s=>ig y.2.1 α s K
def YY(y:ak [.ae tI,.ae i64]):Nat:=0+(1+(qt y.1+(10+10*y.2.1.length)))
theorem NI(y:ak [.ae tI,.ae i64])(h:qk y.1=true):Wr (YY y) (F49 y):=(gv _).seq ((fj [0]).seq ((mT (vD (y.1,()) h) h).seq ((fw [(y.2.1.length:Int)]).seq (fw y.2.1))))
def s49:cQ:=rX (Ps [.ag (Ps [.im tI,.im i64])]) [.ae tI,.ae i64] F49 YY fun y=>qk y.1
theorem YZ{V:ByteArray->Bool}{aq:aB}(W:WorldV V aq):s49.Ok 64 aq:=by
 refine gO (W.toWorld.in (v8 W) 3) (W.st 64 _ rfl) rfl (aE _) (m:=3) NI ?_
 rintro b k ⟨c,fs,⟨⟩⟩
 kernel_rfl
def F54(y:ak [.ae tI,.ae u8]):oH:=fun α s K=>iL [0] α s fun s=>wT (qk y.1) (qt y.1) (Kw (y.1,())) α s fun s=>ig [(y.2.1.length:Int)] α s fun s=>iL y.2.1 α s K
def Y0(y:ak [.ae tI,.ae u8]):Nat:=1+(qt y.1+(10+y.2.1.length))
theorem NJ(y:ak [.ae tI,.ae u8])(h:qk y.1=true):Wr (Y0 y) (F54 y):=(fj [0]).seq ((mT (vD (y.1,()) h) h).seq ((fw [(y.2.1.length:Int)]).seq (fj y.2.1)))
def s54:cQ:=rX (Ps [.ag (Ps [.im tI,.im u8])]) [.ae tI,.ae u8] F54 Y0 fun y=>qk y.1
theorem Y1{V:ByteArray->Bool}{aq:aB}(W:WorldV V aq):s54.Ok 69 aq:=by
 refine gO (W.toWorld.in (v8 W) 3) (W.st 69 _ rfl) rfl (aE _) (m:=3) NJ ?_
 rintro b k ⟨c,fs,⟨⟩⟩
 kernel_rfl
abbrev aI:Ty:=.pair (.ae i64) (.ae i64)
abbrev aP:Ty:=.pair .str (.pair .str i64)
abbrev aj:Ty:=.pair i64 i64
abbrev aC:Ty:=.pair i64 (.pair .bool (.ae tI))
abbrev aO:Ty:=.pair .str (.pair i64 i64)
abbrev aD:Ty:=.pair (.ae tI) (.ae i64)
abbrev aK:Ty:=.pair (.ae i64) (.ae tI)
abbrev aH:Ty:=.pair (.ae tI) (.ae u8)
def Tb:Item (den aI):=⟨fun x=>F30 (x.1,x.2,()),fun x=>YP (x.1,x.2,()),fun _=>true,fun x _=>ND _,fun x=>by show 1<=0+(1+_);omega⟩
def Y2(V:ByteArray->Bool):Item (den aP):=⟨fun x=>F35 V (x.1,x.2.1,x.2.2,()),fun x=>YR (x.1,x.2.1,x.2.2,()),fun x=>Ao x.1&&Ao x.2.1,fun x h=>NF V (x.1,x.2.1,x.2.2,()) h,fun x=>by show 1<=uL _+(uL _+(1+10));omega⟩
def Tc:Item (den aj):=⟨fun x=>F40 (x.1,x.2,()),fun _=>22,fun _=>true,fun x _=>NG _,fun _=>by decide⟩
def Td:Item (den aj):=⟨fun x=>F42 (x.1,x.2,()),fun _=>21,fun _=>true,fun x _=>mT (BE _) rfl,fun _=>by decide⟩
def NK:Item (den aC):=⟨fun x=>F44 (x.1,x.2.1,x.2.2,()),fun x=>YK (x.1,x.2.1,x.2.2,()),fun x=>qk x.2.2,fun x h=>NA _ h,fun x=>by show 1<=1+_;omega⟩
def Y3(V:ByteArray->Bool):Item (den aO):=⟨fun x=>F46 V (x.1,x.2.1,x.2.2,()),fun x=>YW (x.1,x.2.1,x.2.2,()),fun x=>Ao x.1,fun x h=>NH V (x.1,x.2.1,x.2.2,()) h,fun x=>by show 1<=0+(uL _+(1+10));omega⟩
def DR:Item (den aD):=⟨fun x=>F49 (x.1,x.2,()),fun x=>YY (x.1,x.2,()),fun x=>qk x.1,fun x h=>NI _ h,fun x=>by show 1<=0+(1+_);omega⟩
def Kx:Item (den aH):=⟨fun x=>F54 (x.1,x.2,()),fun x=>Y0 (x.1,x.2,()),fun x=>qk x.1,fun x h=>NJ _ h,fun x=>by show 1<=1+_;omega⟩
theorem NL{V:ByteArray->Bool}{aq:aB}(W:WorldV V aq):(sS 45 Tb).Ok 44 aq:=by
 refine su W.toWorld (b:=Tryz.x44) (e:=[(45,s30)]) (.cons (YQ W) .nil) rfl rfl ?_ (fun h=>fq.jm (.cons (b:=(lS Tryz.x44 45 aI).body) (by kernel_rfl) h .nil)) ?_
 ·intro b k id b2 k2 r n i
  kernel_rfl
 ·rintro b k ⟨id,mo,r,⟨⟩⟩
  kernel_rfl
theorem NM{V:ByteArray->Bool}{aq:aB}(W:WorldV V aq):(sS 50 (Y2 V)).Ok 49 aq:=by
 refine su W.toWorld (b:=Tryz.x49) (e:=[(50,s35 V)]) (.cons (YS W) .nil) rfl rfl ?_ (fun h=>fq.jm (.cons (b:=(lS Tryz.x49 50 aP).body) (by kernel_rfl) h .nil)) ?_
 ·intro b k id b2 k2 r n i
  kernel_rfl
 ·rintro b k ⟨id,mo,r,⟨⟩⟩
  kernel_rfl
theorem NN{V:ByteArray->Bool}{aq:aB}(W:WorldV V aq):(sS 55 Tc).Ok 54 aq:=by
 refine su W.toWorld (b:=Tryz.x54) (e:=[(55,s40)]) (.cons (YU W) .nil) rfl rfl ?_ (fun h=>fq.jm (.cons (b:=(lS Tryz.x54 55 aj).body) (by kernel_rfl) h .nil)) ?_
 ·intro b k id b2 k2 r n i
  kernel_rfl
 ·rintro b k ⟨id,mo,r,⟨⟩⟩
  kernel_rfl
theorem NO{V:ByteArray->Bool}{aq:aB}(W:WorldV V aq):(sS 57 Td).Ok 54 aq:=by
 refine su W.toWorld (b:=Tryz.x54) (e:=[(57,s42)]) (.cons (YV W) .nil) rfl rfl ?_ (fun h=>fq.jm (.cons (b:=(lS Tryz.x54 57 aj).body) (by kernel_rfl) h .nil)) ?_
 ·intro b k id b2 k2 r n i
  kernel_rfl
 ·rintro b k ⟨id,mo,r,⟨⟩⟩
  kernel_rfl
theorem NP{V:ByteArray->Bool}{aq:aB}(W:WorldV V aq):(sS 59 NK).Ok 58 aq:=by
 refine su W.toWorld (b:=Tryz.x58) (e:=[(59,s44)]) (.cons (YL W.toWorld) .nil) rfl rfl ?_ (fun h=>fq.jm (.cons (b:=(lS Tryz.x58 59 aC).body) (by kernel_rfl) h .nil)) ?_
 ·intro b k id b2 k2 r n i
  kernel_rfl
 ·rintro b k ⟨id,mo,r,⟨⟩⟩
  kernel_rfl
theorem NQ{V:ByteArray->Bool}{aq:aB}(W:WorldV V aq):(sS 61 (Y3 V)).Ok 60 aq:=by
 refine su W.toWorld (b:=Tryz.x60) (e:=[(61,s46 V)]) (.cons (YX W) .nil) rfl rfl ?_ (fun h=>fq.jm (.cons (b:=(lS Tryz.x60 61 aO).body) (by kernel_rfl) h .nil)) ?_
 ·intro b k id b2 k2 r n i
  kernel_rfl
 ·rintro b k ⟨id,mo,r,⟨⟩⟩
  kernel_rfl
theorem NR{V:ByteArray->Bool}{aq:aB}(W:WorldV V aq):(sS 64 DR).Ok 63 aq:=by
 refine su W.toWorld (b:=Tryz.x63) (e:=[(64,s49)]) (.cons (YZ W) .nil) rfl rfl ?_ (fun h=>fq.jm (.cons (b:=(lS Tryz.x63 64 aD).body) (by kernel_rfl) h .nil)) ?_
 ·intro b k id b2 k2 r n i
  kernel_rfl
 ·rintro b k ⟨id,mo,r,⟨⟩⟩
  kernel_rfl
theorem NS{V:ByteArray->Bool}{aq:aB}(W:WorldV V aq):(sS 69 Kx).Ok 68 aq:=by
 refine su W.toWorld (b:=Tryz.x68) (e:=[(69,s54)]) (.cons (Y1 W) .nil) rfl rfl ?_ (fun h=>fq.jm (.cons (b:=(lS Tryz.x68 69 aH).body) (by kernel_rfl) h .nil)) ?_
 ·intro b k id b2 k2 r n i
  kernel_rfl
 ·rintro b k ⟨id,mo,r,⟨⟩⟩
  kernel_rfl
end Go.Proofs.Vd

noncomputable section
namespace Go.Proofs.Vd
open Go.Ab Go.Ab.Lf
set_option maxRecDepth 100000
abbrev pC2:jV:=.pt 0 (Ps [.im i64,.im tI])
abbrev Qf:List Ty:=[.ae u8,.bool,.ae i64,.ae tI,.ae u8,.bool,i64,i64,i64]
abbrev wA:List Ty:=[.ae u8,.bool,.ae i64,.ae tI,.ae u8,.bool,i64,i64]
abbrev wB:List Ty:=[.ae u8,.bool,.ae i64,.ae tI,.ae u8,.bool,i64]
abbrev Y4:List Ty:=[.ae u8,.bool,.ae i64,.ae tI,.ae u8,.bool]
def DS:jW:=⟨0,fI Tryz.x67.code 0,[0,3,4,5,19,20],Ps [gY 2,pC2,gY 0,.n .i64,.n .i64,.n .i64],[⟨.lL,[0,3,4,5],Ps [gY 2,pC2,gY 0,.n .i64]⟩]⟩
def Gc:jW:=⟨4,fI Tryz.x67.code 4,[0,3,4,7,8],Ps [gY 2,pC2,gY 0,.n .i64,.n .i64],[⟨.lL,[0,3,4,7,8],Ps [gY 2,pC2,gY 0,.n .i64,.n .i64]⟩]⟩
def Ge:jW:=⟨2,fI Tryz.x67.code 2,[0,3,4,7],Ps [gY 2,pC2,gY 0,.n .i64],[⟨.lL,[0,3,4],Ps [gY 2,pC2,gY 0]⟩]⟩
def NT(L:List Int)(r:Int)(j:Nat):Int:=bif (bif decide ((j:Int)=0)then true else !decide (L.getD (j:Int).toNat (ao i64)=L.getD (bO .i64 (j:Int) 1).toNat (ao i64)))then cf .i64 r 1 else r
def ee(L:List Int)(r:Int):Int:=(List.range L.length).foldl (NT L) r
theorem Ap(b:List Int)(k:Bool)(L:List Int)(c:List (den tI))(b2:List Int)(k2:Bool)(r n i:Int):(DS.step (fun _=>none) (dH eW 3) 3 (aA Qf (b,k,L,c,b2,k2,r,n,i,()))).val=
 bif decide (i<n)then bif (bif decide (i=0)then true else(bg i (Int.ofNat L.length)&&bg (bO .i64 i 1) (Int.ofNat L.length)))then
  bif (bif decide (i=0)then true else !decide (L.getD i.toNat (ao i64)=L.getD (bO .i64 i 1).toNat (ao i64)))then some (Rs.next (aA Qf (b,k,L,c,b2,k2,cf .i64 r 1,n,cf .i64 i 1,())))else some (Rs.next (aA Qf (b,k,L,c,b2,k2,r,n,cf .i64 i 1,())))else none
 else some (Rs.out 0 (aA wB (b,k,L,c,b2,k2,r,()))):=by kernel_rfl
theorem NU(b:List Int)(k:Bool)(L:List Int)(c:List (den tI))(b2:List Int)(k2:Bool)(r:Int)(hL:L.length<=1099511627776):
 gQ (DS.step (fun _=>none) (dH eW 3) 3) (aA Qf (b,k,L,c,b2,k2,r,(L.length:Int),0,())) 0 (aA wB (b,k,L,c,b2,k2,ee L r,())):=by
 have:=JE (f:=DS.step (fun _=>none) (dH eW 3) 3) (l:=List.range L.length) (fun(q:Int) j=>aA Qf (b,k,L,c,b2,k2,q,(L.length:Int),(j:Int),())) (fun q x=>.inl (NT L q x)) (fun q=>(0,aA wB (b,k,L,c,b2,k2,q,()))) (fun _ _=>True) (fun q j x u h _=>by
  obtain⟨e1,e2⟩:=dn h 0
  have e3:x=j:=by
   rw[<-e2,List.getD_eq_getElem?_getD,List.getElem?_eq_getElem e1]
   simp
  subst e3
  rw[List.length_range]at e1
  have hj:x<4611686018427387904:=by omega
  refine⟨?_,fun _ _=>trivial⟩
  rw[Ap,dY e1,cond_true,kA hj]
  have hc:(bif decide ((x:Int)=0)then true else(bg (x:Int) (Int.ofNat L.length)&&bg (bO .i64 (x:Int) 1) (Int.ofNat L.length)))=true:=by
   by_cases h0:x=0
   ·subst h0;rfl
   ·rw[decide_eq_false (by omega),cond_false,bZ e1,Bw (by omega) (by omega),bZ (by omega)]
    rfl
  rw[hc,cond_true]
  unfold NT
  cases(bif decide ((x:Int)=0)then true else !decide (L.getD (x:Int).toNat (ao i64)=L.getD (bO .i64 (x:Int) 1).toNat (ao i64)))<;>rfl) (fun q j h hj _=>by
  have:j=L.length:=by have:=List.drop_eq_nil_iff.1 h;rw[List.length_range]at this hj;omega
  subst this
  rw[Ap,dj (Nat.le_refl _)]
  rfl) (List.range L.length) 0 r rfl (by rw[List.length_range];omega) trivial
 rw[fM]at this
 exact this
def Y5:ak Qf->T (Nat×List Pl):=fun x=>.ck ((decide (x.2.2.2.2.2.2.2.1=(x.2.2.1.length:Int))&&decide (x.2.2.2.2.2.2.2.2.1=0))&&decide (x.2.2.1.length<=1099511627776)) (.ok (0,aA wB (x.1,x.2.1,x.2.2.1,x.2.2.2.1,x.2.2.2.2.1,x.2.2.2.2.2.1,ee x.2.2.1 x.2.2.2.2.2.2.1,())))
theorem Te(x:ak Qf)(k:Nat)(q:List Pl)(h:(Y5 x).val=some (k,q)):gQ (DS.step (fun _=>none) (dH eW 3) 3) (aA Qf x) k q:=by
 obtain⟨b,bad,L,c,b2,k2,r,n,i,⟨⟩⟩:=x
 obtain⟨h1,h2⟩:=Lf.T.aY h
 cases h2
 simp only[Bool.and_eq_true,decide_eq_true_eq]at h1
 obtain⟨⟨b1,Ku⟩,b3⟩:=h1
 subst b1;subst Ku
 exact NU b bad L c b2 k2 r b3
def oL(L:List Int)(i:Nat):Nat->Nat->Nat
 |0,n=>n
 |k+1,n=>if i+n<L.length/\L.getD (i+n) (ao i64)=L.getD i (ao i64)then oL L i k (n+1)else n
theorem DT(L:List Int)(i:Nat): ∀ (k n:Nat),i+n<=L.length->n<=oL L i k n/\i+oL L i k n<=L.length
 |0,n,h=>⟨Nat.le_refl _,h⟩
 |k+1,n,h=>by
  unfold oL
  split
  ·rename_i hc
   have:=DT L i k (n+1) (by omega)
   omega
  ·exact⟨Nat.le_refl _,h⟩
theorem JI{i n:Nat}(h:i+n<4611686018427387904):cf .i64 (i:Int) (n:Int)=((i+n:Nat):Int):=by
 show eZ .i64 ((i:Int)+(n:Int))=_
 rw[wrap_i64 (by omega) (by omega)]
 omega
theorem rH(b:List Int)(k:Bool)(L:List Int)(c:List (den tI))(b2:List Int)(k2:Bool)(i n:Int):(Gc.step (fun _=>none) (dH eW 3) 3 (aA wA (b,k,L,c,b2,k2,i,n,()))).val=
 bif (bif decide (cf .i64 i n<Int.ofNat L.length)then(bg (cf .i64 i n) (Int.ofNat L.length)&&bg i (Int.ofNat L.length))else true)then
  bif (bif decide (cf .i64 i n<Int.ofNat L.length)then decide (L.getD (cf .i64 i n).toNat (ao i64)=L.getD i.toNat (ao i64))else false)then some (Rs.next (aA wA (b,k,L,c,b2,k2,i,cf .i64 n 1,())))else some (Rs.out 0 (aA wA (b,k,L,c,b2,k2,i,n,())))
 else none:=by kernel_rfl
theorem DU(b:List Int)(k:Bool)(L:List Int)(c:List (den tI))(b2:List Int)(k2:Bool)(i:Nat)(hL:L.length<=1099511627776)(hi:i<L.length): ∀ (f n:Nat),i+n<=L.length->L.length<=i+n+f->
 gQ (Gc.step (fun _=>none) (dH eW 3) 3) (aA wA (b,k,L,c,b2,k2,(i:Int),(n:Int),())) 0 (aA wA (b,k,L,c,b2,k2,(i:Int),(oL L i f n:Nat),()))
 |0,n,h1,h2=>by
  refine .last ?_
  rw[rH,JI (by omega),show Int.ofNat L.length=(L.length:Int)from rfl,dj (by omega)]
  rfl
 |f+1,n,h1,h2=>by
  by_cases hn:i+n<L.length
  ·have e0:((i:Nat):Int).toNat=i:=Int.toNat_natCast i
   by_cases hq:L.getD (i+n) (ao i64)=L.getD i (ao i64)
   ·refine .more (pl':=aA wA (b,k,L,c,b2,k2,(i:Int),((n+1:Nat):Int),())) ?_ ?_
    ·rw[rH,JI (by omega),bZ hn,bZ hi,Int.toNat_natCast,e0,show Int.ofNat L.length=(L.length:Int)from rfl,dY hn,decide_eq_true hq,kA (by omega)]
     rfl
    ·have e:oL L i (f+1) n=oL L i f (n+1):=if_pos ⟨hn,hq⟩
     rw[e]
     exact DU b k L c b2 k2 i hL hi f (n+1) (by omega) (by omega)
   ·refine .last ?_
    have e:oL L i (f+1) n=n:=if_neg (fun h=>hq h.2)
    rw[rH,JI (by omega),bZ hn,bZ hi,Int.toNat_natCast,e0,show Int.ofNat L.length=(L.length:Int)from rfl,dY hn,decide_eq_false hq,e]
    rfl
  ·refine .last ?_
   have e:oL L i (f+1) n=n:=if_neg (fun h=>hn h.1)
   rw[rH,JI (by omega),show Int.ofNat L.length=(L.length:Int)from rfl,dj (by omega),e]
   rfl
def gZ(L:List Int)(i:Int):Nat:=oL L i.toNat L.length 1
def Y6:ak wA->T (Nat×List Pl):=fun x=>.ck (((decide (0<=x.2.2.2.2.2.2.1)&&decide (x.2.2.2.2.2.2.1<(x.2.2.1.length:Int)))&&decide (x.2.2.2.2.2.2.2.1=1))&&decide (x.2.2.1.length<=1099511627776)) (.ok (0,aA wA (x.1,x.2.1,x.2.2.1,x.2.2.2.1,x.2.2.2.2.1,x.2.2.2.2.2.1,x.2.2.2.2.2.2.1,(gZ x.2.2.1 x.2.2.2.2.2.2.1:Int),())))
theorem Tf(x:ak wA)(k:Nat)(q:List Pl)(h:(Y6 x).val=some (k,q)):gQ (Gc.step (fun _=>none) (dH eW 3) 3) (aA wA x) k q:=by
 obtain⟨b,bad,L,c,b2,k2,i,n,⟨⟩⟩:=x
 obtain⟨h1,h2⟩:=Lf.T.aY h
 cases h2
 simp only[Bool.and_eq_true,decide_eq_true_eq]at h1
 obtain⟨⟨⟨b1,Ku⟩,b3⟩,b4⟩:=h1
 subst b3
 obtain⟨j,rfl⟩:=Int.eq_ofNat_of_zero_le b1
 have Ku:(j:Int)<(L.length:Int):=Ku
 have:=DU b bad L c b2 k2 j b4 (by omega) L.length 1 (by omega) (by omega)
 exact this
def q5(L:List Int):Nat->St->Nat->St
 |0,s,_=>s
 |k+1,s,i=>if i<L.length then q5 L k (fv (cz s [(gZ L (i:Int):Int)]) [L.getD i (ao i64)]) (i+gZ L (i:Int))else s
theorem BH(L:List Int)(i:Nat)(h:i<L.length):1<=gZ L (i:Int)/\i+gZ L (i:Int)<=L.length:=DT L i L.length 1 (by omega)
def Tg:Nat->Option fE:=pP [(4,pO Gc wA Y6)]
theorem vE(b:List Int)(k:Bool)(L:List Int)(c:List (den tI))(b2:List Int)(k2:Bool)(i:Int):(Ge.step Tg (dH eW 3) 3 (aA wB (b,k,L,c,b2,k2,i,()))).val=
 bif decide (i<Int.ofNat L.length)then bif ((decide (0<=i)&&decide (i<(L.length:Int)))&&decide ((1:Int)=1))&&decide (L.length<=1099511627776)then bif decide (b2.length+10*[(gZ L i:Int)].length<=1099511627776)then bif bg i (Int.ofNat L.length)then
  bif decide ((cz (b2,k2) [(gZ L i:Int)]).1.length+[L.getD i.toNat (ao i64)].length<=1099511627776)then some (Rs.next (aA wB (b,k,L,c,(fv (cz (b2,k2) [(gZ L i:Int)]) [L.getD i.toNat (ao i64)]).1,(fv (cz (b2,k2) [(gZ L i:Int)]) [L.getD i.toNat (ao i64)]).2,cf .i64 i (gZ L i:Int),())))
  else none else none else none else none else some (Rs.out 0 (aA Y4 (b,k,L,c,b2,k2,()))):=by kernel_rfl
theorem yE(b:List Int)(k:Bool)(L:List Int)(c:List (den tI))(hL:L.length<=1099511627776): ∀ (f:Nat) (s:St) (i:Nat),i<=L.length->L.length<=i+f->s.1.length+11*(L.length - i)<=1099511627776->
 gQ (Ge.step Tg (dH eW 3) 3) (aA wB (b,k,L,c,s.1,s.2,(i:Int),())) 0 (aA Y4 (b,k,L,c,(q5 L f s i).1,(q5 L f s i).2,()))/\(q5 L f s i).1.length<=s.1.length+11*(L.length - i)
 |0,s,i,h1,h2,h3=>by
  refine⟨.last ?_,Nat.le_add_right _ _⟩
  rw[vE,show Int.ofNat L.length=(L.length:Int)from rfl,dj (by omega)]
  rfl
 |f+1,s,i,h1,h2,h3=>by
  by_cases hi:i<L.length
  ·obtain⟨r1,r2⟩:=BH L i hi
   have hn:=oJ [(gZ L (i:Int):Int)] s
   have hn:(cz s [(gZ L (i:Int):Int)]).1.length<=s.1.length+10:=by simpa using hn
   have hk:=yC [L.getD i (ao i64)] (cz s [(gZ L (i:Int):Int)])
   have hk:(fv (cz s [(gZ L (i:Int):Int)]) [L.getD i (ao i64)]).1.length=(cz s [(gZ L (i:Int):Int)]).1.length+1:=by simpa using hk
   obtain⟨a1,a2⟩:=yE b k L c hL f (fv (cz s [(gZ L (i:Int):Int)]) [L.getD i (ao i64)]) (i+gZ L (i:Int)) r2 (by omega) (by omega)
   have e:q5 L (f+1) s i=q5 L f (fv (cz s [(gZ L (i:Int):Int)]) [L.getD i (ao i64)]) (i+gZ L (i:Int)):=if_pos hi
   rw[e]
   refine⟨.more ?_ a1,by omega⟩
   have c1:s.1.length+10*[(gZ L (i:Int):Int)].length<=1099511627776:=by simp only[List.length_cons,List.length_nil];omega
   have c2:(cz s [(gZ L (i:Int):Int)]).1.length+[L.getD i (ao i64)].length<=1099511627776:=by simp only[List.length_cons,List.length_nil];omega
   rw[vE,bZ hi,Int.toNat_natCast,show Int.ofNat L.length=(L.length:Int)from rfl,dY hi,JI (by omega),decide_eq_true c1,decide_eq_true (show(0:Int)<=(i:Int) by omega),decide_eq_true hL]
   show(bif decide _ then _ else _)=_
   rw[decide_eq_true c2]
   rfl
  ·have e:q5 L (f+1) s i=s:=if_neg hi
   rw[e]
   refine⟨.last ?_,Nat.le_add_right _ _⟩
   rw[vE,show Int.ofNat L.length=(L.length:Int)from rfl,dj (by omega)]
   rfl
def wC(s:St)(L:List Int):St:=q5 L L.length s 0
def Y7:ak wB->T (Nat×List Pl):=fun x=>.ck ((decide (x.2.2.2.2.2.2.1=0)&&decide (x.2.2.1.length<=1099511627776))&&decide (x.2.2.2.2.1.length+11*x.2.2.1.length<=1099511627776)) (.ok (0,aA Y4 (x.1,x.2.1,x.2.2.1,x.2.2.2.1,(wC (x.2.2.2.2.1,x.2.2.2.2.2.1) x.2.2.1).1,(wC (x.2.2.2.2.1,x.2.2.2.2.2.1) x.2.2.1).2,())))
theorem Th(x:ak wB)(k:Nat)(q:List Pl)(h:(Y7 x).val=some (k,q)):gQ (Ge.step Tg (dH eW 3) 3) (aA wB x) k q:=by
 obtain⟨b,bad,L,c,b2,k2,i,⟨⟩⟩:=x
 obtain⟨h1,h2⟩:=Lf.T.aY h
 cases h2
 simp only[Bool.and_eq_true,decide_eq_true_eq]at h1
 obtain⟨⟨b1,Ku⟩,b3⟩:=h1
 subst b1
 exact(yE b bad L c Ku L.length (b2,k2) 0 (by omega) (by omega) (by simpa using b3)).1
def L52:Nat->Option fE:=pP [(0,pO DS Qf Y5),(2,pO Ge wB Y7)]
def F52(y:ak [.ae i64,.ae tI]):oH:=fun α s K=>jt (decide ((y.1.length:Int)<=512)) α s fun s=>aS ((decide ((y.1.length:Int)=(y.1.length:Int))&&decide ((0:Int)=0))&&decide (y.1.length<=1099511627776))
 (ig [ee y.1 0] α ([],false) fun q=>aS ((decide ((0:Int)=0)&&decide (y.1.length<=1099511627776))&&decide (q.1.length+11*y.1.length<=1099511627776)) (wT (qk y.2.1) (qt y.2.1) (Kw (y.2.1,())) α (wC q y.1) fun q=>jt (!q.2) α s fun s=>ig [(q.1.length:Int)] α s fun s=>zC q.1 α s K))
def Gf(y:ak [.ae i64,.ae tI]):Nat:=20+11*y.1.length+qt y.2.1
theorem Y8(b:List Int)(k:Bool)(L:List Int)(c:List (den tI)):(je (.cons (gY 0) (Ps [.ag (Ps [.im i64,.im tI])])) [2] qW L52 Tryz.x67 3 (dH eW 3) (aA (.ae u8::.bool:: [.ae i64,.ae tI]) (b,k,L,c,()))).val=F52 (L,c,()) _ (b,k) k3:=by kernel_rfl
end Go.Proofs.Vd

noncomputable section
namespace Go.Proofs.Vd
open Go.Ab Go.Ab.Lf
set_option maxRecDepth 100000
theorem DV(s:St)(L:List Int)(hL:L.length<=1099511627776)(h:s.1.length+11*L.length<=1099511627776):(wC s L).1.length<=s.1.length+11*L.length:=
 (yE [] false L [] hL L.length s 0 (by omega) (by omega) (by simpa using h)).2
theorem NV(y:ak [.ae i64,.ae tI])(h:qk y.2.1=true):Wr (Gf y) (F52 y):=by
 refine((gv (decide ((y.1.length:Int)<=512))).seq (n:=0) (m:=Gf y) ?_).le (by omega)
 intro s hs
 unfold Gf at hs ⊢
 have hn:=oJ [ee y.1 0] ([],false)
 have hn:(cz ([],false) [ee y.1 0]).1.length<=10:=by simpa using hn
 have hL:y.1.length<=1099511627776:=by omega
 have c1:(cz ([],false) [ee y.1 0]).1.length+11*y.1.length<=1099511627776:=by omega
 have hm:=DV (cz ([],false) [ee y.1 0]) y.1 hL c1
 have c2:(wC (cz ([],false) [ee y.1 0]) y.1).1.length+qt y.2.1<=1099511627776:=by omega
 obtain⟨q,hq,eq⟩:=mT (vD (y.2.1,()) h) h (wC (cz ([],false) [ee y.1 0]) y.1) c2
 have hq:q.1.length<=(wC (cz ([],false) [ee y.1 0]) y.1).1.length+qt y.2.1:=hq
 obtain⟨s',XQ,es⟩:=((gv (!q.2)).seq ((fw [(q.1.length:Int)]).seq (BD q.1))).le (m:=20+11*y.1.length+qt y.2.1) (by simp only[List.length_cons,List.length_nil];omega) s hs
 refine⟨s',XQ,fun α K=>?_⟩
 refine Eq.trans ?_ (es α K)
 show aS ((decide _&&decide _)&&decide _) (aS (decide (([]:List Int).length+10*[ee y.1 0].length<=1099511627776)) (aS ((decide _&&decide _)&&decide _) (wT (qk y.2.1) (qt y.2.1) (Kw (y.2.1,())) α (wC (cz ([],false) [ee y.1 0]) y.1) _)))=_
 rw[eq,decide_eq_true hL,decide_eq_true c1,decide_eq_true (show(y.1.length:Int)=(y.1.length:Int)from rfl)]
 rfl
def s52:cQ:=rX (Ps [.ag (Ps [.im i64,.im tI])]) [.ae i64,.ae tI] F52 Gf fun y=>qk y.2.1
theorem Y9{V:ByteArray->Bool}{aq:aB}(W:WorldV V aq):s52.Ok 67 aq:=by
 have C:=W.toWorld.in (HT W.toWorld) 3
 have h0:ed Rx.w (pO DS Qf Y5) (fun n d=>gG (aq n d) n (.bl 0 (.lp DS.body))):=iI C (aE _) (m:=3) Te
 have h4:ed Rx.w (pO Gc wA Y6) (fun n d=>gG (aq n d) n (.bl 4 (.lp Gc.body))):=iI C (aE _) (m:=3) Tf
 have h2:ed Rx.w (pO Ge wB Y7) (fun n d=>gG (aq n d) n (.bl 2 (.lp Ge.body))):=iI C (L:=Tg) (fq.jm (.cons (b:=Gc.body) (by kernel_rfl) h4 .nil)) (m:=3) Th
 refine gO C (W.st 67 _ rfl) rfl (L:=L52) (fq.jm (.cons (b:=DS.body) (by kernel_rfl) h0 (.cons (b:=Ge.body) (by kernel_rfl) h2 .nil))) (m:=3) NV ?_
 rintro b k ⟨L,c,⟨⟩⟩
 exact Y8 b k L c
def NW:Item (den aK):=⟨fun x=>F52 (x.1,x.2,()),fun x=>Gf (x.1,x.2,()),fun x=>qk x.2,fun x h=>NV _ h,fun x=>by show 1<=20+_+_;omega⟩
theorem NX{V:ByteArray->Bool}{aq:aB}(W:WorldV V aq):(sS 67 NW).Ok 66 aq:=by
 refine su W.toWorld (b:=Tryz.x66) (e:=[(67,s52)]) (.cons (Y9 W) .nil) rfl rfl ?_ (fun h=>fq.jm (.cons (b:=(lS Tryz.x66 67 aK).body) (by kernel_rfl) h .nil)) ?_
 ·intro b k id b2 k2 r n i
  kernel_rfl
 ·rintro b k ⟨id,mo,r,⟨⟩⟩
  kernel_rfl
end Go.Proofs.Vd

noncomputable section
namespace Go.Proofs.Vd
open Go.Ab Go.Ab.Lf
set_option maxRecDepth 100000
def Y'(a b:eK):eK:=fun f args h=>match a f args h with
 | .bad=>b f args h
 |t=>t
theorem Ti{a b:eK}{aq:aB}(ha:oz a aq)(hb:oz b aq):oz (Y' a b) aq:=by
 intro E f args ys H h v H' hv hH e
 unfold Y' at e
 split at e
 ·exact hb E f args ys H h v H' hv hH e
 ·exact ha E f args ys H h v H' hv hH e
abbrev tM:List Ty:=[.ae aI,.ae aP,.ae i64,.ae aj,.ae aj,.ae aC,.ae aO,i64,.ae aD,.ae aK,.ae aH]
abbrev pM:jV:=.ag (Ps [.im aI,.im aP,.im i64,.im aj,.im aj,.im aC,.im aO,.n .i64,.im aD,.im aK,.im aH])
def e18(V:ByteArray->Bool):List (Nat×cQ):=[(43,SS),(44,sS 45 Tb),(47,s32),(49,sS 50 (Y2 V)),(52,sS 53 Ta),(54,sS 55 Tc),(58,sS 59 NK),(60,sS 61 (Y3 V)),(62,s47),(63,sS 64 DR),(66,sS 67 NW),(68,sS 69 Kx)]
theorem Za{V:ByteArray->Bool}{aq:aB}(W:WorldV V aq):dh aq (e18 V):=
 .cons (qX W.toWorld) (.cons (NL W) (.cons (yu W.toWorld) (.cons (NM W) (.cons (adh W) (.cons (NN W) (.cons (NP W) (.cons (NQ W) (.cons (Gb W.toWorld) (.cons (NR W) (.cons (NX W) (.cons (NS W) .nil)))))))))))
def c18(V:ByteArray->Bool):eK:=Y' (dH (e18 V) 3) (dH [(54,sS 57 Td)] 3)
theorem Zb{V:ByteArray->Bool}{aq:aB}(W:WorldV V aq):oz (c18 V) aq:=Ti (W.toWorld.in (Za W) 3) (W.toWorld.in (.cons (NO W) .nil) 3)
def wD{t:Ty}(A:Item (den t))(id most:Int)(l:List (den t)):oH:=wT (cb A.ok l) (21+kE A.wt l) (FS A (id,most,l,()))
theorem kL{t:Ty}(A:Item (den t))(id most:Int)(l:List (den t))(h:cb A.ok l=true):Wr (21+kE A.wt l) (wD A id most l):=mT (VS A (id,most,l,()) h) h
def Tj(y:ak tM):oH:=fun α s K=>wD DR 9 512 y.2.2.2.2.2.2.2.2.1 α s fun s=>wD NW 10 512 y.2.2.2.2.2.2.2.2.2.1 α s fun s=>wD Kx 11 512 y.2.2.2.2.2.2.2.2.2.2.1 α s K
def F18(V:ByteArray->Bool)(y:ak tM):oH:=fun α s K=>jt (decide ((y.2.2.1.length:Int)=(y.2.2.2.2.2.2.2.2.2.1.length:Int))) α s fun s=>
 wD Tb 1 256 y.1 α s fun s=>wD (Y2 V) 2 512 y.2.1 α s fun s=>wD Ta 3 512 y.2.2.1 α s fun s=>wD Tc 4 512 y.2.2.2.1 α s fun s=>wD Td 5 512 y.2.2.2.2.1 α s fun s=>wD NK 6 512 y.2.2.2.2.2.1 α s fun s=>wD (Y3 V) 7 512 y.2.2.2.2.2.2.1 α s fun s=>
 jt (decide (-1<=y.2.2.2.2.2.2.2.1)) α s fun s=>bif decide (0<=y.2.2.2.2.2.2.2.1)then
  ig [y.2.2.2.2.2.2.2.1] α ([],false) fun p=>wT true (wz (8,p.1,p.2,())) (Qe (8,p.1,p.2,())) α s fun s=>Tj y α s K
 else Tj y α s K
def Tk(s:St):Option (List Pl):=bif s.2 then some (aA [.ae u8,i64] ([],1,()))else bif decide (16384<(s.1.length:Int))then some (aA [.ae u8,i64] ([],4,()))else some (aA [.ae u8,i64] (s.1,0,()))
def s0:St:=([0,97,115,109,1,0,0,0],false)
theorem Zc(V:ByteArray->Bool)(y:ak tM):(je (Ps [pM]) [] (Ps [.tu (Ps [.ow u8,.n .i64])]) (fun _=>none) Tryz.x25 3 (c18 V) (aA tM y)).val=F18 V y _ s0 Tk:=by
 obtain⟨t,im,fs,tb,me,gl,ex,st,el,co,da,⟨⟩⟩:=y
 kernel_rfl
end Go.Proofs.Vd

noncomputable section
namespace Go.Proofs.Vd
open Go.Ab Go.Ab.Lf
set_option maxRecDepth 100000
def VT(V:ByteArray->Bool)(y:ak tM):Bool:=
 (cb Tb.ok y.1&&(cb (Y2 V).ok y.2.1&&(cb Ta.ok y.2.2.1&&(cb Tc.ok y.2.2.2.1&&(cb Td.ok y.2.2.2.2.1&&(cb NK.ok y.2.2.2.2.2.1&&(cb (Y3 V).ok y.2.2.2.2.2.2.1&&
 (cb DR.ok y.2.2.2.2.2.2.2.2.1&&(cb NW.ok y.2.2.2.2.2.2.2.2.2.1&&cb Kx.ok y.2.2.2.2.2.2.2.2.2.2.1)))))))))
def HV(y:ak tM):Nat:=(21+kE DR.wt y.2.2.2.2.2.2.2.2.1)+((21+kE NW.wt y.2.2.2.2.2.2.2.2.2.1)+(21+kE Kx.wt y.2.2.2.2.2.2.2.2.2.2.1))
def Gg(V:ByteArray->Bool)(y:ak tM):Nat:=0+((21+kE Tb.wt y.1)+((21+kE (Y2 V).wt y.2.1)+((21+kE Ta.wt y.2.2.1)+((21+kE Tc.wt y.2.2.2.1)+((21+kE Td.wt y.2.2.2.2.1)+((21+kE NK.wt y.2.2.2.2.2.1)+((21+kE (Y3 V).wt y.2.2.2.2.2.2.1)+(0+(21+HV y)))))))))
def NY(n:Int):oH:=fun α s K=>ig [n] α ([],false) fun p=>wT true (wz (8,p.1,p.2,())) (Qe (8,p.1,p.2,())) α s K
theorem JJ(n:Int):Wr 21 (NY n):=by
 intro s hs
 have hn:=oJ [n] ([],false)
 have hn:(cz ([],false) [n]).1.length<=10:=by simpa using hn
 obtain⟨s',h1,h2⟩:=(mT (Ga (8,(cz ([],false) [n]).1,(cz ([],false) [n]).2,())) rfl).le (m:=21) (by show 0+(1+(10+(cz ([],false) [n]).1.length))<=21;omega) s hs
 exact⟨s',h1,fun α K=>Eq.trans rfl (h2 α K)⟩
theorem HW(y:ak tM)(h1:cb DR.ok y.2.2.2.2.2.2.2.2.1=true)(h2:cb NW.ok y.2.2.2.2.2.2.2.2.2.1=true)(h3:cb Kx.ok y.2.2.2.2.2.2.2.2.2.2.1=true):Wr (HV y) (Tj y):=
 (kL DR 9 512 _ h1).seq ((kL NW 10 512 _ h2).seq (kL Kx 11 512 _ h3))
theorem Zd(V:ByteArray->Bool)(y:ak tM)(h:VT V y=true):Wr (Gg V y) (F18 V y):=by
 unfold VT at h
 simp only[Bool.and_eq_true]at h
 obtain⟨h1,h2,h3,h4,h5,h6,h7,h8,h9,Tl⟩:=h
 exact(gv _).seq ((kL Tb 1 256 _ h1).seq ((kL (Y2 V) 2 512 _ h2).seq ((kL Ta 3 512 _ h3).seq ((kL Tc 4 512 _ h4).seq ((kL Td 5 512 _ h5).seq ((kL NK 6 512 _ h6).seq ((kL (Y3 V) 7 512 _ h7).seq
  ((gv _).seq (.bif ((JJ _).seq (HW y h8 h9 Tl)) ((HW y h8 h9 Tl).le (Nat.le_add_left _ _)))))))))))
def zD(V:ByteArray->Bool)(y:ak tM):St:=mW (F18 V y) s0
def ny(V:ByteArray->Bool)(y:ak tM):Int:=bif (zD V y).2 then 1 else bif decide (16384<((zD V y).1.length:Int))then 4 else 0
def VU(V:ByteArray->Bool)(y:ak tM):List Int:=bif (zD V y).2 then []else bif decide (16384<((zD V y).1.length:Int))then []else(zD V y).1
def Gh(V:ByteArray->Bool)(y:ak tM):Bool:=VT V y&&decide (8+Gg V y<=1099511627776)
def s18(V:ByteArray->Bool):cQ:=iy (Ps [pM]) [] (Ps [.tu (Ps [.ow u8,.n .i64])]) tM [.ae u8,i64] fun y=>.ck (Gh V y) (.ok (VU V y,ny V y,()))
theorem Ze{V:ByteArray->Bool}{aq:aB}(W:WorldV V aq):(s18 V).Ok 25 aq:=by
 refine dF (Zb W) (W.st 25 _ rfl) rfl (aE _) (m:=3) rfl ?_
 intro y q h
 obtain⟨h1,h2⟩:=Lf.T.aY h
 cases h2
 rw[Zc]
 unfold Gh at h1
 simp only[Bool.and_eq_true,decide_eq_true_eq]at h1
 refine((DQ (Zd V y h1.1) (s:=s0) h1.2).2 _ Tk).trans ?_
 show Tk (zD V y)=_
 unfold Tk VU ny
 cases(zD V y).2 with
 |true=>rfl
 |false=>cases decide (16384<((zD V y).1.length:Int))<;>rfl
end Go.Proofs.Vd

noncomputable section
namespace Go.Proofs.Vd
open Go.Ab Go.Ab.Lf
set_option maxRecDepth 100000
def uM(c:List (den tI))(t:Int):Bool:=bif !decide ((c.length:Int)=2)then false else
 let o:=(c.getD 0 (ao tI)).1
 bif decide (o=65)then decide (t=127)else bif decide (o=66)then decide (t=126)else bif decide (o=64780)then decide (t=123)else false
def s56:cQ:=iy (Ps [.im tI,.n .i64]) [] (Ps [.bo]) [.ae tI,i64] [.bool] fun x=>.ok (uM x.1 x.2.1,())
theorem Gi{aq:aB}(W:World aq):s56.Ok 72 aq:=by
 refine dF (W.in .nil 3) (W.st 72 _ rfl) rfl (aE _) (m:=3) rfl ?_
 rintro⟨c,t,⟨⟩⟩ q h
 cases h
 have e:(je (Ps [.im tI,.n .i64]) [] (Ps [.bo]) (fun _=>none) Tryz.x72 3 (dH [] 3) (aA [.ae tI,i64] (c,t,()))).val=bif !decide ((c.length:Int)=2)then some (aA [.bool] (false,()))else bif bg 0 (Int.ofNat c.length)then
  bif decide ((c.getD 0 (ao tI)).1=65)then some (aA [.bool] (decide (t=127),()))else bif decide ((c.getD 0 (ao tI)).1=66)then some (aA [.bool] (decide (t=126),()))else bif decide ((c.getD 0 (ao tI)).1=64780)then some (aA [.bool] (decide (t=123),()))else some (aA [.bool] (false,()))else none:=by kernel_rfl
 rw[e]
 show _=some (aA [.bool] (uM c t,()))
 unfold uM
 dsimp only
 cases h2:decide ((c.length:Int)=2)with
 |false=>rfl
 |true=>
  have:(c.length:Int)=2:=of_decide_eq_true h2
  have hx:bg 0 (Int.ofNat c.length)=true:=bZ (j:=0) (by omega)
  rw[hx]
  cases decide ((c.getD 0 (ao tI)).1=65)<;>cases decide ((c.getD 0 (ao tI)).1=66)<;>cases decide ((c.getD 0 (ao tI)).1=64780)<;>rfl
abbrev cw:Ty:=.pair i64 (.pair i64 (.pair (.ae i64) (.pair (.ae i64) (.pair .bool .bool))))
abbrev jI(g:Nat):jV:=.pt g (Ps [.im aI,.im aP,.im i64,.im aj,.im aj,.im aC,.im aO,.n .i64,.im aD,.im aK,.im aH,.ow i64,.ow i64,.ow cw,.bo])
abbrev w9:List Ty:=[.ae aI,.ae aP,.ae i64,.ae aj,.ae aj,.ae aC,.ae aO,i64,.ae aD,.ae aK,.ae aH,.ae i64,.ae i64,.ae cw,.bool]
abbrev JK:List Ty:=[.ae aI,.ae aP,.ae i64,.ae aj,.ae aj,.ae aC,.ae aO,i64,.ae aD,.ae aK,.ae aH,.ae i64,.ae i64,.ae cw,.bool,i64]
abbrev Zf:List Ty:=[i64,.ae aI,.ae aP,.ae i64,.ae aj,.ae aj,.ae aC,.ae aO,i64,.ae aD,.ae aK,.ae aH,.ae i64,.ae i64,.ae cw,.bool]
abbrev ajc:List Ty:=[.ae aI,.ae aP,.ae i64,.ae aj,.ae aj,.ae aC,.ae aO,i64,.ae aD,.ae aK,.ae aH,.ae i64,.ae i64,.ae cw,.bool,.bool]
def VV:cQ:=iy (Ps [jI 0,.bo]) [14] (Ps [.tu .nil,jI 14]) ajc w9 fun x=>match x with
 |(t,im,fs,tb,me,gl,ex,st,el,co,da,lo,dk,bl,bad,ok,_)=>.ok (t,im,fs,tb,me,gl,ex,st,el,co,da,lo,dk,bl,bad|| !ok,())
theorem s6{aq:aB}(W:World aq):VV.Ok 95 aq:=by
 refine dF (W.in .nil 3) (W.st 95 _ rfl) rfl (aE _) (m:=3) rfl ?_
 rintro⟨t,im,fs,tb,me,gl,ex,st,el,co,da,lo,dk,bl,bad,ok,⟨⟩⟩ q h
 cases h
 cases bad<;>kernel_rfl
def dy(bl:List (den cw)):den cw:=bl.getD (bl.length - 1) (ao cw)
def okW(dk:List Int)(bl:List (den cw)):Bool:=(decide (0<bl.length)&&(decide (bl.length<=1099511627776)&&decide (dk.length<=1099511627776)))&&(decide (0<=(dy bl).2.1)&&decide ((dy bl).2.1<=(dk.length:Int)))
def fe(dk:List Int)(bl:List (den cw))(bad:Bool)(want:Int):Int×List Int×Bool:=
 bif decide ((dk.length:Int)=(dy bl).2.1)then(want,dk,bad|| !(dy bl).2.2.2.2.1)else
 let t:=dk.getD (dk.length - 1) (ao i64)
 (bif decide (t=0)then want else t,dk.take (dk.length - 1),bad|| !(bif decide (t=want)then true else bif decide (t=0)then true else decide (want=0)))
def s73:cQ:=iy (Ps [jI 0,.n .i64]) [14] (Ps [.n .i64,jI 14]) JK Zf fun x=>match x with
 |(t,im,fs,tb,me,gl,ex,st,el,co,da,lo,dk,bl,bad,want,_)=>.ck (okW dk bl) (let y:=fe dk bl bad want; .ok (y.1,t,im,fs,tb,me,gl,ex,st,el,co,da,lo,y.2.1,bl,y.2.2,()))
theorem yF{aq:aB}(W:World aq):s73.Ok 92 aq:=by
 refine dF (W.in .nil 3) (W.st 92 _ rfl) rfl (aE _) (m:=3) rfl ?_
 rintro⟨t,im,fs,tb,me,gl,ex,st,el,co,da,lo,dk,bl,bad,want,⟨⟩⟩ q h
 obtain⟨h1,h2⟩:=Lf.T.aY h
 cases h2
 unfold okW at h1
 simp only[Bool.and_eq_true,decide_eq_true_eq]at h1
 obtain⟨⟨b1,b2,b3⟩,b4,b5⟩:=h1
 let R (w:Int) (s:List Int) (b:Bool):Option (List Pl):=some (aA Zf (w,t,im,fs,tb,me,gl,ex,st,el,co,da,lo,s,bl,b,()))
 have e: ∀ (B:den cw) (T:Int),B=bl.getD (bO .i64 (Int.ofNat bl.length) 1).toNat (ao cw)->T=dk.getD (bO .i64 (Int.ofNat dk.length) 1).toNat (ao i64)->
  (je (Ps [jI 0,.n .i64]) [14] (Ps [.n .i64,jI 14]) (fun _=>none) Tryz.x92 3 (dH [] 3) (aA JK (t,im,fs,tb,me,gl,ex,st,el,co,da,lo,dk,bl,bad,want,()))).val=
  bif bg (bO .i64 (Int.ofNat bl.length) 1) (Int.ofNat bl.length)then bif decide (Int.ofNat dk.length=B.2.1)then(bif bad then R want dk true else R want dk (!B.2.2.2.2.1))else
   bif bg (bO .i64 (Int.ofNat dk.length) 1) (Int.ofNat dk.length)then bif eL 0 (bO .i64 (Int.ofNat dk.length) 1) (Int.ofNat dk.length)then
    let S:=(dk.drop 0).take ((bO .i64 (Int.ofNat dk.length) 1).toNat - 0)
    let E:=fun b=>bif decide (T=0)then R want S b else R T S b
    bif decide (T=want)then(bif bad then E true else E (!true))else bif decide (T=0)then(bif bad then E true else E (!true))else(bif bad then E true else E (!decide (want=0)))
   else none else none else none:=by
  intro B T hB hT
  subst hB;subst hT
  kernel_rfl
 rw[e _ _ rfl rfl,show Int.ofNat bl.length=(bl.length:Int)from rfl,show Int.ofNat dk.length=(dk.length:Int)from rfl,Bw b1 (by omega),Int.toNat_natCast]
 have hb:bg ((bl.length - 1:Nat):Int) (bl.length:Int)=true:=bZ (by omega)
 rw[hb,cond_true]
 show(bif decide ((dk.length:Int)=(dy bl).2.1)then _ else _)=some (aA Zf ((fe dk bl bad want).1,t,im,fs,tb,me,gl,ex,st,el,co,da,lo,(fe dk bl bad want).2.1,bl,(fe dk bl bad want).2.2,()))
 unfold fe
 cases hh:decide ((dk.length:Int)=(dy bl).2.1)with
 |true=>cases bad<;>rfl
 |false=>
  have jQ: ¬ (dk.length:Int)=(dy bl).2.1:=of_decide_eq_false hh
  have hp:0<dk.length:=by omega
  have hs:bg ((dk.length - 1:Nat):Int) (dk.length:Int)=true:=bZ (by omega)
  have hc:eL 0 ((dk.length - 1:Nat):Int) (dk.length:Int)=true:=by unfold eL;simp
  rw[Bw hp (by omega),hs,hc,Int.toNat_natCast]
  simp only[cond_true,cond_false,List.drop_zero,Nat.sub_zero]
  cases decide (dk.getD (dk.length - 1) (ao i64)=want)<;>cases decide (dk.getD (dk.length - 1) (ao i64)=0)<;>cases bad<;>rfl
end Go.Proofs.Vd

noncomputable section
namespace Go.Proofs.Vd
open Go.Ab Go.Ab.Lf
set_option maxRecDepth 100000
theorem NZ{dk:List Int}{bl:List (den cw)}(bad:Bool)(want:Int)(h:okW dk bl=true):okW (fe dk bl bad want).2.1 bl=true:=by
 have h0:=h
 unfold okW at h ⊢
 simp only[Bool.and_eq_true,decide_eq_true_eq]at h ⊢
 obtain⟨⟨b1,b2,b3⟩,b4,b5⟩:=h
 unfold fe
 cases hh:decide ((dk.length:Int)=(dy bl).2.1)with
 |true=>exact⟨⟨b1,b2,b3⟩,b4,b5⟩
 |false=>
  have jQ: ¬ (dk.length:Int)=(dy bl).2.1:=of_decide_eq_false hh
  simp only[cond_false,List.length_take]
  refine⟨⟨b1,b2,by omega⟩,b4,by omega⟩
def rY(L:List Int)(bl:List (den cw)):Nat->List Int->Bool->List Int×Bool
 |0,dk,bad=>(dk,bad)
 |n+1,dk,bad=>rY L bl n (fe dk bl bad (L.getD n (ao i64))).2.1 (fe dk bl bad (L.getD n (ao i64))).2.2
abbrev VW:List Ty:=[.ae aI,.ae aP,.ae i64,.ae aj,.ae aj,.ae aC,.ae aO,i64,.ae aD,.ae aK,.ae aH,.ae i64,.ae i64,.ae cw,.bool,.ae i64,i64]
abbrev Tn:List Ty:=[.ae aI,.ae aP,.ae i64,.ae aj,.ae aj,.ae aC,.ae aO,i64,.ae aD,.ae aK,.ae aH,.ae i64,.ae i64,.ae cw,.bool,.ae i64]
def Zg:jW:=⟨0,fI Tryz.x90.code 0,[0,1,4],Ps [jI 14,.im i64,.n .i64],[⟨.lL,[0],Ps [jI 14]⟩]⟩
def e71:List (Nat×cQ):=[(92,s73),(95,VV)]
theorem Zh{aq:aB}(W:World aq):dh aq e71:=.cons (yF W) (.cons (s6 W) .nil)
theorem DW(t:List (den aI))(im:List (den aP))(fs:List Int)(tb me:List (den aj))(gl:List (den aC))(ex:List (den aO))(st:Int)(el:List (den aD))(co:List (den aK))(da:List (den aH))(lo dk:List Int)(bl:List (den cw))(bad:Bool)(L:List Int)(i:Int):
 (Zg.step (fun _=>none) (dH e71 3) 3 (aA VW (t,im,fs,tb,me,gl,ex,st,el,co,da,lo,dk,bl,bad,L,i,()))).val=
 bif decide (0<=i)then bif bg i (Int.ofNat L.length)then bif okW dk bl then some (Rs.next (aA VW (t,im,fs,tb,me,gl,ex,st,el,co,da,lo,(fe dk bl bad (L.getD i.toNat (ao i64))).2.1,bl,(fe dk bl bad (L.getD i.toNat (ao i64))).2.2,L,bO .i64 i 1,())))else none else none
 else some (Rs.out 0 (aA w9 (t,im,fs,tb,me,gl,ex,st,el,co,da,lo,dk,bl,bad,()))):=by kernel_rfl
theorem HX(t:List (den aI))(im:List (den aP))(fs:List Int)(tb me:List (den aj))(gl:List (den aC))(ex:List (den aO))(st:Int)(el:List (den aD))(co:List (den aK))(da:List (den aH))(lo:List Int)(bl:List (den cw))(L:List Int)(hL:L.length<=1099511627776): ∀ (n:Nat) (dk:List Int) (bad:Bool),n<=L.length->okW dk bl=true->
 gQ (Zg.step (fun _=>none) (dH e71 3) 3) (aA VW (t,im,fs,tb,me,gl,ex,st,el,co,da,lo,dk,bl,bad,L,(n:Int) - 1,())) 0 (aA w9 (t,im,fs,tb,me,gl,ex,st,el,co,da,lo,(rY L bl n dk bad).1,bl,(rY L bl n dk bad).2,()))
 |0,dk,bad,_,_=>by
  refine .last ?_
  rw[DW,decide_eq_false (by omega)]
  rfl
 |n+1,dk,bad,hn,h=>by
  have e:((n+1:Nat):Int) - 1=(n:Int):=by omega
  rw[e]
  have es:bO .i64 (n:Int) 1=(n:Int) - 1:=by
   show eZ .i64 ((n:Int) - 1)=_
   exact wrap_i64 (by omega) (by omega)
  refine .more ?_ (HX t im fs tb me gl ex st el co da lo bl L hL n (fe dk bl bad (L.getD n (ao i64))).2.1 (fe dk bl bad (L.getD n (ao i64))).2.2 (by omega) (NZ _ _ h))
  rw[DW,decide_eq_true (show(0:Int)<=(n:Int) by omega),bZ (show n<L.length by omega),h,Int.toNat_natCast,es]
  rfl
def g71:ak VW->T (Nat×List Pl):=fun x=>match x with
 |(t,im,fs,tb,me,gl,ex,st,el,co,da,lo,dk,bl,bad,L,i,_)=>.ck ((decide (i=bO .i64 (L.length:Int) 1)&&decide (L.length<=1099511627776))&&okW dk bl) (.ok (0,aA w9 (t,im,fs,tb,me,gl,ex,st,el,co,da,lo,(rY L bl L.length dk bad).1,bl,(rY L bl L.length dk bad).2,())))
theorem Zi(x:ak VW)(k:Nat)(q:List Pl)(h:(g71 x).val=some (k,q)):gQ (Zg.step (fun _=>none) (dH e71 3) 3) (aA VW x) k q:=by
 obtain⟨t,im,fs,tb,me,gl,ex,st,el,co,da,lo,dk,bl,bad,L,i,⟨⟩⟩:=x
 obtain⟨h1,h2⟩:=Lf.T.aY h
 cases h2
 simp only[Bool.and_eq_true,decide_eq_true_eq]at h1
 obtain⟨⟨b1,b2⟩,b3⟩:=h1
 have es:bO .i64 (L.length:Int) 1=(L.length:Int) - 1:=by
  show eZ .i64 ((L.length:Int) - 1)=_
  exact wrap_i64 (by omega) (by omega)
 rw[es]at b1
 subst b1
 exact HX t im fs tb me gl ex st el co da lo bl L b2 L.length dk bad (Nat.le_refl _) b3
def L71:Nat->Option fE:=pP [(0,pO Zg VW g71)]
def s71:cQ:=iy (Ps [jI 0,.im i64]) [14] (Ps [.tu .nil,jI 14]) Tn w9 fun x=>match x with
 |(t,im,fs,tb,me,gl,ex,st,el,co,da,lo,dk,bl,bad,L,_)=>.ck (decide (L.length<=1099511627776)&&okW dk bl) (.ok (t,im,fs,tb,me,gl,ex,st,el,co,da,lo,(rY L bl L.length dk bad).1,bl,(rY L bl L.length dk bad).2,()))
theorem Zj(t:List (den aI))(im:List (den aP))(fs:List Int)(tb me:List (den aj))(gl:List (den aC))(ex:List (den aO))(st:Int)(el:List (den aD))(co:List (den aK))(da:List (den aH))(lo dk:List Int)(bl:List (den cw))(bad:Bool)(L:List Int):(je (Ps [jI 0,.im i64]) [14] (Ps [.tu .nil,jI 14]) L71 Tryz.x90 3 (dH e71 3) (aA Tn (t,im,fs,tb,me,gl,ex,st,el,co,da,lo,dk,bl,bad,L,()))).val=
 bif (decide (bO .i64 (L.length:Int) 1=bO .i64 (L.length:Int) 1)&&decide (L.length<=1099511627776))&&okW dk bl then some (aA w9 (t,im,fs,tb,me,gl,ex,st,el,co,da,lo,(rY L bl L.length dk bad).1,bl,(rY L bl L.length dk bad).2,()))else none:=by kernel_rfl
theorem Gj{aq:aB}(W:World aq):s71.Ok 90 aq:=by
 have C:=W.in (Zh W) 3
 have hl:ed Rx.w (pO Zg VW g71) (fun n d=>gG (aq n d) n (.bl 0 (.lp Zg.body))):=iI C (aE _) (m:=3) Zi
 refine dF C (W.st 90 _ rfl) rfl (L:=L71) (fq.jm (.cons (b:=Zg.body) (by kernel_rfl) hl .nil)) (m:=3) rfl ?_
 rintro⟨t,im,fs,tb,me,gl,ex,st,el,co,da,lo,dk,bl,bad,L,⟨⟩⟩ q h
 obtain⟨h1,h2⟩:=Lf.T.aY h
 cases h2
 rw[Zj,decide_eq_true (rfl:bO .i64 (L.length:Int) 1=bO .i64 (L.length:Int) 1),Bool.true_and,h1]
 rfl
def s72:cQ:=iy (Ps [jI 0,.im i64]) [14] (Ps [.tu .nil,jI 14]) Tn w9 fun x=>match x with
 |(t,im,fs,tb,me,gl,ex,st,el,co,da,lo,dk,bl,bad,L,_)=>.ck (decide (dk.length+L.length<=1099511627776)) (.ok (t,im,fs,tb,me,gl,ex,st,el,co,da,lo,dk++L,bl,bad,()))
theorem Zk(t:List (den aI))(im:List (den aP))(fs:List Int)(tb me:List (den aj))(gl:List (den aC))(ex:List (den aO))(st:Int)(el:List (den aD))(co:List (den aK))(da:List (den aH))(lo dk:List Int)(bl:List (den cw))(bad:Bool)(L:List Int):(je (Ps [jI 0,.im i64]) [14] (Ps [.tu .nil,jI 14]) (fun _=>none) Tryz.x91 3 (dH [] 3) (aA Tn (t,im,fs,tb,me,gl,ex,st,el,co,da,lo,dk,bl,bad,L,()))).val=
 bif roomy 8 (dk.length+L.length)then some (aA w9 (t,im,fs,tb,me,gl,ex,st,el,co,da,lo,app dk L,bl,bad,()))else none:=by kernel_rfl
theorem yG{aq:aB}(W:World aq):s72.Ok 91 aq:=by
 refine dF (W.in .nil 3) (W.st 91 _ rfl) rfl (aE _) (m:=3) rfl ?_
 rintro⟨t,im,fs,tb,me,gl,ex,st,el,co,da,lo,dk,bl,bad,L,⟨⟩⟩ q h
 obtain⟨h1,h2⟩:=Lf.T.aY h
 cases h2
 rw[Zk,bP (by omega) (of_decide_eq_true h1),bp]
 rfl
def uN(b:den cw):den cw:=(b.1,b.2.1,b.2.2.1,b.2.2.2.1,true,b.2.2.2.2.2)
def s83:cQ:=iy (Ps [jI 0]) [14] (Ps [.tu .nil,jI 14]) w9 w9 fun x=>match x with
 |(t,im,fs,tb,me,gl,ex,st,el,co,da,lo,dk,bl,bad,_)=>.ck (okW dk bl) (.ok (t,im,fs,tb,me,gl,ex,st,el,co,da,lo,dk.take (dy bl).2.1.toNat,bl.set (bl.length - 1) (uN (dy bl)),bad,()))
theorem Zl(t:List (den aI))(im:List (den aP))(fs:List Int)(tb me:List (den aj))(gl:List (den aC))(ex:List (den aO))(st:Int)(el:List (den aD))(co:List (den aK))(da:List (den aH))(lo dk:List Int)(bl:List (den cw))(bad:Bool):(je (Ps [jI 0]) [14] (Ps [.tu .nil,jI 14]) (fun _=>none) Tryz.Yh 3 (dH [] 3) (aA w9 (t,im,fs,tb,me,gl,ex,st,el,co,da,lo,dk,bl,bad,()))).val=
 bif bg (bO .i64 (Int.ofNat bl.length) 1) (Int.ofNat bl.length)then bif eL 0 (bl.getD (bO .i64 (Int.ofNat bl.length) 1).toNat (ao cw)).2.1 (Int.ofNat dk.length)then
  some (aA w9 (t,im,fs,tb,me,gl,ex,st,el,co,da,lo,(dk.drop 0).take ((bl.getD (bO .i64 (Int.ofNat bl.length) 1).toNat (ao cw)).2.1.toNat - 0),bl.set (bO .i64 (Int.ofNat bl.length) 1).toNat (uN (bl.getD (bO .i64 (Int.ofNat bl.length) 1).toNat (ao cw))),bad,()))else none else none:=by kernel_rfl
theorem Zm{aq:aB}(W:World aq):s83.Ok 104 aq:=by
 refine dF (W.in .nil 3) (W.st 104 _ rfl) rfl (aE _) (m:=3) rfl ?_
 rintro⟨t,im,fs,tb,me,gl,ex,st,el,co,da,lo,dk,bl,bad,⟨⟩⟩ q h
 obtain⟨h1,h2⟩:=Lf.T.aY h
 cases h2
 unfold okW at h1
 simp only[Bool.and_eq_true,decide_eq_true_eq]at h1
 obtain⟨⟨b1,b2,b3⟩,b4,b5⟩:=h1
 have hb:bg ((bl.length - 1:Nat):Int) (bl.length:Int)=true:=bZ (by omega)
 rw[Zl,show Int.ofNat bl.length=(bl.length:Int)from rfl,show Int.ofNat dk.length=(dk.length:Int)from rfl,Bw b1 (by omega),Int.toNat_natCast,hb,cond_true]
 have hc:eL 0 (dy bl).2.1 (dk.length:Int)=true:=by unfold eL;simp;omega
 show(bif eL 0 (dy bl).2.1 (dk.length:Int)then _ else _)=_
 rw[hc,List.drop_zero,Nat.sub_zero]
 rfl
end Go.Proofs.Vd

noncomputable section
namespace Go.Proofs.Vd
open Go.Ab Go.Ab.Lf
set_option maxRecDepth 100000
def VX:cQ:=iy (Ps [.im i64]) [] (Ps [.ow i64]) [.ae i64] [.ae i64] fun x=>.ck (decide (x.1.length<=1099511627776)) (.ok (x.1,()))
structure WorldC(V:ByteArray->Bool)(aq:aB):Prop extends WorldV V aq where
 cl:VX.Ok 32 aq
abbrev VY:List Ty:=[.ae aI,.ae aP,.ae i64,.ae aj,.ae aj,.ae aC,.ae aO,i64,.ae aD,.ae aK,.ae aH,i64]
abbrev BI:List Ty:=[.ae i64,.ae i64,.bool]
abbrev qSg:jV:=Ps [.tu (Ps [.ag (Ps [.ow i64,.ow i64]),.bo])]
def dN(t:List (den aI))(k:Int):Bool:= !(bif decide (k<0)then true else decide ((t.length:Int)<=k))
def ca(t:List (den aI))(k:Int):den aI:=bif dN t k then t.getD k.toNat (ao aI)else([],[])
def gT(t:List (den aI)):Bool:=List.all t fun s=>decide (List.length s.1<=1099511627776)&&decide (List.length s.2<=1099511627776)
def s21:cQ:=iy (Ps [pM,.n .i64]) [] qSg VY BI fun x=>match x with
 |(t,im,fs,tb,me,gl,ex,st,el,co,da,k,_)=>.ck (gT t) (.ok ((ca t k).1,(ca t k).2,dN t k,()))
def e21:List (Nat×cQ):=[(32,VX)]
theorem Zn{V:ByteArray->Bool}{aq:aB}(W:WorldC V aq):dh aq e21:=.cons W.cl .nil
theorem Zo(t:List (den aI))(im:List (den aP))(fs:List Int)(tb me:List (den aj))(gl:List (den aC))(ex:List (den aO))(st:Int)(el:List (den aD))(co:List (den aK))(da:List (den aH))(k:Int):(je (Ps [pM,.n .i64]) [] qSg (fun _=>none) Tryz.x85 3 (dH e21 3) (aA VY (t,im,fs,tb,me,gl,ex,st,el,co,da,k,()))).val=
 bif (bif decide (k<0)then true else decide ((t.length:Int)<=k))then some (aA BI ([],[],false,()))else aS (bg k (Int.ofNat t.length)) (aS (decide ((t.getD k.toNat (ao aI)).1.length<=1099511627776)) (aS (decide ((t.getD k.toNat (ao aI)).2.length<=1099511627776)) (some (aA BI ((t.getD k.toNat (ao aI)).1,(t.getD k.toNat (ao aI)).2,true,()))))):=by kernel_rfl
theorem Gk{V:ByteArray->Bool}{aq:aB}(W:WorldC V aq):s21.Ok 85 aq:=by
 refine dF (W.toWorld.in (Zn W) 3) (W.st 85 _ rfl) rfl (aE _) (m:=3) rfl ?_
 rintro⟨t,im,fs,tb,me,gl,ex,st,el,co,da,k,⟨⟩⟩ q h
 obtain⟨h0,h⟩:=Lf.T.aY h
 cases h
 rw[Zo]
 unfold ca dN
 by_cases h1:k<0
 ·rw[decide_eq_true h1];rfl
 ·by_cases h2:(t.length:Int)<=k
  ·rw[decide_eq_false h1,decide_eq_true h2];rfl
  ·have hx:bg k (Int.ofNat t.length)=true:=iG.2 ⟨Int.not_lt.1 h1,Int.not_le.1 h2⟩
   have hm:(t.getD k.toNat (ao aI))∈t:=by
    have key: ∀ (k:Int) (n:Nat),¬ k<0-> ¬ (n:Int)<=k->k.toNat<n:=fun k n _ _=>by omega
    have:k.toNat<t.length:=key k _ h1 h2
    rw[List.getD_eq_getElem?_getD,List.getElem?_eq_getElem this]
    exact List.getElem_mem this
   unfold gT at h0
   have h0:=List.all_eq_true.1 h0 _ hm
   rw[Bool.and_eq_true]at h0
   rw[decide_eq_false h1,decide_eq_false h2,hx,h0.1,h0.2];rfl
def iM(bl:List (den cw))(l:Int):List Int:=bif decide ((bl.length:Int)<=l)then []else
 let b:=bl.getD (bO .i64 (bO .i64 (Int.ofNat bl.length) 1) l).toNat (ao cw)
 bif decide (b.1=3)then b.2.2.1 else b.2.2.2.1
theorem aje{k:Int}{n:Nat}(h1:(n:Int)<=k)(h2:k<9223372036854775808):0<=bO .i64 k (n:Int):=by
 have es:bO .i64 k (n:Int)=k - (n:Int):=by
  show eZ .i64 (k - (n:Int))=_
  exact wrap_i64 (by omega) (by omega)
 rw[es]
 omega
def dP(im:List (den aP))(fs:List Int)(k:Int):Int:=
 bif (bif decide (0<=k)then decide (k<(im.length:Int))else false)then(im.getD k.toNat (ao aP)).2.2 else
 bif (bif decide ((im.length:Int)<=k)then decide (bO .i64 k (im.length:Int)<(fs.length:Int))else false)then fs.getD (bO .i64 k (im.length:Int)).toNat (ao i64)else -1
def s10:cQ:=iy (Ps [pM,.n .i64]) [] qSg VY BI fun x=>match x with
 |(t,im,fs,tb,me,gl,ex,st,el,co,da,k,_)=>.ck (gT t&&(decide (k<9223372036854775808)&&decide (im.length<=1099511627776))) (.ok ((ca t (dP im fs k)).1,(ca t (dP im fs k)).2,dN t (dP im fs k),()))
def e10:List (Nat×cQ):=[(85,s21)]
theorem Zp{V:ByteArray->Bool}{aq:aB}(W:WorldC V aq):dh aq e10:=.cons (Gk W) .nil
theorem Zq(t:List (den aI))(im:List (den aP))(fs:List Int)(tb me:List (den aj))(gl:List (den aC))(ex:List (den aO))(st:Int)(el:List (den aD))(co:List (den aK))(da:List (den aH))(k:Int):(je (Ps [pM,.n .i64]) [] qSg (fun _=>none) Tryz.x70 3 (dH e10 3) (aA VY (t,im,fs,tb,me,gl,ex,st,el,co,da,k,()))).val=
 bif (bif decide (0<=k)then decide (k<(im.length:Int))else false)then aS (bg k (Int.ofNat im.length)) (aS (gT t) (some (aA BI ((ca t (im.getD k.toNat (ao aP)).2.2).1,(ca t (im.getD k.toNat (ao aP)).2.2).2,dN t (im.getD k.toNat (ao aP)).2.2,()))))
 else bif (bif decide ((im.length:Int)<=k)then decide (bO .i64 k (im.length:Int)<(fs.length:Int))else false)then aS (bg (bO .i64 k (im.length:Int)) (Int.ofNat fs.length)) (aS (gT t) (
  some (aA BI ((ca t (fs.getD (bO .i64 k (im.length:Int)).toNat (ao i64))).1,(ca t (fs.getD (bO .i64 k (im.length:Int)).toNat (ao i64))).2,dN t (fs.getD (bO .i64 k (im.length:Int)).toNat (ao i64)),()))))
 else aS (gT t)<|some (aA BI ((ca t (-1)).1,(ca t (-1)).2,dN t (-1),())):=by kernel_rfl
theorem BJ{V:ByteArray->Bool}{aq:aB}(W:WorldC V aq):s10.Ok 70 aq:=by
 refine dF (W.toWorld.in (Zp W) 3) (W.st 70 _ rfl) rfl (aE _) (m:=3) rfl ?_
 rintro⟨t,im,fs,tb,me,gl,ex,st,el,co,da,k,⟨⟩⟩ q h
 obtain⟨h1,h2⟩:=Lf.T.aY h
 cases h2
 simp only[Bool.and_eq_true,decide_eq_true_eq]at h1
 obtain⟨b0,b1,b2⟩:=h1
 rw[Zq,b0]
 have goal: ∀ j:Int,j=dP im fs k->some (aA BI ((ca t j).1,(ca t j).2,dN t j,()))=some (aA BI ((ca t (dP im fs k)).1,(ca t (dP im fs k)).2,dN t (dP im fs k),())):=by
  rintro j rfl;rfl
 cases c1:(bif decide ((0:Int)<=k)then decide (k<(im.length:Int))else false)with
 |true=>
  have hx:bg k (Int.ofNat im.length)=true:=by
   rw[Bool.cond_false_right,Bool.and_eq_true,decide_eq_true_eq,decide_eq_true_eq]at c1
   exact iG.2 c1
  rw[hx]
  exact goal _ (by unfold dP;rw[c1];rfl)
 |false=>
  cases c2:(bif decide ((im.length:Int)<=k)then decide (bO .i64 k (im.length:Int)<(fs.length:Int))else false)with
  |true=>
   have hx:bg (bO .i64 k (im.length:Int)) (Int.ofNat fs.length)=true:=by
    rw[Bool.cond_false_right,Bool.and_eq_true,decide_eq_true_eq,decide_eq_true_eq]at c2
    exact iG.2 ⟨aje c2.1 b1,c2.2⟩
   rw[hx]
   exact goal _ (by unfold dP;rw[c1,c2];rfl)
  |false=>exact goal _ (by unfold dP;rw[c1,c2];rfl)
end Go.Proofs.Vd
