import Derived.Test.YtbplobpobnagkaaGreatDoorVbS
noncomputable section
namespace Go.Proofs.Vd
open Go.Ab Go.Ab.Lf
set_option maxRecDepth 100000
abbrev St:=List Int×Bool
abbrev oE:= ∀ α:Type,St->(St->Option α)->Option α
def Wr(n:Nat)(F:oE):Prop:= ∀ s:St,s.1.length+n<=1099511627776-> ∃ s':St,s'.1.length<=s.1.length+n/\ ∀ α K,F α s K=K s'
theorem Wr.le{n m:Nat}{F:oE}(h:Wr n F)(hm:n<=m):Wr m F:=fun s hs=>by
 obtain⟨s',h1,h2⟩:=h s (by omega)
 exact⟨s',by omega,h2⟩
theorem Wr.seq{n m:Nat}{F G:oE}(h1:Wr n F)(h2:Wr m G):Wr (n+m) (fun α s K=>F α s fun s=>G α s K):=fun s hs=>by
 obtain⟨s1,a1,b1⟩:=h1 s (by omega)
 obtain⟨s2,a2,b2⟩:=h2 s1 (by omega)
 refine⟨s2,by omega,fun α K=>?_⟩
 show F α s _=_
 rw[b1,b2]
theorem Wr.bif{n:Nat}{c:Bool}{F G:oE}(h1:Wr n F)(h2:Wr n G):Wr n (fun α s K=>bif c then F α s K else G α s K):=by
 cases c
 ·exact h2
 ·exact h1
theorem Wr.nop:Wr 0 (fun _ s K=>K s):=fun s _=>⟨s,Nat.le_refl _,fun _ _=>rfl⟩
def js(c:Bool):oE:=fun _ s K=>K (s.1,s.2|| !c)
theorem gv(c:Bool):Wr 0 (js c):=fun s _=>⟨(s.1,s.2|| !c),Nat.le_refl _,fun _ _=>rfl⟩
def iJ(l:List Int):oE:=fun _ s K=>aT (decide (s.1.length+l.length<=1099511627776)) (K (s.1++l,s.2))
theorem fk(l:List Int):Wr l.length (iJ l):=fun s h=>⟨(s.1++l,s.2),by simp,fun _ K=>by unfold iJ aT;rw[decide_eq_true h];rfl⟩
theorem oG(l:List Int): ∀ s:St,(cx s l).1.length<=s.1.length+10*l.length:=by
 induction l with
 |nil=>intro s;simp[cx]
 |cons x l ih=>
  intro s
  have:=ih (uz s x)
  have h:=j8 (bf .u64 x)
  have e:cx s (x::l)=cx (uz s x) l:=rfl
  rw[e]
  have e2:(uz s x).1.length=s.1.length+(jr (bf .u64 x)).length:=by simp[uz]
  simp only[List.length_cons]
  omega
theorem yM(l:List Int): ∀ s:St,(fq s l).1.length=s.1.length+l.length:=by
 induction l with
 |nil=>intro s;simp[fq]
 |cons x l ih=>
  intro s
  have:=ih (pO s x)
  have e:fq s (x::l)=fq (pO s x) l:=rfl
  rw[e]
  have e2:(pO s x).1.length=s.1.length+1:=by simp[pO]
  simp only[List.length_cons]
  omega
def ij(l:List Int):oE:=fun _ s K=>aT (decide (s.1.length+10*l.length<=1099511627776)) (K (cx s l))
theorem ft(l:List Int):Wr (10*l.length) (ij l):=fun s h=>⟨cx s l,oG l s,fun _ K=>by unfold ij aT;rw[decide_eq_true h];rfl⟩
def sV(l:List Int):oE:=fun _ s K=>aT (decide (s.1.length+l.length<=1099511627776)) (K (fq s l))
theorem vy(l:List Int):Wr l.length (sV l):=fun s h=>⟨fq s l,Nat.le_of_eq (yM l s),fun _ K=>by unfold sV aT;rw[decide_eq_true h];rfl⟩
def zI(l:List Int):oE:=fun _ s K=>aT (roomy 1 (s.1.length+l.length)) (K (app s.1 l,s.2))
theorem BG(l:List Int):Wr l.length (zI l):=fun s h=>⟨(s.1++l,s.2),by simp,fun _ K=>by unfold zI aT;rw[bO (by omega) h,bp];rfl⟩
def mW(F:oE)(s:St):St:=(F St s some).getD s
theorem DR{n:Nat}{F:oE}(h:Wr n F){s:St}(hs:s.1.length+n<=1099511627776):(mW F s).1.length<=s.1.length+n/\ ∀ α K,F α s K=K (mW F s):=by
 obtain⟨s',h1,h2⟩:=h s hs
 have e:mW F s=s':=by unfold mW;rw[h2];rfl
 rw[e]
 exact⟨h1,h2⟩
def wT(ok:Bool)(n:Nat)(F:oE):oE:=fun _ s K=>aT (ok&&decide (s.1.length+n<=1099511627776)) (K (mW F s))
theorem mP{ok:Bool}{n:Nat}{F:oE}(h:Wr n F)(ho:ok=true):Wr n (wT ok n F):=fun s hs=>⟨mW F s,(DR h hs).1,fun _ K=>by unfold wT aT;rw[ho,decide_eq_true hs];rfl⟩
abbrev k3(s:St):Option (List Pl):=some (aB [.ae u8,.bool] (s.1,s.2,()))
abbrev qW:jT:=Ps [.tu .nil,gV 2]
def rU(A:jT)(ta:List Ty)(F:aj ta->oE)(wt:aj ta->Nat)(ok:aj ta->Bool):cQ:=
 iw (.cons (gV 0) A) [2] qW (.ae u8::.bool::ta) [.ae u8,.bool] fun x=>.ck (ok x.2.2&&decide (x.1.length+wt x.2.2<=1099511627776)) (.ok ((mW (F x.2.2) (x.1,x.2.1)).1,(mW (F x.2.2) (x.1,x.2.1)).2,()))
theorem gK{call:eL}{ao:aA}(C:oy call ao){f:FuncId}{b:dC}(hb:mJ ao f b)(qm:Nat.ble b.ntmps 512=true){L:Nat->Option fD}(hL:jq Rx.w ao L b.code){m:Nat}{A:jT}{ta:List Ty}{F:aj ta->oE}{wt:aj ta->Nat}{ok:aj ta->Bool}
 (hW: ∀ y,ok y=true->Wr (wt y) (F y))(ht: ∀ b1 k y,(ja (.cons (gV 0) A) [2] qW L b m call (aB (.ae u8::.bool::ta) (b1,k,y))).val=F y _ (b1,k) k3):(rU A ta F wt ok).Ok f ao:=by
 refine dD C hb qm hL (m:=m) rfl ?_
 rintro⟨b1,k,y⟩ q h
 obtain⟨h1,h2⟩:=Lf.T.aX h
 cases h2
 simp only[Bool.and_eq_true,decide_eq_true_eq]at h1
 rw[ht]
 exact(DR (hW y h1.1) h1.2).2 _ k3
def Ku(y:aj [.ae tI]):oE:=fun _ s K=>aT (qi y.1) (aT (roomy 1 (s.1.length+(pP y.1).length)) (K (app s.1 (pP y.1),s.2|| !(decide (nU y.1=0)))))
theorem vz(y:aj [.ae tI])(h:qi y.1=true):Wr (qp y.1) (Ku y):=fun s hs=>by
 have h':=h
 simp only[qi,Bool.and_eq_true,decide_eq_true_eq]at h'
 have hl:=DQ y.1 h'.1
 exact⟨(s.1++pP y.1,s.2|| !(decide (nU y.1=0))),by simp;omega,fun _ K=>by unfold Ku aT;rw[h,bO (by omega) (by omega),bp];rfl⟩
def s50:cQ:=rU (Ps [.im tI]) [.ae tI] Ku (fun y=>qp y.1) (fun y=>qi y.1)
def e50:List (Nat×cQ):=[(43,SU),(84,s67)]
theorem YP{ao:aA}(W:World ao):dc ao e50:=.cons (qU W) (.cons (YO W) .nil)
theorem Nw{ao:aA}(W:World ao):s50.Ok 65 ao:=by
 refine gK (W.in (YP W) 3) (W.st 65 _ rfl) rfl (aE _) (m:=3) vz ?_
 rintro b k ⟨c,⟨⟩⟩
 kernel_rfl
end Go.Proofs.Vd

noncomputable section
namespace Go.Proofs.Vd
open Go.Ab Go.Ab.Lf
set_option maxRecDepth 100000
def gNo:Bool:=false
def Ax(s:ByteArray):Bool:=decide (s.size<=9223372036854775807)&&gNo
def s66(V:ByteArray->Bool):cQ:=iw (Ps [.st]) [] (Ps [.bo]) [.str] [.bool] fun x=>.ck (Ax x.1) (.ok (V x.1,()))
structure WorldV(V:ByteArray->Bool)(ao:aA):Prop extends World ao where
 vs:(s66 V).Ok 83 ao
def eW:List (Nat×cQ):=[(43,SU),(46,s31),(47,s32),(48,s33),(65,s50)]
theorem HP{ao:aA}(W:World ao):dc ao eW:=.cons (qU W) (.cons (FZ W) (.cons (yD W) (.cons (Nh W) (.cons (Nw W) .nil))))
def F44(y:aj [i64,.bool,.ae tI]):oE:=fun α s K=>sV [y.1] α s fun s=>bif y.2.1 then iJ [1] α s fun s=>wT (qi y.2.2.1) (qp y.2.2.1) (Ku y.2.2) α s K else iJ [0] α s fun s=>wT (qi y.2.2.1) (qp y.2.2.1) (Ku y.2.2) α s K
def YQ(y:aj [i64,.bool,.ae tI]):Nat:=1+(1+qp y.2.2.1)
theorem Ny(y:aj [i64,.bool,.ae tI])(h:qi y.2.2.1=true):Wr (YQ y) (F44 y):=
 (vy [y.1]).seq (.bif ((fk [1]).seq (mP (vz y.2.2 h) h)) ((fk [0]).seq (mP (vz y.2.2 h) h)))
def s44:cQ:=rU (Ps [.ag (Ps [.n .i64,.bo,.im tI])]) [i64,.bool,.ae tI] F44 YQ fun y=>qi y.2.2.1
theorem YR{ao:aA}(W:World ao):s44.Ok 59 ao:=by
 refine gK (W.in (HP W) 3) (W.st 59 _ rfl) rfl (aE _) (m:=3) Ny ?_
 rintro b k ⟨t,m,c,⟨⟩⟩
 kernel_rfl
def F41(y:aj [i64,i64,i64]):oE:=fun α s K=>js (decide (y.1<=y.2.2.1)) α s fun s=>bif decide (y.2.1= -1)then iJ [0] α s fun s=>ij [y.1] α s K else iJ [1] α s fun s=>ij [y.1,y.2.1] α s K
theorem BH(y:aj [i64,i64,i64]):Wr 21 (F41 y):=
 ((gv _).seq (.bif (((fk [0]).seq (ft [y.1])).le (m:=21) (by simp)) ((fk [1]).seq (ft [y.1,y.2.1])))).le (by simp)
def s41:cQ:=rU (Ps [.ag (Ps [.n .i64,.n .i64]),.n .i64]) [i64,i64,i64] F41 (fun _=>21) fun _=>true
theorem YS{ao:aA}(W:World ao):s41.Ok 56 ao:=by
 refine gK (W.in (HP W) 3) (W.st 56 _ rfl) rfl (aE _) (m:=3) (fun y _=>BH y) ?_
 rintro b k ⟨mi,ma,mo,⟨⟩⟩
 kernel_rfl
def Qd(y:aj [u8,.ae u8,.bool]):oE:=fun α s K=>js (!y.2.2.1) α s fun s=>iJ [y.1] α s fun s=>ij [(y.2.1.length:Int)] α s fun s=>zI y.2.1 α s K
def wF(y:aj [u8,.ae u8,.bool]):Nat:=0+(1+(10+y.2.1.length))
theorem F7(y:aj [u8,.ae u8,.bool]):Wr (wF y) (Qd y):=(gv _).seq ((fk [y.1]).seq ((ft [(y.2.1.length:Int)]).seq (BG y.2.1)))
def s47:cQ:=rU (Ps [.n .u8,gV 0]) [u8,.ae u8,.bool] Qd wF fun _=>true
theorem F9{ao:aA}(W:World ao):s47.Ok 62 ao:=by
 refine gK (W.in (HP W) 3) (W.st 62 _ rfl) rfl (aE _) (m:=3) (fun y _=>F7 y) ?_
 rintro b k ⟨id,b2,k2,⟨⟩⟩
 kernel_rfl
def VU(s:ByteArray):List Int:=s.data.toList.map fun b=>Int.ofNat b.toNat
theorem HQ(s:ByteArray):(VU s).length=s.size:=by unfold VU;rw[List.length_map];rfl
def Nz(V:ByteArray->Bool)(y:aj [.str]):oE:=fun α s K=>aT (Ax y.1)<|js (V y.1) α s fun s=>ij [(y.1.size:Int)] α s fun s=>zI (VU y.1) α s K
def uC(y:aj [.str]):Nat:=10+y.1.size
theorem yN(V:ByteArray->Bool)(y:aj [.str])(hg:Ax y.1=true):Wr (uC y) (Nz V y):=by
 have e:Nz V y=fun α s K=>js (V y.1) α s fun s=>ij [(y.1.size:Int)] α s fun s=>zI (VU y.1) α s K:=by
  unfold Nz
  rw[hg]
  rfl
 rw[e]
 refine((gv (V y.1)).seq ((ft [(y.1.size:Int)]).seq (BG (VU y.1)))).le ?_
 rw[HQ]
 unfold uC
 simp only[List.length_cons,List.length_nil]
 omega
def s36(V:ByteArray->Bool):cQ:=rU (Ps [.st]) [.str] (Nz V) uC fun y=>Ax y.1
def e36(V:ByteArray->Bool):List (Nat×cQ):=[(43,SU),(47,s32),(83,s66 V)]
theorem YT{V:ByteArray->Bool}{ao:aA}(W:WorldV V ao):dc ao (e36 V):=.cons (qU W.toWorld) (.cons (yD W.toWorld) (.cons W.vs .nil))
theorem YU{V:ByteArray->Bool}{ao:aA}(W:WorldV V ao):(s36 V).Ok 51 ao:=by
 refine gK (W.toWorld.in (YT W) 3) (W.st 51 _ rfl) rfl (aE _) (m:=3) (fun y h=>yN V y h) ?_
 rintro b k ⟨s,⟨⟩⟩
 kernel_rfl
def eV(V:ByteArray->Bool):List (Nat×cQ):=[(43,SU),(46,s31),(47,s32),(48,s33),(51,s36 V),(56,s41),(62,s47),(65,s50)]
theorem v8{V:ByteArray->Bool}{ao:aA}(W:WorldV V ao):dc ao (eV V):=.cons (qU W.toWorld) (.cons (FZ W.toWorld) (.cons (yD W.toWorld) (.cons (Nh W.toWorld) (.cons (YU W) (.cons (YS W.toWorld) (.cons (F9 W.toWorld) (.cons (Nw W.toWorld) .nil)))))))
def R30(y:aj [.ae i64,.ae i64]):oE:=fun α s K=>iJ [96] α s fun s=>ij [(y.1.length:Int)] α s fun s=>sV y.1 α s fun s=>ij [(y.2.1.length:Int)] α s fun s=>sV y.2.1 α s K
def F30(y:aj [.ae i64,.ae i64]):oE:=fun α s K=>bif decide ((y.1.length:Int)<=32)then js (decide ((y.2.1.length:Int)<=32)) α s fun s=>R30 y α s K else js false α s fun s=>R30 y α s K
def YV(y:aj [.ae i64,.ae i64]):Nat:=0+(1+(10+(y.1.length+(10+y.2.1.length))))
theorem NA(y:aj [.ae i64,.ae i64]):Wr (1+(10+(y.1.length+(10+y.2.1.length)))) (R30 y):=(fk [96]).seq ((ft [(y.1.length:Int)]).seq ((vy y.1).seq ((ft [(y.2.1.length:Int)]).seq (vy y.2.1))))
theorem NB(y:aj [.ae i64,.ae i64]):Wr (YV y) (F30 y):=.bif ((gv _).seq (NA y)) ((gv _).seq (NA y))
def s30:cQ:=rU (Ps [.ag (Ps [.im i64,.im i64])]) [.ae i64,.ae i64] F30 YV fun _=>true
theorem YW{V:ByteArray->Bool}{ao:aA}(W:WorldV V ao):s30.Ok 45 ao:=by
 refine gK (W.toWorld.in (v8 W) 3) (W.st 45 _ rfl) rfl (aE _) (m:=3) (fun y _=>NB y) ?_
 rintro b k ⟨i,o,⟨⟩⟩
 kernel_rfl
def F35(V:ByteArray->Bool)(y:aj [.str,.str,i64]):oE:=fun α s K=>wT (Ax y.1) (uC (y.1,())) (Nz V (y.1,())) α s fun s=>wT (Ax y.2.1) (uC (y.2.1,())) (Nz V (y.2.1,())) α s fun s=>iJ [0] α s fun s=>ij [y.2.2.1] α s K
def YX(y:aj [.str,.str,i64]):Nat:=uC (y.1,())+(uC (y.2.1,())+(1+10))
theorem NC(V:ByteArray->Bool)(y:aj [.str,.str,i64])(hg:(Ax y.1&&Ax y.2.1)=true):Wr (YX y) (F35 V y):=(mP (yN V (y.1,()) (Bool.and_eq_true _ _▸hg).1) (Bool.and_eq_true _ _▸hg).1).seq ((mP (yN V (y.2.1,()) (Bool.and_eq_true _ _▸hg).2) (Bool.and_eq_true _ _▸hg).2).seq ((fk [0]).seq (ft [y.2.2.1])))
def s35(V:ByteArray->Bool):cQ:=rU (Ps [.ag (Ps [.st,.st,.n .i64])]) [.str,.str,i64] (F35 V) YX fun y=>Ax y.1&&Ax y.2.1
theorem YY{V:ByteArray->Bool}{ao:aA}(W:WorldV V ao):(s35 V).Ok 50 ao:=by
 refine gK (W.toWorld.in (v8 W) 3) (W.st 50 _ rfl) rfl (aE _) (m:=3) (fun y h=>NC V y h) ?_
 rintro b k ⟨m,n,t,⟨⟩⟩
 kernel_rfl
def F38(y:aj [i64]):oE:=ij [y.1]
def s38:cQ:=rU (Ps [.n .i64]) [i64] F38 (fun _=>10) fun _=>true
theorem YZ{V:ByteArray->Bool}{ao:aA}(W:WorldV V ao):s38.Ok 53 ao:=by
 refine gK (W.toWorld.in (v8 W) 3) (W.st 53 _ rfl) rfl (aE _) (m:=3) (fun y _=>ft [y.1]) ?_
 rintro b k ⟨n,⟨⟩⟩
 kernel_rfl
def F40(y:aj [i64,i64]):oE:=fun α s K=>iJ [112] α s fun s=>wT true 21 (F41 (y.1,y.2.1,1024,())) α s K
theorem ND(y:aj [i64,i64]):Wr 22 (F40 y):=(fk [112]).seq (mP (BH _) rfl)
def s40:cQ:=rU (Ps [.ag (Ps [.n .i64,.n .i64])]) [i64,i64] F40 (fun _=>22) fun _=>true
theorem Y0{V:ByteArray->Bool}{ao:aA}(W:WorldV V ao):s40.Ok 55 ao:=by
 refine gK (W.toWorld.in (v8 W) 3) (W.st 55 _ rfl) rfl (aE _) (m:=3) (fun y _=>ND y) ?_
 rintro b k ⟨mi,ma,⟨⟩⟩
 kernel_rfl
def F42(y:aj [i64,i64]):oE:=wT true 21 (F41 (y.1,y.2.1,16,()))
def s42:cQ:=rU (Ps [.ag (Ps [.n .i64,.n .i64])]) [i64,i64] F42 (fun _=>21) fun _=>true
theorem Y1{V:ByteArray->Bool}{ao:aA}(W:WorldV V ao):s42.Ok 57 ao:=by
 refine gK (W.toWorld.in (v8 W) 3) (W.st 57 _ rfl) rfl (aE _) (m:=3) (fun y _=>mP (BH _) rfl) ?_
 rintro b k ⟨mi,ma,⟨⟩⟩
 kernel_rfl
end Go.Proofs.Vd

noncomputable section
namespace Go.Proofs.Vd
open Go.Ab Go.Ab.Lf
set_option maxRecDepth 100000
abbrev tS(t:Ty):List Ty:=[.ae u8,.bool,u8,.ae u8,.bool,.ae t,i64,i64]
abbrev tSo:List Ty:=[.ae u8,.bool,u8,.ae u8,.bool]
def lS(x:dC)(f:FuncId)(t:Ty):j4:=⟨0,fK x.code 0,[0,1,4,10,33,34,35],Ps [gV 2,.n .u8,.fn f .nil,gV 0,.im t,.n .i64,.n .i64],[⟨.lN,[0,1,10],Ps [gV 2,.n .u8,gV 0]⟩]⟩
def sW{α:Type}(G:α->oE)(s:St)(l:List α):St:=l.foldl (fun s x=>mW (G x) s) s
def kC{α:Type}(wt:α->Nat)(l:List α):Nat:=l.foldr (fun x n=>wt x+n) 0
theorem oH{α:Type}(wt:α->Nat)(x:α)(l:List α):kC wt (x::l)=wt x+kC wt l:=rfl
structure Item(α:Type) where
 G:α->oE
 wt:α->Nat
 ok:α->Bool
 wr: ∀ x,ok x=true->Wr (wt x) (G x)
 pos: ∀ x,1<=wt x
theorem Item.len{α:Type}(A:Item α)(l:List α):l.length<=kC A.wt l:=by
 induction l with
 |nil=>exact Nat.le_refl _
 |cons x l ih=>rw[oH];have:=A.pos x;simp only[List.length_cons];omega
theorem Item.row{α:Type}(A:Item α)(l:List α)(h:cf A.ok l=true): ∀ s:St,s.1.length+kC A.wt l<=1099511627776->(sW A.G s l).1.length<=s.1.length+kC A.wt l:=by
 induction l with
 |nil=>intro s _;exact Nat.le_refl _
 |cons x l ih=>
  intro s hs
  obtain⟨h1,h2⟩:=jM h
  rw[oH]at hs ⊢
  have k:=(DR (A.wr x h1) (s:=s) (by omega)).1
  have:=ih h2 (mW (A.G x) s) (by omega)
  show(sW A.G (mW (A.G x) s) l).1.length<=_
  omega
def BI{t:Ty}(l:j4)(call:eL)(A:Item (den t)):Prop:= ∀ b k id b2 k2 (r:List (den t)) n i,(l.step (fun _=>none) call 3 (aB (tS t) (b,k,id,b2,k2,r,n,i,()))).val=
 bif decide (i<n)then bif bm i (Int.ofNat r.length)then bif (A.ok (r.getD i.toNat (aq t))&&decide (b2.length+A.wt (r.getD i.toNat (aq t))<=1099511627776))then
  some (Rs.next (aB (tS t) (b,k,id,(mW (A.G (r.getD i.toNat (aq t))) (b2,k2)).1,(mW (A.G (r.getD i.toNat (aq t))) (b2,k2)).2,r,n,cr .i64 i 1,())))else none else none else some (Rs.out 0 (aB tSo (b,k,id,b2,k2,())))
theorem Ta{t:Ty}{l:j4}{call:eL}{A:Item (den t)}(hs:BI l call A)(b:List Int)(k:Bool)(id:Int)(b2:List Int)(k2:Bool)(r:List (den t))(h1:cf A.ok r=true)(h2:b2.length+kC A.wt r<=1099511627776):
 gM (l.step (fun _=>none) call 3) (aB (tS t) (b,k,id,b2,k2,r,(r.length:Int),0,())) 0 (aB tSo (b,k,id,(sW A.G (b2,k2) r).1,(sW A.G (b2,k2) r).2,())):=by
 have hl:=A.len r
 have:=JD (f:=l.step (fun _=>none) call 3) (l:=r) (fun(q:St) j=>aB (tS t) (b,k,id,q.1,q.2,r,(r.length:Int),(j:Int),())) (fun q x=>.inl (mW (A.G x) q)) (fun q=>(0,aB tSo (b,k,id,q.1,q.2,())))
  (fun q u=>cf A.ok u=true/\q.1.length+kC A.wt u<=1099511627776) (fun q j x u h hi=>by
  obtain⟨b2,k2⟩:=q
  obtain⟨e1,e2⟩:=dm h (aq t)
  obtain⟨a0,a3⟩:=hi
  obtain⟨a1,a2⟩:=jM a0
  rw[oH]at a3
  have hj:j<4611686018427387904:=by omega
  have a3:b2.length+(A.wt x+kC A.wt u)<=1099511627776:=a3
  have a4:b2.length+A.wt x<=1099511627776:=by omega
  have hm:=(DR (A.wr x a1) (s:=(b2,k2)) a4).1
  refine⟨?_,fun s' e=>?_⟩
  ·rw[hs,ed e1,cond_true,cN e1,cond_true,Int.toNat_natCast,e2,kv hj,a1,decide_eq_true a4]
   rfl
  ·cases e
   refine⟨a2,?_⟩
   have hm:(mW (A.G x) (b2,k2)).1.length<=b2.length+A.wt x:=hm
   omega) (fun q j h hj hi=>by
  have:j=r.length:=by have:=List.drop_eq_nil_iff.1 h;omega
  subst this
  rw[hs,di (Nat.le_refl _)]
  rfl) r 0 (b2,k2) rfl (by omega) ⟨h1,h2⟩
 rw[fH]at this
 exact this
def gS{t:Ty}(A:Item (den t)):aj (tS t)->T (Nat×List Pl):=fun x=>.ck ((decide (x.2.2.2.2.2.2.1=(x.2.2.2.2.2.1.length:Int))&&decide (x.2.2.2.2.2.2.2.1=0))&&(cf A.ok x.2.2.2.2.2.1&&decide (x.2.2.2.1.length+kC A.wt x.2.2.2.2.2.1<=1099511627776)))
 (.ok (0,aB tSo (x.1,x.2.1,x.2.2.1,(sW A.G (x.2.2.2.1,x.2.2.2.2.1) x.2.2.2.2.2.1).1,(sW A.G (x.2.2.2.1,x.2.2.2.2.1) x.2.2.2.2.2.1).2,())))
theorem ac'{t:Ty}{l:j4}{call:eL}{A:Item (den t)}(hs:BI l call A)(x:aj (tS t))(k:Nat)(q:List Pl)(h:(gS A x).val=some (k,q)):gM (l.step (fun _=>none) call 3) (aB (tS t) x) k q:=by
 obtain⟨b,bad,id,b2,k2,r,n,i,⟨⟩⟩:=x
 obtain⟨h1,h2⟩:=Lf.T.aX h
 cases h2
 simp only[Bool.and_eq_true,decide_eq_true_eq]at h1
 obtain⟨⟨b1,Ks⟩,b3,b4⟩:=h1
 subst b1;subst Ks
 exact Ta hs b bad id b2 k2 r b3 b4
def FS{t:Ty}(A:Item (den t))(y:aj [u8,i64,.ae t]):oE:=fun α s K=>js (decide ((y.2.2.1.length:Int)<=y.2.1)) α s fun s=>bif decide ((y.2.2.1.length:Int)=0)then K s else
 aT (decide (([]:List Int).length+10*[(y.2.2.1.length:Int)].length<=1099511627776)) (
  let p:=cx ([],s.2) [(y.2.2.1.length:Int)]
  let q:=sW A.G p y.2.2.1
  aT ((decide ((y.2.2.1.length:Int)=(y.2.2.1.length:Int))&&decide ((0:Int)=0))&&(cf A.ok y.2.2.1&&decide (p.1.length+kC A.wt y.2.2.1<=1099511627776))) (wT true (wF (y.1,q.1,q.2,())) (Qd (y.1,q.1,q.2,())) α s K))
def wtS{t:Ty}(A:Item (den t))(y:aj [u8,i64,.ae t]):Nat:=21+kC A.wt y.2.2.1
theorem VV{t:Ty}(A:Item (den t))(y:aj [u8,i64,.ae t])(h:cf A.ok y.2.2.1=true):Wr (wtS A y) (FS A y):=by
 refine((gv (decide ((y.2.2.1.length:Int)<=y.2.1))).seq (n:=0) (m:=21+kC A.wt y.2.2.1) ?_).le (by unfold wtS;omega)
 refine .bif (Wr.nop.le (Nat.zero_le _)) ?_
 intro s hs
 have hp:=oG [(y.2.2.1.length:Int)] ([],s.2)
 have hp:(cx ([],s.2) [(y.2.2.1.length:Int)]).1.length<=10:=by simpa using hp
 have hq:=A.row y.2.2.1 h (cx ([],s.2) [(y.2.2.1.length:Int)]) (by omega)
 have c1:(cx ([],s.2) [(y.2.2.1.length:Int)]).1.length+kC A.wt y.2.2.1<=1099511627776:=by omega
 let q:=sW A.G (cx ([],s.2) [(y.2.2.1.length:Int)]) y.2.2.1
 have hq:q.1.length<=10+kC A.wt y.2.2.1:=Nat.le_trans hq (Nat.add_le_add_right hp _)
 have hw:wF (y.1,q.1,q.2,())<=21+kC A.wt y.2.2.1:=by show 0+(1+(10+q.1.length))<=_;omega
 obtain⟨s',a1,a2⟩:=(mP (F7 (y.1,q.1,q.2,())) rfl).le hw s hs
 refine⟨s',a1,fun α K=>?_⟩
 refine Eq.trans ?_ (a2 α K)
 show aT _ (aT ((decide _&&decide _)&&(cf A.ok y.2.2.1&&decide _)) _)=_
 rw[h,decide_eq_true c1]
 simp only[decide_true,Bool.and_self]
 rfl
def sS{t:Ty}(f:FuncId)(A:Item (den t)):cQ:=rU (Ps [.n .u8,.n .i64,.im t,.fn f .nil]) [u8,i64,.ae t] (FS A) (wtS A) fun y=>cf A.ok y.2.2.1
def eP:List (Nat×cQ):=[(43,SU),(47,s32),(62,s47)]
theorem ada{ao:aA}(W:World ao):dc ao eP:=.cons (qU W) (.cons (yD W) (.cons (F9 W) .nil))
def LS{t:Ty}(b:dC)(f:FuncId)(A:Item (den t)):Nat->Option fD:=qg [(0,pK (lS b f t) (tS t) (gS A))]
theorem sj{ao:aA}(W:World ao){t:Ty}{f g:FuncId}{A:Item (den t)}{b:dC}{e:List (Nat×cQ)}(he:dc ao e)(hb:bkD g=some b)(qm:Nat.ble b.ntmps 512=true)(hs:BI (lS b f t) (dG e 3) A)
 (hL:ep Rx.w (pK (lS b f t) (tS t) (gS A)) (fun n d=>gy (ao n d) n (.bl 0 (.lp (lS b f t).body)))->jq Rx.w ao (LS b f A) b.code)
 (ht: ∀ b1 k y,(ja (.cons (gV 0) (Ps [.n .u8,.n .i64,.im t,.fn f .nil])) [2] qW (LS b f A) b 3 (dG eP 3) (aB (.ae u8::.bool:: [u8,i64,.ae t]) (b1,k,y))).val=FS A y _ (b1,k) k3):(sS f A).Ok g ao:=
 gK (W.in (ada W) 3) (W.st g _ hb) qm (hL (iH (W.in he 3) (aE _) (m:=3) (ac' hs))) (m:=3) (VV A) ht
def Tb:Item (den i64):=⟨fun x=>F38 (x,()),fun _=>10,fun _=>true,fun x _=>ft [x],fun _=>by decide⟩
theorem adb{V:ByteArray->Bool}{ao:aA}(W:WorldV V ao):(sS 53 Tb).Ok 52 ao:=by
 refine sj W.toWorld (b:=Tryz.x52) (e:=[(53,s38)]) (.cons (YZ W) .nil) rfl rfl ?_ (fun h=>fx.jq (.cons (b:=(lS Tryz.x52 53 i64).body) (by kernel_rfl) h .nil)) ?_
 ·intro b k id b2 k2 r n i
  kernel_rfl
 ·rintro b k ⟨id,mo,r,⟨⟩⟩
  kernel_rfl
end Go.Proofs.Vd

noncomputable section
namespace Go.Proofs.Vd
open Go.Ab Go.Ab.Lf
set_option maxRecDepth 100000
def F46(V:ByteArray->Bool)(y:aj [.str,i64,i64]):oE:=fun α s K=>bif decide (0<=y.2.1)then(js (decide (y.2.1<=3)) α s fun s=>wT (Ax y.1) (uC (y.1,())) (Nz V (y.1,())) α s fun s=>iJ [bf .u8 y.2.1] α s fun s=>ij [y.2.2.1] α s K)
 else(js false α s fun s=>wT (Ax y.1) (uC (y.1,())) (Nz V (y.1,())) α s fun s=>iJ [bf .u8 y.2.1] α s fun s=>ij [y.2.2.1] α s K)
def Y2(y:aj [.str,i64,i64]):Nat:=0+(uC (y.1,())+(1+10))
theorem NF(V:ByteArray->Bool)(y:aj [.str,i64,i64])(hg:Ax y.1=true):Wr (Y2 y) (F46 V y):=.bif ((gv _).seq ((mP (yN V (y.1,()) hg) hg).seq ((fk [_]).seq (ft [y.2.2.1])))) ((gv _).seq ((mP (yN V (y.1,()) hg) hg).seq ((fk [_]).seq (ft [y.2.2.1]))))
def s46(V:ByteArray->Bool):cQ:=rU (Ps [.ag (Ps [.st,.n .i64,.n .i64])]) [.str,i64,i64] (F46 V) Y2 fun y=>Ax y.1
theorem Y3{V:ByteArray->Bool}{ao:aA}(W:WorldV V ao):(s46 V).Ok 61 ao:=by
 refine gK (W.toWorld.in (v8 W) 3) (W.st 61 _ rfl) rfl (aE _) (m:=3) (fun y h=>NF V y h) ?_
 rintro b k ⟨n,kd,ix,⟨⟩⟩
 kernel_rfl
def F49(y:aj [.ae tI,.ae i64]):oE:=fun α s K=>js (decide ((y.2.1.length:Int)<=1024)) α s fun s=>iJ [0] α s fun s=>wT (qi y.1) (qp y.1) (Ku (y.1,())) α s fun s=>ij [(y.2.1.length:Int)] α s fun s=>ij y.2.1 α s K
def Y4(y:aj [.ae tI,.ae i64]):Nat:=0+(1+(qp y.1+(10+10*y.2.1.length)))
theorem NG(y:aj [.ae tI,.ae i64])(h:qi y.1=true):Wr (Y4 y) (F49 y):=(gv _).seq ((fk [0]).seq ((mP (vz (y.1,()) h) h).seq ((ft [(y.2.1.length:Int)]).seq (ft y.2.1))))
def s49:cQ:=rU (Ps [.ag (Ps [.im tI,.im i64])]) [.ae tI,.ae i64] F49 Y4 fun y=>qi y.1
theorem Y5{V:ByteArray->Bool}{ao:aA}(W:WorldV V ao):s49.Ok 64 ao:=by
 refine gK (W.toWorld.in (v8 W) 3) (W.st 64 _ rfl) rfl (aE _) (m:=3) NG ?_
 rintro b k ⟨c,fs,⟨⟩⟩
 kernel_rfl
def F54(y:aj [.ae tI,.ae u8]):oE:=fun α s K=>iJ [0] α s fun s=>wT (qi y.1) (qp y.1) (Ku (y.1,())) α s fun s=>ij [(y.2.1.length:Int)] α s fun s=>iJ y.2.1 α s K
def Y6(y:aj [.ae tI,.ae u8]):Nat:=1+(qp y.1+(10+y.2.1.length))
theorem NH(y:aj [.ae tI,.ae u8])(h:qi y.1=true):Wr (Y6 y) (F54 y):=(fk [0]).seq ((mP (vz (y.1,()) h) h).seq ((ft [(y.2.1.length:Int)]).seq (fk y.2.1)))
def s54:cQ:=rU (Ps [.ag (Ps [.im tI,.im u8])]) [.ae tI,.ae u8] F54 Y6 fun y=>qi y.1
theorem Y7{V:ByteArray->Bool}{ao:aA}(W:WorldV V ao):s54.Ok 69 ao:=by
 refine gK (W.toWorld.in (v8 W) 3) (W.st 69 _ rfl) rfl (aE _) (m:=3) NH ?_
 rintro b k ⟨c,fs,⟨⟩⟩
 kernel_rfl
abbrev aI:Ty:=.pair (.ae i64) (.ae i64)
abbrev aQ:Ty:=.pair .str (.pair .str i64)
abbrev ak:Ty:=.pair i64 i64
abbrev aC:Ty:=.pair i64 (.pair .bool (.ae tI))
abbrev aP:Ty:=.pair .str (.pair i64 i64)
abbrev aG:Ty:=.pair (.ae tI) (.ae i64)
abbrev aK:Ty:=.pair (.ae i64) (.ae tI)
abbrev aD:Ty:=.pair (.ae tI) (.ae u8)
def Tc:Item (den aI):=⟨fun x=>F30 (x.1,x.2,()),fun x=>YV (x.1,x.2,()),fun _=>true,fun x _=>NB _,fun x=>by show 1<=0+(1+_);omega⟩
def Y8(V:ByteArray->Bool):Item (den aQ):=⟨fun x=>F35 V (x.1,x.2.1,x.2.2,()),fun x=>YX (x.1,x.2.1,x.2.2,()),fun x=>Ax x.1&&Ax x.2.1,fun x h=>NC V (x.1,x.2.1,x.2.2,()) h,fun x=>by show 1<=uC _+(uC _+(1+10));omega⟩
def Td:Item (den ak):=⟨fun x=>F40 (x.1,x.2,()),fun _=>22,fun _=>true,fun x _=>ND _,fun _=>by decide⟩
def Te:Item (den ak):=⟨fun x=>F42 (x.1,x.2,()),fun _=>21,fun _=>true,fun x _=>mP (BH _) rfl,fun _=>by decide⟩
def NI:Item (den aC):=⟨fun x=>F44 (x.1,x.2.1,x.2.2,()),fun x=>YQ (x.1,x.2.1,x.2.2,()),fun x=>qi x.2.2,fun x h=>Ny _ h,fun x=>by show 1<=1+_;omega⟩
def Y9(V:ByteArray->Bool):Item (den aP):=⟨fun x=>F46 V (x.1,x.2.1,x.2.2,()),fun x=>Y2 (x.1,x.2.1,x.2.2,()),fun x=>Ax x.1,fun x h=>NF V (x.1,x.2.1,x.2.2,()) h,fun x=>by show 1<=0+(uC _+(1+10));omega⟩
def NJ:Item (den aG):=⟨fun x=>F49 (x.1,x.2,()),fun x=>Y4 (x.1,x.2,()),fun x=>qi x.1,fun x h=>NG _ h,fun x=>by show 1<=0+(1+_);omega⟩
def DS:Item (den aD):=⟨fun x=>F54 (x.1,x.2,()),fun x=>Y6 (x.1,x.2,()),fun x=>qi x.1,fun x h=>NH _ h,fun x=>by show 1<=1+_;omega⟩
theorem NK{V:ByteArray->Bool}{ao:aA}(W:WorldV V ao):(sS 45 Tc).Ok 44 ao:=by
 refine sj W.toWorld (b:=Tryz.x44) (e:=[(45,s30)]) (.cons (YW W) .nil) rfl rfl ?_ (fun h=>fx.jq (.cons (b:=(lS Tryz.x44 45 aI).body) (by kernel_rfl) h .nil)) ?_
 ·intro b k id b2 k2 r n i
  kernel_rfl
 ·rintro b k ⟨id,mo,r,⟨⟩⟩
  kernel_rfl
theorem NL{V:ByteArray->Bool}{ao:aA}(W:WorldV V ao):(sS 50 (Y8 V)).Ok 49 ao:=by
 refine sj W.toWorld (b:=Tryz.x49) (e:=[(50,s35 V)]) (.cons (YY W) .nil) rfl rfl ?_ (fun h=>fx.jq (.cons (b:=(lS Tryz.x49 50 aQ).body) (by kernel_rfl) h .nil)) ?_
 ·intro b k id b2 k2 r n i
  kernel_rfl
 ·rintro b k ⟨id,mo,r,⟨⟩⟩
  kernel_rfl
theorem NM{V:ByteArray->Bool}{ao:aA}(W:WorldV V ao):(sS 55 Td).Ok 54 ao:=by
 refine sj W.toWorld (b:=Tryz.x54) (e:=[(55,s40)]) (.cons (Y0 W) .nil) rfl rfl ?_ (fun h=>fx.jq (.cons (b:=(lS Tryz.x54 55 ak).body) (by kernel_rfl) h .nil)) ?_
 ·intro b k id b2 k2 r n i
  kernel_rfl
 ·rintro b k ⟨id,mo,r,⟨⟩⟩
  kernel_rfl
theorem NN{V:ByteArray->Bool}{ao:aA}(W:WorldV V ao):(sS 57 Te).Ok 54 ao:=by
 refine sj W.toWorld (b:=Tryz.x54) (e:=[(57,s42)]) (.cons (Y1 W) .nil) rfl rfl ?_ (fun h=>fx.jq (.cons (b:=(lS Tryz.x54 57 ak).body) (by kernel_rfl) h .nil)) ?_
 ·intro b k id b2 k2 r n i
  kernel_rfl
 ·rintro b k ⟨id,mo,r,⟨⟩⟩
  kernel_rfl
theorem NO{V:ByteArray->Bool}{ao:aA}(W:WorldV V ao):(sS 59 NI).Ok 58 ao:=by
 refine sj W.toWorld (b:=Tryz.x58) (e:=[(59,s44)]) (.cons (YR W.toWorld) .nil) rfl rfl ?_ (fun h=>fx.jq (.cons (b:=(lS Tryz.x58 59 aC).body) (by kernel_rfl) h .nil)) ?_
 ·intro b k id b2 k2 r n i
  kernel_rfl
 ·rintro b k ⟨id,mo,r,⟨⟩⟩
  kernel_rfl
theorem NP{V:ByteArray->Bool}{ao:aA}(W:WorldV V ao):(sS 61 (Y9 V)).Ok 60 ao:=by
 refine sj W.toWorld (b:=Tryz.x60) (e:=[(61,s46 V)]) (.cons (Y3 W) .nil) rfl rfl ?_ (fun h=>fx.jq (.cons (b:=(lS Tryz.x60 61 aP).body) (by kernel_rfl) h .nil)) ?_
 ·intro b k id b2 k2 r n i
  kernel_rfl
 ·rintro b k ⟨id,mo,r,⟨⟩⟩
  kernel_rfl
theorem NQ{V:ByteArray->Bool}{ao:aA}(W:WorldV V ao):(sS 64 NJ).Ok 63 ao:=by
 refine sj W.toWorld (b:=Tryz.x63) (e:=[(64,s49)]) (.cons (Y5 W) .nil) rfl rfl ?_ (fun h=>fx.jq (.cons (b:=(lS Tryz.x63 64 aG).body) (by kernel_rfl) h .nil)) ?_
 ·intro b k id b2 k2 r n i
  kernel_rfl
 ·rintro b k ⟨id,mo,r,⟨⟩⟩
  kernel_rfl
theorem NR{V:ByteArray->Bool}{ao:aA}(W:WorldV V ao):(sS 69 DS).Ok 68 ao:=by
 refine sj W.toWorld (b:=Tryz.x68) (e:=[(69,s54)]) (.cons (Y7 W) .nil) rfl rfl ?_ (fun h=>fx.jq (.cons (b:=(lS Tryz.x68 69 aD).body) (by kernel_rfl) h .nil)) ?_
 ·intro b k id b2 k2 r n i
  kernel_rfl
 ·rintro b k ⟨id,mo,r,⟨⟩⟩
  kernel_rfl
end Go.Proofs.Vd

noncomputable section
namespace Go.Proofs.Vd
open Go.Ab Go.Ab.Lf
set_option maxRecDepth 100000
abbrev pC2:jT:=.pt 0 (Ps [.im i64,.im tI])
abbrev Qe:List Ty:=[.ae u8,.bool,.ae i64,.ae tI,.ae u8,.bool,i64,i64,i64]
abbrev wG:List Ty:=[.ae u8,.bool,.ae i64,.ae tI,.ae u8,.bool,i64,i64]
abbrev wH:List Ty:=[.ae u8,.bool,.ae i64,.ae tI,.ae u8,.bool,i64]
abbrev Y':List Ty:=[.ae u8,.bool,.ae i64,.ae tI,.ae u8,.bool]
def DT:j4:=⟨0,fK Tryz.x67.code 0,[0,3,4,5,19,20],Ps [gV 2,pC2,gV 0,.n .i64,.n .i64,.n .i64],[⟨.lN,[0,3,4,5],Ps [gV 2,pC2,gV 0,.n .i64]⟩]⟩
def F':j4:=⟨4,fK Tryz.x67.code 4,[0,3,4,7,8],Ps [gV 2,pC2,gV 0,.n .i64,.n .i64],[⟨.lN,[0,3,4,7,8],Ps [gV 2,pC2,gV 0,.n .i64,.n .i64]⟩]⟩
def Ga:j4:=⟨2,fK Tryz.x67.code 2,[0,3,4,7],Ps [gV 2,pC2,gV 0,.n .i64],[⟨.lN,[0,3,4],Ps [gV 2,pC2,gV 0]⟩]⟩
def NS(L:List Int)(r:Int)(j:Nat):Int:=bif (bif decide ((j:Int)=0)then true else !decide (L.getD (j:Int).toNat (aq i64)=L.getD (bN .i64 (j:Int) 1).toNat (aq i64)))then cr .i64 r 1 else r
def ek(L:List Int)(r:Int):Int:=(List.range L.length).foldl (NS L) r
theorem Ay(b:List Int)(k:Bool)(L:List Int)(c:List (den tI))(b2:List Int)(k2:Bool)(r n i:Int):(DT.step (fun _=>none) (dG eW 3) 3 (aB Qe (b,k,L,c,b2,k2,r,n,i,()))).val=
 bif decide (i<n)then bif (bif decide (i=0)then true else(bm i (Int.ofNat L.length)&&bm (bN .i64 i 1) (Int.ofNat L.length)))then
  bif (bif decide (i=0)then true else !decide (L.getD i.toNat (aq i64)=L.getD (bN .i64 i 1).toNat (aq i64)))then some (Rs.next (aB Qe (b,k,L,c,b2,k2,cr .i64 r 1,n,cr .i64 i 1,())))else some (Rs.next (aB Qe (b,k,L,c,b2,k2,r,n,cr .i64 i 1,())))else none
 else some (Rs.out 0 (aB wH (b,k,L,c,b2,k2,r,()))):=by kernel_rfl
theorem NT(b:List Int)(k:Bool)(L:List Int)(c:List (den tI))(b2:List Int)(k2:Bool)(r:Int)(hL:L.length<=1099511627776):
 gM (DT.step (fun _=>none) (dG eW 3) 3) (aB Qe (b,k,L,c,b2,k2,r,(L.length:Int),0,())) 0 (aB wH (b,k,L,c,b2,k2,ek L r,())):=by
 have:=JD (f:=DT.step (fun _=>none) (dG eW 3) 3) (l:=List.range L.length) (fun(q:Int) j=>aB Qe (b,k,L,c,b2,k2,q,(L.length:Int),(j:Int),())) (fun q x=>.inl (NS L q x)) (fun q=>(0,aB wH (b,k,L,c,b2,k2,q,()))) (fun _ _=>True) (fun q j x u h _=>by
  obtain⟨e1,e2⟩:=dm h 0
  have e3:x=j:=by
   rw[<-e2,List.getD_eq_getElem?_getD,List.getElem?_eq_getElem e1]
   simp
  subst e3
  rw[List.length_range]at e1
  have hj:x<4611686018427387904:=by omega
  refine⟨?_,fun _ _=>trivial⟩
  rw[Ay,ed e1,cond_true,kv hj]
  have hc:(bif decide ((x:Int)=0)then true else(bm (x:Int) (Int.ofNat L.length)&&bm (bN .i64 (x:Int) 1) (Int.ofNat L.length)))=true:=by
   by_cases h0:x=0
   ·subst h0;rfl
   ·rw[decide_eq_false (by omega),cond_false,cN e1,BB (by omega) (by omega),cN (by omega)]
    rfl
  rw[hc,cond_true]
  unfold NS
  cases(bif decide ((x:Int)=0)then true else !decide (L.getD (x:Int).toNat (aq i64)=L.getD (bN .i64 (x:Int) 1).toNat (aq i64)))<;>rfl) (fun q j h hj _=>by
  have:j=L.length:=by have:=List.drop_eq_nil_iff.1 h;rw[List.length_range]at this hj;omega
  subst this
  rw[Ay,di (Nat.le_refl _)]
  rfl) (List.range L.length) 0 r rfl (by rw[List.length_range];omega) trivial
 rw[fH]at this
 exact this
def Za:aj Qe->T (Nat×List Pl):=fun x=>.ck ((decide (x.2.2.2.2.2.2.2.1=(x.2.2.1.length:Int))&&decide (x.2.2.2.2.2.2.2.2.1=0))&&decide (x.2.2.1.length<=1099511627776)) (.ok (0,aB wH (x.1,x.2.1,x.2.2.1,x.2.2.2.1,x.2.2.2.2.1,x.2.2.2.2.2.1,ek x.2.2.1 x.2.2.2.2.2.2.1,())))
theorem Tf(x:aj Qe)(k:Nat)(q:List Pl)(h:(Za x).val=some (k,q)):gM (DT.step (fun _=>none) (dG eW 3) 3) (aB Qe x) k q:=by
 obtain⟨b,bad,L,c,b2,k2,r,n,i,⟨⟩⟩:=x
 obtain⟨h1,h2⟩:=Lf.T.aX h
 cases h2
 simp only[Bool.and_eq_true,decide_eq_true_eq]at h1
 obtain⟨⟨b1,Ks⟩,b3⟩:=h1
 subst b1;subst Ks
 exact NT b bad L c b2 k2 r b3
def oJ(L:List Int)(i:Nat):Nat->Nat->Nat
 |0,n=>n
 |k+1,n=>if i+n<L.length/\L.getD (i+n) (aq i64)=L.getD i (aq i64)then oJ L i k (n+1)else n
theorem DU(L:List Int)(i:Nat): ∀ (k n:Nat),i+n<=L.length->n<=oJ L i k n/\i+oJ L i k n<=L.length
 |0,n,h=>⟨Nat.le_refl _,h⟩
 |k+1,n,h=>by
  unfold oJ
  split
  ·rename_i hc
   have:=DU L i k (n+1) (by omega)
   omega
  ·exact⟨Nat.le_refl _,h⟩
theorem JH{i n:Nat}(h:i+n<4611686018427387904):cr .i64 (i:Int) (n:Int)=((i+n:Nat):Int):=by
 show eX .i64 ((i:Int)+(n:Int))=_
 rw[wrap_i64 (by omega) (by omega)]
 omega
theorem rE(b:List Int)(k:Bool)(L:List Int)(c:List (den tI))(b2:List Int)(k2:Bool)(i n:Int):(F'.step (fun _=>none) (dG eW 3) 3 (aB wG (b,k,L,c,b2,k2,i,n,()))).val=
 bif (bif decide (cr .i64 i n<Int.ofNat L.length)then(bm (cr .i64 i n) (Int.ofNat L.length)&&bm i (Int.ofNat L.length))else true)then
  bif (bif decide (cr .i64 i n<Int.ofNat L.length)then decide (L.getD (cr .i64 i n).toNat (aq i64)=L.getD i.toNat (aq i64))else false)then some (Rs.next (aB wG (b,k,L,c,b2,k2,i,cr .i64 n 1,())))else some (Rs.out 0 (aB wG (b,k,L,c,b2,k2,i,n,())))
 else none:=by kernel_rfl
theorem DV(b:List Int)(k:Bool)(L:List Int)(c:List (den tI))(b2:List Int)(k2:Bool)(i:Nat)(hL:L.length<=1099511627776)(hi:i<L.length): ∀ (f n:Nat),i+n<=L.length->L.length<=i+n+f->
 gM (F'.step (fun _=>none) (dG eW 3) 3) (aB wG (b,k,L,c,b2,k2,(i:Int),(n:Int),())) 0 (aB wG (b,k,L,c,b2,k2,(i:Int),(oJ L i f n:Nat),()))
 |0,n,h1,h2=>by
  refine .last ?_
  rw[rE,JH (by omega),show Int.ofNat L.length=(L.length:Int)from rfl,di (by omega)]
  rfl
 |f+1,n,h1,h2=>by
  by_cases hn:i+n<L.length
  ·have e0:((i:Nat):Int).toNat=i:=Int.toNat_natCast i
   by_cases hq:L.getD (i+n) (aq i64)=L.getD i (aq i64)
   ·refine .more (pl':=aB wG (b,k,L,c,b2,k2,(i:Int),((n+1:Nat):Int),())) ?_ ?_
    ·rw[rE,JH (by omega),cN hn,cN hi,Int.toNat_natCast,e0,show Int.ofNat L.length=(L.length:Int)from rfl,ed hn,decide_eq_true hq,kv (by omega)]
     rfl
    ·have e:oJ L i (f+1) n=oJ L i f (n+1):=if_pos ⟨hn,hq⟩
     rw[e]
     exact DV b k L c b2 k2 i hL hi f (n+1) (by omega) (by omega)
   ·refine .last ?_
    have e:oJ L i (f+1) n=n:=if_neg (fun h=>hq h.2)
    rw[rE,JH (by omega),cN hn,cN hi,Int.toNat_natCast,e0,show Int.ofNat L.length=(L.length:Int)from rfl,ed hn,decide_eq_false hq,e]
    rfl
  ·refine .last ?_
   have e:oJ L i (f+1) n=n:=if_neg (fun h=>hn h.1)
   rw[rE,JH (by omega),show Int.ofNat L.length=(L.length:Int)from rfl,di (by omega),e]
   rfl
def gW(L:List Int)(i:Int):Nat:=oJ L i.toNat L.length 1
def Zb:aj wG->T (Nat×List Pl):=fun x=>.ck (((decide (0<=x.2.2.2.2.2.2.1)&&decide (x.2.2.2.2.2.2.1<(x.2.2.1.length:Int)))&&decide (x.2.2.2.2.2.2.2.1=1))&&decide (x.2.2.1.length<=1099511627776)) (.ok (0,aB wG (x.1,x.2.1,x.2.2.1,x.2.2.2.1,x.2.2.2.2.1,x.2.2.2.2.2.1,x.2.2.2.2.2.2.1,(gW x.2.2.1 x.2.2.2.2.2.2.1:Int),())))
theorem Tg(x:aj wG)(k:Nat)(q:List Pl)(h:(Zb x).val=some (k,q)):gM (F'.step (fun _=>none) (dG eW 3) 3) (aB wG x) k q:=by
 obtain⟨b,bad,L,c,b2,k2,i,n,⟨⟩⟩:=x
 obtain⟨h1,h2⟩:=Lf.T.aX h
 cases h2
 simp only[Bool.and_eq_true,decide_eq_true_eq]at h1
 obtain⟨⟨⟨b1,Ks⟩,b3⟩,b4⟩:=h1
 subst b3
 obtain⟨j,rfl⟩:=Int.eq_ofNat_of_zero_le b1
 have Ks:(j:Int)<(L.length:Int):=Ks
 have:=DV b bad L c b2 k2 j b4 (by omega) L.length 1 (by omega) (by omega)
 exact this
def qY(L:List Int):Nat->St->Nat->St
 |0,s,_=>s
 |k+1,s,i=>if i<L.length then qY L k (fq (cx s [(gW L (i:Int):Int)]) [L.getD i (aq i64)]) (i+gW L (i:Int))else s
theorem BJ(L:List Int)(i:Nat)(h:i<L.length):1<=gW L (i:Int)/\i+gW L (i:Int)<=L.length:=DU L i L.length 1 (by omega)
def Th:Nat->Option fD:=qg [(4,pK F' wG Zb)]
theorem vA(b:List Int)(k:Bool)(L:List Int)(c:List (den tI))(b2:List Int)(k2:Bool)(i:Int):(Ga.step Th (dG eW 3) 3 (aB wH (b,k,L,c,b2,k2,i,()))).val=
 bif decide (i<Int.ofNat L.length)then bif ((decide (0<=i)&&decide (i<(L.length:Int)))&&decide ((1:Int)=1))&&decide (L.length<=1099511627776)then bif decide (b2.length+10*[(gW L i:Int)].length<=1099511627776)then bif bm i (Int.ofNat L.length)then
  bif decide ((cx (b2,k2) [(gW L i:Int)]).1.length+[L.getD i.toNat (aq i64)].length<=1099511627776)then some (Rs.next (aB wH (b,k,L,c,(fq (cx (b2,k2) [(gW L i:Int)]) [L.getD i.toNat (aq i64)]).1,(fq (cx (b2,k2) [(gW L i:Int)]) [L.getD i.toNat (aq i64)]).2,cr .i64 i (gW L i:Int),())))
  else none else none else none else none else some (Rs.out 0 (aB Y' (b,k,L,c,b2,k2,()))):=by kernel_rfl
theorem yO(b:List Int)(k:Bool)(L:List Int)(c:List (den tI))(hL:L.length<=1099511627776): ∀ (f:Nat) (s:St) (i:Nat),i<=L.length->L.length<=i+f->s.1.length+11*(L.length - i)<=1099511627776->
 gM (Ga.step Th (dG eW 3) 3) (aB wH (b,k,L,c,s.1,s.2,(i:Int),())) 0 (aB Y' (b,k,L,c,(qY L f s i).1,(qY L f s i).2,()))/\(qY L f s i).1.length<=s.1.length+11*(L.length - i)
 |0,s,i,h1,h2,h3=>by
  refine⟨.last ?_,Nat.le_add_right _ _⟩
  rw[vA,show Int.ofNat L.length=(L.length:Int)from rfl,di (by omega)]
  rfl
 |f+1,s,i,h1,h2,h3=>by
  by_cases hi:i<L.length
  ·obtain⟨r1,r2⟩:=BJ L i hi
   have hn:=oG [(gW L (i:Int):Int)] s
   have hn:(cx s [(gW L (i:Int):Int)]).1.length<=s.1.length+10:=by simpa using hn
   have hk:=yM [L.getD i (aq i64)] (cx s [(gW L (i:Int):Int)])
   have hk:(fq (cx s [(gW L (i:Int):Int)]) [L.getD i (aq i64)]).1.length=(cx s [(gW L (i:Int):Int)]).1.length+1:=by simpa using hk
   obtain⟨a1,a2⟩:=yO b k L c hL f (fq (cx s [(gW L (i:Int):Int)]) [L.getD i (aq i64)]) (i+gW L (i:Int)) r2 (by omega) (by omega)
   have e:qY L (f+1) s i=qY L f (fq (cx s [(gW L (i:Int):Int)]) [L.getD i (aq i64)]) (i+gW L (i:Int)):=if_pos hi
   rw[e]
   refine⟨.more ?_ a1,by omega⟩
   have c1:s.1.length+10*[(gW L (i:Int):Int)].length<=1099511627776:=by simp only[List.length_cons,List.length_nil];omega
   have c2:(cx s [(gW L (i:Int):Int)]).1.length+[L.getD i (aq i64)].length<=1099511627776:=by simp only[List.length_cons,List.length_nil];omega
   rw[vA,cN hi,Int.toNat_natCast,show Int.ofNat L.length=(L.length:Int)from rfl,ed hi,JH (by omega),decide_eq_true c1,decide_eq_true (show(0:Int)<=(i:Int) by omega),decide_eq_true hL]
   show(bif decide _ then _ else _)=_
   rw[decide_eq_true c2]
   rfl
  ·have e:qY L (f+1) s i=s:=if_neg hi
   rw[e]
   refine⟨.last ?_,Nat.le_add_right _ _⟩
   rw[vA,show Int.ofNat L.length=(L.length:Int)from rfl,di (by omega)]
   rfl
def wI(s:St)(L:List Int):St:=qY L L.length s 0
def Zc:aj wH->T (Nat×List Pl):=fun x=>.ck ((decide (x.2.2.2.2.2.2.1=0)&&decide (x.2.2.1.length<=1099511627776))&&decide (x.2.2.2.2.1.length+11*x.2.2.1.length<=1099511627776)) (.ok (0,aB Y' (x.1,x.2.1,x.2.2.1,x.2.2.2.1,(wI (x.2.2.2.2.1,x.2.2.2.2.2.1) x.2.2.1).1,(wI (x.2.2.2.2.1,x.2.2.2.2.2.1) x.2.2.1).2,())))
theorem Ti(x:aj wH)(k:Nat)(q:List Pl)(h:(Zc x).val=some (k,q)):gM (Ga.step Th (dG eW 3) 3) (aB wH x) k q:=by
 obtain⟨b,bad,L,c,b2,k2,i,⟨⟩⟩:=x
 obtain⟨h1,h2⟩:=Lf.T.aX h
 cases h2
 simp only[Bool.and_eq_true,decide_eq_true_eq]at h1
 obtain⟨⟨b1,Ks⟩,b3⟩:=h1
 subst b1
 exact(yO b bad L c Ks L.length (b2,k2) 0 (by omega) (by omega) (by simpa using b3)).1
def L52:Nat->Option fD:=qg [(0,pK DT Qe Za),(2,pK Ga wH Zc)]
def F52(y:aj [.ae i64,.ae tI]):oE:=fun α s K=>js (decide ((y.1.length:Int)<=512)) α s fun s=>aT ((decide ((y.1.length:Int)=(y.1.length:Int))&&decide ((0:Int)=0))&&decide (y.1.length<=1099511627776))
 (ij [ek y.1 0] α ([],false) fun q=>aT ((decide ((0:Int)=0)&&decide (y.1.length<=1099511627776))&&decide (q.1.length+11*y.1.length<=1099511627776)) (wT (qi y.2.1) (qp y.2.1) (Ku (y.2.1,())) α (wI q y.1) fun q=>js (!q.2) α s fun s=>ij [(q.1.length:Int)] α s fun s=>zI q.1 α s K))
def Gb(y:aj [.ae i64,.ae tI]):Nat:=20+11*y.1.length+qp y.2.1
theorem Zd(b:List Int)(k:Bool)(L:List Int)(c:List (den tI)):(ja (.cons (gV 0) (Ps [.ag (Ps [.im i64,.im tI])])) [2] qW L52 Tryz.x67 3 (dG eW 3) (aB (.ae u8::.bool:: [.ae i64,.ae tI]) (b,k,L,c,()))).val=F52 (L,c,()) _ (b,k) k3:=by kernel_rfl
end Go.Proofs.Vd

noncomputable section
namespace Go.Proofs.Vd
open Go.Ab Go.Ab.Lf
set_option maxRecDepth 100000
theorem DW(s:St)(L:List Int)(hL:L.length<=1099511627776)(h:s.1.length+11*L.length<=1099511627776):(wI s L).1.length<=s.1.length+11*L.length:=
 (yO [] false L [] hL L.length s 0 (by omega) (by omega) (by simpa using h)).2
theorem NU(y:aj [.ae i64,.ae tI])(h:qi y.2.1=true):Wr (Gb y) (F52 y):=by
 refine((gv (decide ((y.1.length:Int)<=512))).seq (n:=0) (m:=Gb y) ?_).le (by omega)
 intro s hs
 unfold Gb at hs ⊢
 have hn:=oG [ek y.1 0] ([],false)
 have hn:(cx ([],false) [ek y.1 0]).1.length<=10:=by simpa using hn
 have hL:y.1.length<=1099511627776:=by omega
 have c1:(cx ([],false) [ek y.1 0]).1.length+11*y.1.length<=1099511627776:=by omega
 have hm:=DW (cx ([],false) [ek y.1 0]) y.1 hL c1
 have c2:(wI (cx ([],false) [ek y.1 0]) y.1).1.length+qp y.2.1<=1099511627776:=by omega
 obtain⟨q,hq,eq⟩:=mP (vz (y.2.1,()) h) h (wI (cx ([],false) [ek y.1 0]) y.1) c2
 have hq:q.1.length<=(wI (cx ([],false) [ek y.1 0]) y.1).1.length+qp y.2.1:=hq
 obtain⟨s',XW,es⟩:=((gv (!q.2)).seq ((ft [(q.1.length:Int)]).seq (BG q.1))).le (m:=20+11*y.1.length+qp y.2.1) (by simp only[List.length_cons,List.length_nil];omega) s hs
 refine⟨s',XW,fun α K=>?_⟩
 refine Eq.trans ?_ (es α K)
 show aT ((decide _&&decide _)&&decide _) (aT (decide (([]:List Int).length+10*[ek y.1 0].length<=1099511627776)) (aT ((decide _&&decide _)&&decide _) (wT (qi y.2.1) (qp y.2.1) (Ku (y.2.1,())) α (wI (cx ([],false) [ek y.1 0]) y.1) _)))=_
 rw[eq,decide_eq_true hL,decide_eq_true c1,decide_eq_true (show(y.1.length:Int)=(y.1.length:Int)from rfl)]
 rfl
def s52:cQ:=rU (Ps [.ag (Ps [.im i64,.im tI])]) [.ae i64,.ae tI] F52 Gb fun y=>qi y.2.1
theorem Ze{V:ByteArray->Bool}{ao:aA}(W:WorldV V ao):s52.Ok 67 ao:=by
 have C:=W.toWorld.in (HP W.toWorld) 3
 have h0:ep Rx.w (pK DT Qe Za) (fun n d=>gy (ao n d) n (.bl 0 (.lp DT.body))):=iH C (aE _) (m:=3) Tf
 have h4:ep Rx.w (pK F' wG Zb) (fun n d=>gy (ao n d) n (.bl 4 (.lp F'.body))):=iH C (aE _) (m:=3) Tg
 have h2:ep Rx.w (pK Ga wH Zc) (fun n d=>gy (ao n d) n (.bl 2 (.lp Ga.body))):=iH C (L:=Th) (fx.jq (.cons (b:=F'.body) (by kernel_rfl) h4 .nil)) (m:=3) Ti
 refine gK C (W.st 67 _ rfl) rfl (L:=L52) (fx.jq (.cons (b:=DT.body) (by kernel_rfl) h0 (.cons (b:=Ga.body) (by kernel_rfl) h2 .nil))) (m:=3) NU ?_
 rintro b k ⟨L,c,⟨⟩⟩
 exact Zd b k L c
def NV:Item (den aK):=⟨fun x=>F52 (x.1,x.2,()),fun x=>Gb (x.1,x.2,()),fun x=>qi x.2,fun x h=>NU _ h,fun x=>by show 1<=20+_+_;omega⟩
theorem NW{V:ByteArray->Bool}{ao:aA}(W:WorldV V ao):(sS 67 NV).Ok 66 ao:=by
 refine sj W.toWorld (b:=Tryz.x66) (e:=[(67,s52)]) (.cons (Ze W) .nil) rfl rfl ?_ (fun h=>fx.jq (.cons (b:=(lS Tryz.x66 67 aK).body) (by kernel_rfl) h .nil)) ?_
 ·intro b k id b2 k2 r n i
  kernel_rfl
 ·rintro b k ⟨id,mo,r,⟨⟩⟩
  kernel_rfl
end Go.Proofs.Vd

noncomputable section
namespace Go.Proofs.Vd
open Go.Ab Go.Ab.Lf
set_option maxRecDepth 100000
def Zf(a b:eL):eL:=fun f args h=>match a f args h with
 | .bad=>b f args h
 |t=>t
theorem Tj{a b:eL}{ao:aA}(ha:oy a ao)(hb:oy b ao):oy (Zf a b) ao:=by
 intro E f args ys H h v H' hv hH e
 unfold Zf at e
 split at e
 ·exact hb E f args ys H h v H' hv hH e
 ·exact ha E f args ys H h v H' hv hH e
abbrev tM:List Ty:=[.ae aI,.ae aQ,.ae i64,.ae ak,.ae ak,.ae aC,.ae aP,i64,.ae aG,.ae aK,.ae aD]
abbrev pM:jT:=.ag (Ps [.im aI,.im aQ,.im i64,.im ak,.im ak,.im aC,.im aP,.n .i64,.im aG,.im aK,.im aD])
def e18(V:ByteArray->Bool):List (Nat×cQ):=[(43,SU),(44,sS 45 Tc),(47,s32),(49,sS 50 (Y8 V)),(52,sS 53 Tb),(54,sS 55 Td),(58,sS 59 NI),(60,sS 61 (Y9 V)),(62,s47),(63,sS 64 NJ),(66,sS 67 NV),(68,sS 69 DS)]
theorem Zg{V:ByteArray->Bool}{ao:aA}(W:WorldV V ao):dc ao (e18 V):=
 .cons (qU W.toWorld) (.cons (NK W) (.cons (yD W.toWorld) (.cons (NL W) (.cons (adb W) (.cons (NM W) (.cons (NO W) (.cons (NP W) (.cons (F9 W.toWorld) (.cons (NQ W) (.cons (NW W) (.cons (NR W) .nil)))))))))))
def c18(V:ByteArray->Bool):eL:=Zf (dG (e18 V) 3) (dG [(54,sS 57 Te)] 3)
theorem Zh{V:ByteArray->Bool}{ao:aA}(W:WorldV V ao):oy (c18 V) ao:=Tj (W.toWorld.in (Zg W) 3) (W.toWorld.in (.cons (NN W) .nil) 3)
def wJ{t:Ty}(A:Item (den t))(id most:Int)(l:List (den t)):oE:=wT (cf A.ok l) (21+kC A.wt l) (FS A (id,most,l,()))
theorem kI{t:Ty}(A:Item (den t))(id most:Int)(l:List (den t))(h:cf A.ok l=true):Wr (21+kC A.wt l) (wJ A id most l):=mP (VV A (id,most,l,()) h) h
def Tk(y:aj tM):oE:=fun α s K=>wJ NJ 9 512 y.2.2.2.2.2.2.2.2.1 α s fun s=>wJ NV 10 512 y.2.2.2.2.2.2.2.2.2.1 α s fun s=>wJ DS 11 512 y.2.2.2.2.2.2.2.2.2.2.1 α s K
def F18(V:ByteArray->Bool)(y:aj tM):oE:=fun α s K=>js (decide ((y.2.2.1.length:Int)=(y.2.2.2.2.2.2.2.2.2.1.length:Int))) α s fun s=>
 wJ Tc 1 256 y.1 α s fun s=>wJ (Y8 V) 2 512 y.2.1 α s fun s=>wJ Tb 3 512 y.2.2.1 α s fun s=>wJ Td 4 512 y.2.2.2.1 α s fun s=>wJ Te 5 512 y.2.2.2.2.1 α s fun s=>wJ NI 6 512 y.2.2.2.2.2.1 α s fun s=>wJ (Y9 V) 7 512 y.2.2.2.2.2.2.1 α s fun s=>
 js (decide (-1<=y.2.2.2.2.2.2.2.1)) α s fun s=>bif decide (0<=y.2.2.2.2.2.2.2.1)then
  ij [y.2.2.2.2.2.2.2.1] α ([],false) fun p=>wT true (wF (8,p.1,p.2,())) (Qd (8,p.1,p.2,())) α s fun s=>Tk y α s K
 else Tk y α s K
def Tl(s:St):Option (List Pl):=bif s.2 then some (aB [.ae u8,i64] ([],1,()))else bif decide (16384<(s.1.length:Int))then some (aB [.ae u8,i64] ([],4,()))else some (aB [.ae u8,i64] (s.1,0,()))
def s0:St:=([0,97,115,109,1,0,0,0],false)
theorem Zi(V:ByteArray->Bool)(y:aj tM):(ja (Ps [pM]) [] (Ps [.tu (Ps [.ow u8,.n .i64])]) (fun _=>none) Tryz.x25 3 (c18 V) (aB tM y)).val=F18 V y _ s0 Tl:=by
 obtain⟨t,im,fs,tb,me,gl,ex,st,el,co,da,⟨⟩⟩:=y
 kernel_rfl
end Go.Proofs.Vd

noncomputable section
namespace Go.Proofs.Vd
open Go.Ab Go.Ab.Lf
set_option maxRecDepth 100000
def VW(V:ByteArray->Bool)(y:aj tM):Bool:=
 (cf Tc.ok y.1&&(cf (Y8 V).ok y.2.1&&(cf Tb.ok y.2.2.1&&(cf Td.ok y.2.2.2.1&&(cf Te.ok y.2.2.2.2.1&&(cf NI.ok y.2.2.2.2.2.1&&(cf (Y9 V).ok y.2.2.2.2.2.2.1&&
 (cf NJ.ok y.2.2.2.2.2.2.2.2.1&&(cf NV.ok y.2.2.2.2.2.2.2.2.2.1&&cf DS.ok y.2.2.2.2.2.2.2.2.2.2.1)))))))))
def HS(y:aj tM):Nat:=(21+kC NJ.wt y.2.2.2.2.2.2.2.2.1)+((21+kC NV.wt y.2.2.2.2.2.2.2.2.2.1)+(21+kC DS.wt y.2.2.2.2.2.2.2.2.2.2.1))
def Gc(V:ByteArray->Bool)(y:aj tM):Nat:=0+((21+kC Tc.wt y.1)+((21+kC (Y8 V).wt y.2.1)+((21+kC Tb.wt y.2.2.1)+((21+kC Td.wt y.2.2.2.1)+((21+kC Te.wt y.2.2.2.2.1)+((21+kC NI.wt y.2.2.2.2.2.1)+((21+kC (Y9 V).wt y.2.2.2.2.2.2.1)+(0+(21+HS y)))))))))
def NX(n:Int):oE:=fun α s K=>ij [n] α ([],false) fun p=>wT true (wF (8,p.1,p.2,())) (Qd (8,p.1,p.2,())) α s K
theorem JI(n:Int):Wr 21 (NX n):=by
 intro s hs
 have hn:=oG [n] ([],false)
 have hn:(cx ([],false) [n]).1.length<=10:=by simpa using hn
 obtain⟨s',h1,h2⟩:=(mP (F7 (8,(cx ([],false) [n]).1,(cx ([],false) [n]).2,())) rfl).le (m:=21) (by show 0+(1+(10+(cx ([],false) [n]).1.length))<=21;omega) s hs
 exact⟨s',h1,fun α K=>Eq.trans rfl (h2 α K)⟩
theorem HT(y:aj tM)(h1:cf NJ.ok y.2.2.2.2.2.2.2.2.1=true)(h2:cf NV.ok y.2.2.2.2.2.2.2.2.2.1=true)(h3:cf DS.ok y.2.2.2.2.2.2.2.2.2.2.1=true):Wr (HS y) (Tk y):=
 (kI NJ 9 512 _ h1).seq ((kI NV 10 512 _ h2).seq (kI DS 11 512 _ h3))
theorem Zj(V:ByteArray->Bool)(y:aj tM)(h:VW V y=true):Wr (Gc V y) (F18 V y):=by
 unfold VW at h
 simp only[Bool.and_eq_true]at h
 obtain⟨h1,h2,h3,h4,h5,h6,h7,h8,h9,Tn⟩:=h
 exact(gv _).seq ((kI Tc 1 256 _ h1).seq ((kI (Y8 V) 2 512 _ h2).seq ((kI Tb 3 512 _ h3).seq ((kI Td 4 512 _ h4).seq ((kI Te 5 512 _ h5).seq ((kI NI 6 512 _ h6).seq ((kI (Y9 V) 7 512 _ h7).seq
  ((gv _).seq (.bif ((JI _).seq (HT y h8 h9 Tn)) ((HT y h8 h9 Tn).le (Nat.le_add_left _ _)))))))))))
def zJ(V:ByteArray->Bool)(y:aj tM):St:=mW (F18 V y) s0
def nh(V:ByteArray->Bool)(y:aj tM):Int:=bif (zJ V y).2 then 1 else bif decide (16384<((zJ V y).1.length:Int))then 4 else 0
def VX(V:ByteArray->Bool)(y:aj tM):List Int:=bif (zJ V y).2 then []else bif decide (16384<((zJ V y).1.length:Int))then []else(zJ V y).1
def Ge(V:ByteArray->Bool)(y:aj tM):Bool:=VW V y&&decide (8+Gc V y<=1099511627776)
def s18(V:ByteArray->Bool):cQ:=iw (Ps [pM]) [] (Ps [.tu (Ps [.ow u8,.n .i64])]) tM [.ae u8,i64] fun y=>.ck (Ge V y) (.ok (VX V y,nh V y,()))
theorem Zk{V:ByteArray->Bool}{ao:aA}(W:WorldV V ao):(s18 V).Ok 25 ao:=by
 refine dD (Zh W) (W.st 25 _ rfl) rfl (aE _) (m:=3) rfl ?_
 intro y q h
 obtain⟨h1,h2⟩:=Lf.T.aX h
 cases h2
 rw[Zi]
 unfold Ge at h1
 simp only[Bool.and_eq_true,decide_eq_true_eq]at h1
 refine((DR (Zj V y h1.1) (s:=s0) h1.2).2 _ Tl).trans ?_
 show Tl (zJ V y)=_
 unfold Tl VX nh
 cases(zJ V y).2 with
 |true=>rfl
 |false=>cases decide (16384<((zJ V y).1.length:Int))<;>rfl
end Go.Proofs.Vd

noncomputable section
namespace Go.Proofs.Vd
open Go.Ab Go.Ab.Lf
set_option maxRecDepth 100000
def uD(c:List (den tI))(t:Int):Bool:=bif !decide ((c.length:Int)=2)then false else
 let o:=(c.getD 0 (aq tI)).1
 bif decide (o=65)then decide (t=127)else bif decide (o=66)then decide (t=126)else bif decide (o=64780)then decide (t=123)else false
def s56:cQ:=iw (Ps [.im tI,.n .i64]) [] (Ps [.bo]) [.ae tI,i64] [.bool] fun x=>.ok (uD x.1 x.2.1,())
theorem Gf{ao:aA}(W:World ao):s56.Ok 72 ao:=by
 refine dD (W.in .nil 3) (W.st 72 _ rfl) rfl (aE _) (m:=3) rfl ?_
 rintro⟨c,t,⟨⟩⟩ q h
 cases h
 have e:(ja (Ps [.im tI,.n .i64]) [] (Ps [.bo]) (fun _=>none) Tryz.x72 3 (dG [] 3) (aB [.ae tI,i64] (c,t,()))).val=bif !decide ((c.length:Int)=2)then some (aB [.bool] (false,()))else bif bm 0 (Int.ofNat c.length)then
  bif decide ((c.getD 0 (aq tI)).1=65)then some (aB [.bool] (decide (t=127),()))else bif decide ((c.getD 0 (aq tI)).1=66)then some (aB [.bool] (decide (t=126),()))else bif decide ((c.getD 0 (aq tI)).1=64780)then some (aB [.bool] (decide (t=123),()))else some (aB [.bool] (false,()))else none:=by kernel_rfl
 rw[e]
 show _=some (aB [.bool] (uD c t,()))
 unfold uD
 dsimp only
 cases h2:decide ((c.length:Int)=2)with
 |false=>rfl
 |true=>
  have:(c.length:Int)=2:=of_decide_eq_true h2
  have hx:bm 0 (Int.ofNat c.length)=true:=cN (j:=0) (by omega)
  rw[hx]
  cases decide ((c.getD 0 (aq tI)).1=65)<;>cases decide ((c.getD 0 (aq tI)).1=66)<;>cases decide ((c.getD 0 (aq tI)).1=64780)<;>rfl
abbrev cw:Ty:=.pair i64 (.pair i64 (.pair (.ae i64) (.pair (.ae i64) (.pair .bool .bool))))
abbrev jG(g:Nat):jT:=.pt g (Ps [.im aI,.im aQ,.im i64,.im ak,.im ak,.im aC,.im aP,.n .i64,.im aG,.im aK,.im aD,.ow i64,.ow i64,.ow cw,.bo])
abbrev xh:List Ty:=[.ae aI,.ae aQ,.ae i64,.ae ak,.ae ak,.ae aC,.ae aP,i64,.ae aG,.ae aK,.ae aD,.ae i64,.ae i64,.ae cw,.bool]
abbrev JJ:List Ty:=[.ae aI,.ae aQ,.ae i64,.ae ak,.ae ak,.ae aC,.ae aP,i64,.ae aG,.ae aK,.ae aD,.ae i64,.ae i64,.ae cw,.bool,i64]
abbrev Zl:List Ty:=[i64,.ae aI,.ae aQ,.ae i64,.ae ak,.ae ak,.ae aC,.ae aP,i64,.ae aG,.ae aK,.ae aD,.ae i64,.ae i64,.ae cw,.bool]
abbrev ai7:List Ty:=[.ae aI,.ae aQ,.ae i64,.ae ak,.ae ak,.ae aC,.ae aP,i64,.ae aG,.ae aK,.ae aD,.ae i64,.ae i64,.ae cw,.bool,.bool]
def VY:cQ:=iw (Ps [jG 0,.bo]) [14] (Ps [.tu .nil,jG 14]) ai7 xh fun x=>match x with
 |(t,im,fs,tb,me,gl,ex,st,el,co,da,lo,dj,bl,bad,ok,_)=>.ok (t,im,fs,tb,me,gl,ex,st,el,co,da,lo,dj,bl,bad|| !ok,())
theorem sX{ao:aA}(W:World ao):VY.Ok 95 ao:=by
 refine dD (W.in .nil 3) (W.st 95 _ rfl) rfl (aE _) (m:=3) rfl ?_
 rintro⟨t,im,fs,tb,me,gl,ex,st,el,co,da,lo,dj,bl,bad,ok,⟨⟩⟩ q h
 cases h
 cases bad<;>kernel_rfl
def dy(bl:List (den cw)):den cw:=bl.getD (bl.length - 1) (aq cw)
def okW(dj:List Int)(bl:List (den cw)):Bool:=(decide (0<bl.length)&&(decide (bl.length<=1099511627776)&&decide (dj.length<=1099511627776)))&&(decide (0<=(dy bl).2.1)&&decide ((dy bl).2.1<=(dj.length:Int)))
def e9(dj:List Int)(bl:List (den cw))(bad:Bool)(want:Int):Int×List Int×Bool:=
 bif decide ((dj.length:Int)=(dy bl).2.1)then(want,dj,bad|| !(dy bl).2.2.2.2.1)else
 let t:=dj.getD (dj.length - 1) (aq i64)
 (bif decide (t=0)then want else t,dj.take (dj.length - 1),bad|| !(bif decide (t=want)then true else bif decide (t=0)then true else decide (want=0)))
def s73:cQ:=iw (Ps [jG 0,.n .i64]) [14] (Ps [.n .i64,jG 14]) JJ Zl fun x=>match x with
 |(t,im,fs,tb,me,gl,ex,st,el,co,da,lo,dj,bl,bad,want,_)=>.ck (okW dj bl) (let y:=e9 dj bl bad want; .ok (y.1,t,im,fs,tb,me,gl,ex,st,el,co,da,lo,y.2.1,bl,y.2.2,()))
theorem yP{ao:aA}(W:World ao):s73.Ok 92 ao:=by
 refine dD (W.in .nil 3) (W.st 92 _ rfl) rfl (aE _) (m:=3) rfl ?_
 rintro⟨t,im,fs,tb,me,gl,ex,st,el,co,da,lo,dj,bl,bad,want,⟨⟩⟩ q h
 obtain⟨h1,h2⟩:=Lf.T.aX h
 cases h2
 unfold okW at h1
 simp only[Bool.and_eq_true,decide_eq_true_eq]at h1
 obtain⟨⟨b1,b2,b3⟩,b4,b5⟩:=h1
 let R (w:Int) (s:List Int) (b:Bool):Option (List Pl):=some (aB Zl (w,t,im,fs,tb,me,gl,ex,st,el,co,da,lo,s,bl,b,()))
 have e: ∀ (B:den cw) (T:Int),B=bl.getD (bN .i64 (Int.ofNat bl.length) 1).toNat (aq cw)->T=dj.getD (bN .i64 (Int.ofNat dj.length) 1).toNat (aq i64)->
  (ja (Ps [jG 0,.n .i64]) [14] (Ps [.n .i64,jG 14]) (fun _=>none) Tryz.x92 3 (dG [] 3) (aB JJ (t,im,fs,tb,me,gl,ex,st,el,co,da,lo,dj,bl,bad,want,()))).val=
  bif bm (bN .i64 (Int.ofNat bl.length) 1) (Int.ofNat bl.length)then bif decide (Int.ofNat dj.length=B.2.1)then(bif bad then R want dj true else R want dj (!B.2.2.2.2.1))else
   bif bm (bN .i64 (Int.ofNat dj.length) 1) (Int.ofNat dj.length)then bif dV 0 (bN .i64 (Int.ofNat dj.length) 1) (Int.ofNat dj.length)then
    let S:=(dj.drop 0).take ((bN .i64 (Int.ofNat dj.length) 1).toNat - 0)
    let E:=fun b=>bif decide (T=0)then R want S b else R T S b
    bif decide (T=want)then(bif bad then E true else E (!true))else bif decide (T=0)then(bif bad then E true else E (!true))else(bif bad then E true else E (!decide (want=0)))
   else none else none else none:=by
  intro B T hB hT
  subst hB;subst hT
  kernel_rfl
 rw[e _ _ rfl rfl,show Int.ofNat bl.length=(bl.length:Int)from rfl,show Int.ofNat dj.length=(dj.length:Int)from rfl,BB b1 (by omega),Int.toNat_natCast]
 have hb:bm ((bl.length - 1:Nat):Int) (bl.length:Int)=true:=cN (by omega)
 rw[hb,cond_true]
 show(bif decide ((dj.length:Int)=(dy bl).2.1)then _ else _)=some (aB Zl ((e9 dj bl bad want).1,t,im,fs,tb,me,gl,ex,st,el,co,da,lo,(e9 dj bl bad want).2.1,bl,(e9 dj bl bad want).2.2,()))
 unfold e9
 cases hh:decide ((dj.length:Int)=(dy bl).2.1)with
 |true=>cases bad<;>rfl
 |false=>
  have jN: ¬ (dj.length:Int)=(dy bl).2.1:=of_decide_eq_false hh
  have hp:0<dj.length:=by omega
  have hs:bm ((dj.length - 1:Nat):Int) (dj.length:Int)=true:=cN (by omega)
  have hc:dV 0 ((dj.length - 1:Nat):Int) (dj.length:Int)=true:=by unfold dV;simp
  rw[BB hp (by omega),hs,hc,Int.toNat_natCast]
  simp only[cond_true,cond_false,List.drop_zero,Nat.sub_zero]
  cases decide (dj.getD (dj.length - 1) (aq i64)=want)<;>cases decide (dj.getD (dj.length - 1) (aq i64)=0)<;>cases bad<;>rfl
end Go.Proofs.Vd

noncomputable section
namespace Go.Proofs.Vd
open Go.Ab Go.Ab.Lf
set_option maxRecDepth 100000
theorem NY{dj:List Int}{bl:List (den cw)}(bad:Bool)(want:Int)(h:okW dj bl=true):okW (e9 dj bl bad want).2.1 bl=true:=by
 have h0:=h
 unfold okW at h ⊢
 simp only[Bool.and_eq_true,decide_eq_true_eq]at h ⊢
 obtain⟨⟨b1,b2,b3⟩,b4,b5⟩:=h
 unfold e9
 cases hh:decide ((dj.length:Int)=(dy bl).2.1)with
 |true=>exact⟨⟨b1,b2,b3⟩,b4,b5⟩
 |false=>
  have jN: ¬ (dj.length:Int)=(dy bl).2.1:=of_decide_eq_false hh
  simp only[cond_false,List.length_take]
  refine⟨⟨b1,b2,by omega⟩,b4,by omega⟩
def rV(L:List Int)(bl:List (den cw)):Nat->List Int->Bool->List Int×Bool
 |0,dj,bad=>(dj,bad)
 |n+1,dj,bad=>rV L bl n (e9 dj bl bad (L.getD n (aq i64))).2.1 (e9 dj bl bad (L.getD n (aq i64))).2.2
abbrev VZ:List Ty:=[.ae aI,.ae aQ,.ae i64,.ae ak,.ae ak,.ae aC,.ae aP,i64,.ae aG,.ae aK,.ae aD,.ae i64,.ae i64,.ae cw,.bool,.ae i64,i64]
abbrev To:List Ty:=[.ae aI,.ae aQ,.ae i64,.ae ak,.ae ak,.ae aC,.ae aP,i64,.ae aG,.ae aK,.ae aD,.ae i64,.ae i64,.ae cw,.bool,.ae i64]
def Zm:j4:=⟨0,fK Tryz.x90.code 0,[0,1,4],Ps [jG 14,.im i64,.n .i64],[⟨.lN,[0],Ps [jG 14]⟩]⟩
def e71:List (Nat×cQ):=[(92,s73),(95,VY)]
theorem Zn{ao:aA}(W:World ao):dc ao e71:=.cons (yP W) (.cons (sX W) .nil)
theorem DX(t:List (den aI))(im:List (den aQ))(fs:List Int)(tb me:List (den ak))(gl:List (den aC))(ex:List (den aP))(st:Int)(el:List (den aG))(co:List (den aK))(da:List (den aD))(lo dj:List Int)(bl:List (den cw))(bad:Bool)(L:List Int)(i:Int):
 (Zm.step (fun _=>none) (dG e71 3) 3 (aB VZ (t,im,fs,tb,me,gl,ex,st,el,co,da,lo,dj,bl,bad,L,i,()))).val=
 bif decide (0<=i)then bif bm i (Int.ofNat L.length)then bif okW dj bl then some (Rs.next (aB VZ (t,im,fs,tb,me,gl,ex,st,el,co,da,lo,(e9 dj bl bad (L.getD i.toNat (aq i64))).2.1,bl,(e9 dj bl bad (L.getD i.toNat (aq i64))).2.2,L,bN .i64 i 1,())))else none else none
 else some (Rs.out 0 (aB xh (t,im,fs,tb,me,gl,ex,st,el,co,da,lo,dj,bl,bad,()))):=by kernel_rfl
theorem HU(t:List (den aI))(im:List (den aQ))(fs:List Int)(tb me:List (den ak))(gl:List (den aC))(ex:List (den aP))(st:Int)(el:List (den aG))(co:List (den aK))(da:List (den aD))(lo:List Int)(bl:List (den cw))(L:List Int)(hL:L.length<=1099511627776): ∀ (n:Nat) (dj:List Int) (bad:Bool),n<=L.length->okW dj bl=true->
 gM (Zm.step (fun _=>none) (dG e71 3) 3) (aB VZ (t,im,fs,tb,me,gl,ex,st,el,co,da,lo,dj,bl,bad,L,(n:Int) - 1,())) 0 (aB xh (t,im,fs,tb,me,gl,ex,st,el,co,da,lo,(rV L bl n dj bad).1,bl,(rV L bl n dj bad).2,()))
 |0,dj,bad,_,_=>by
  refine .last ?_
  rw[DX,decide_eq_false (by omega)]
  rfl
 |n+1,dj,bad,hn,h=>by
  have e:((n+1:Nat):Int) - 1=(n:Int):=by omega
  rw[e]
  have es:bN .i64 (n:Int) 1=(n:Int) - 1:=by
   show eX .i64 ((n:Int) - 1)=_
   exact wrap_i64 (by omega) (by omega)
  refine .more ?_ (HU t im fs tb me gl ex st el co da lo bl L hL n (e9 dj bl bad (L.getD n (aq i64))).2.1 (e9 dj bl bad (L.getD n (aq i64))).2.2 (by omega) (NY _ _ h))
  rw[DX,decide_eq_true (show(0:Int)<=(n:Int) by omega),cN (show n<L.length by omega),h,Int.toNat_natCast,es]
  rfl
def g71:aj VZ->T (Nat×List Pl):=fun x=>match x with
 |(t,im,fs,tb,me,gl,ex,st,el,co,da,lo,dj,bl,bad,L,i,_)=>.ck ((decide (i=bN .i64 (L.length:Int) 1)&&decide (L.length<=1099511627776))&&okW dj bl) (.ok (0,aB xh (t,im,fs,tb,me,gl,ex,st,el,co,da,lo,(rV L bl L.length dj bad).1,bl,(rV L bl L.length dj bad).2,())))
theorem Zo(x:aj VZ)(k:Nat)(q:List Pl)(h:(g71 x).val=some (k,q)):gM (Zm.step (fun _=>none) (dG e71 3) 3) (aB VZ x) k q:=by
 obtain⟨t,im,fs,tb,me,gl,ex,st,el,co,da,lo,dj,bl,bad,L,i,⟨⟩⟩:=x
 obtain⟨h1,h2⟩:=Lf.T.aX h
 cases h2
 simp only[Bool.and_eq_true,decide_eq_true_eq]at h1
 obtain⟨⟨b1,b2⟩,b3⟩:=h1
 have es:bN .i64 (L.length:Int) 1=(L.length:Int) - 1:=by
  show eX .i64 ((L.length:Int) - 1)=_
  exact wrap_i64 (by omega) (by omega)
 rw[es]at b1
 subst b1
 exact HU t im fs tb me gl ex st el co da lo bl L b2 L.length dj bad (Nat.le_refl _) b3
def L71:Nat->Option fD:=qg [(0,pK Zm VZ g71)]
def s71:cQ:=iw (Ps [jG 0,.im i64]) [14] (Ps [.tu .nil,jG 14]) To xh fun x=>match x with
 |(t,im,fs,tb,me,gl,ex,st,el,co,da,lo,dj,bl,bad,L,_)=>.ck (decide (L.length<=1099511627776)&&okW dj bl) (.ok (t,im,fs,tb,me,gl,ex,st,el,co,da,lo,(rV L bl L.length dj bad).1,bl,(rV L bl L.length dj bad).2,()))
theorem Zp(t:List (den aI))(im:List (den aQ))(fs:List Int)(tb me:List (den ak))(gl:List (den aC))(ex:List (den aP))(st:Int)(el:List (den aG))(co:List (den aK))(da:List (den aD))(lo dj:List Int)(bl:List (den cw))(bad:Bool)(L:List Int):(ja (Ps [jG 0,.im i64]) [14] (Ps [.tu .nil,jG 14]) L71 Tryz.x90 3 (dG e71 3) (aB To (t,im,fs,tb,me,gl,ex,st,el,co,da,lo,dj,bl,bad,L,()))).val=
 bif (decide (bN .i64 (L.length:Int) 1=bN .i64 (L.length:Int) 1)&&decide (L.length<=1099511627776))&&okW dj bl then some (aB xh (t,im,fs,tb,me,gl,ex,st,el,co,da,lo,(rV L bl L.length dj bad).1,bl,(rV L bl L.length dj bad).2,()))else none:=by kernel_rfl
theorem Gg{ao:aA}(W:World ao):s71.Ok 90 ao:=by
 have C:=W.in (Zn W) 3
 have hl:ep Rx.w (pK Zm VZ g71) (fun n d=>gy (ao n d) n (.bl 0 (.lp Zm.body))):=iH C (aE _) (m:=3) Zo
 refine dD C (W.st 90 _ rfl) rfl (L:=L71) (fx.jq (.cons (b:=Zm.body) (by kernel_rfl) hl .nil)) (m:=3) rfl ?_
 rintro⟨t,im,fs,tb,me,gl,ex,st,el,co,da,lo,dj,bl,bad,L,⟨⟩⟩ q h
 obtain⟨h1,h2⟩:=Lf.T.aX h
 cases h2
 rw[Zp,decide_eq_true (rfl:bN .i64 (L.length:Int) 1=bN .i64 (L.length:Int) 1),Bool.true_and,h1]
 rfl
def s72:cQ:=iw (Ps [jG 0,.im i64]) [14] (Ps [.tu .nil,jG 14]) To xh fun x=>match x with
 |(t,im,fs,tb,me,gl,ex,st,el,co,da,lo,dj,bl,bad,L,_)=>.ck (decide (dj.length+L.length<=1099511627776)) (.ok (t,im,fs,tb,me,gl,ex,st,el,co,da,lo,dj++L,bl,bad,()))
theorem Zq(t:List (den aI))(im:List (den aQ))(fs:List Int)(tb me:List (den ak))(gl:List (den aC))(ex:List (den aP))(st:Int)(el:List (den aG))(co:List (den aK))(da:List (den aD))(lo dj:List Int)(bl:List (den cw))(bad:Bool)(L:List Int):(ja (Ps [jG 0,.im i64]) [14] (Ps [.tu .nil,jG 14]) (fun _=>none) Tryz.x91 3 (dG [] 3) (aB To (t,im,fs,tb,me,gl,ex,st,el,co,da,lo,dj,bl,bad,L,()))).val=
 bif roomy 8 (dj.length+L.length)then some (aB xh (t,im,fs,tb,me,gl,ex,st,el,co,da,lo,app dj L,bl,bad,()))else none:=by kernel_rfl
theorem yQ{ao:aA}(W:World ao):s72.Ok 91 ao:=by
 refine dD (W.in .nil 3) (W.st 91 _ rfl) rfl (aE _) (m:=3) rfl ?_
 rintro⟨t,im,fs,tb,me,gl,ex,st,el,co,da,lo,dj,bl,bad,L,⟨⟩⟩ q h
 obtain⟨h1,h2⟩:=Lf.T.aX h
 cases h2
 rw[Zq,bO (by omega) (of_decide_eq_true h1),bp]
 rfl
def uE(b:den cw):den cw:=(b.1,b.2.1,b.2.2.1,b.2.2.2.1,true,b.2.2.2.2.2)
def s83:cQ:=iw (Ps [jG 0]) [14] (Ps [.tu .nil,jG 14]) xh xh fun x=>match x with
 |(t,im,fs,tb,me,gl,ex,st,el,co,da,lo,dj,bl,bad,_)=>.ck (okW dj bl) (.ok (t,im,fs,tb,me,gl,ex,st,el,co,da,lo,dj.take (dy bl).2.1.toNat,bl.set (bl.length - 1) (uE (dy bl)),bad,()))
theorem Zr(t:List (den aI))(im:List (den aQ))(fs:List Int)(tb me:List (den ak))(gl:List (den aC))(ex:List (den aP))(st:Int)(el:List (den aG))(co:List (den aK))(da:List (den aD))(lo dj:List Int)(bl:List (den cw))(bad:Bool):(ja (Ps [jG 0]) [14] (Ps [.tu .nil,jG 14]) (fun _=>none) Tryz.Yn 3 (dG [] 3) (aB xh (t,im,fs,tb,me,gl,ex,st,el,co,da,lo,dj,bl,bad,()))).val=
 bif bm (bN .i64 (Int.ofNat bl.length) 1) (Int.ofNat bl.length)then bif dV 0 (bl.getD (bN .i64 (Int.ofNat bl.length) 1).toNat (aq cw)).2.1 (Int.ofNat dj.length)then
  some (aB xh (t,im,fs,tb,me,gl,ex,st,el,co,da,lo,(dj.drop 0).take ((bl.getD (bN .i64 (Int.ofNat bl.length) 1).toNat (aq cw)).2.1.toNat - 0),bl.set (bN .i64 (Int.ofNat bl.length) 1).toNat (uE (bl.getD (bN .i64 (Int.ofNat bl.length) 1).toNat (aq cw))),bad,()))else none else none:=by kernel_rfl
theorem Zs{ao:aA}(W:World ao):s83.Ok 104 ao:=by
 refine dD (W.in .nil 3) (W.st 104 _ rfl) rfl (aE _) (m:=3) rfl ?_
 rintro⟨t,im,fs,tb,me,gl,ex,st,el,co,da,lo,dj,bl,bad,⟨⟩⟩ q h
 obtain⟨h1,h2⟩:=Lf.T.aX h
 cases h2
 unfold okW at h1
 simp only[Bool.and_eq_true,decide_eq_true_eq]at h1
 obtain⟨⟨b1,b2,b3⟩,b4,b5⟩:=h1
 have hb:bm ((bl.length - 1:Nat):Int) (bl.length:Int)=true:=cN (by omega)
 rw[Zr,show Int.ofNat bl.length=(bl.length:Int)from rfl,show Int.ofNat dj.length=(dj.length:Int)from rfl,BB b1 (by omega),Int.toNat_natCast,hb,cond_true]
 have hc:dV 0 (dy bl).2.1 (dj.length:Int)=true:=by unfold dV;simp;omega
 show(bif dV 0 (dy bl).2.1 (dj.length:Int)then _ else _)=_
 rw[hc,List.drop_zero,Nat.sub_zero]
 rfl
end Go.Proofs.Vd

noncomputable section
namespace Go.Proofs.Vd
open Go.Ab Go.Ab.Lf
set_option maxRecDepth 100000
def V0:cQ:=iw (Ps [.im i64]) [] (Ps [.ow i64]) [.ae i64] [.ae i64] fun x=>.ck (decide (x.1.length<=1099511627776)) (.ok (x.1,()))
structure WorldC(V:ByteArray->Bool)(ao:aA):Prop extends WorldV V ao where
 cl:V0.Ok 32 ao
abbrev V1:List Ty:=[.ae aI,.ae aQ,.ae i64,.ae ak,.ae ak,.ae aC,.ae aP,i64,.ae aG,.ae aK,.ae aD,i64]
abbrev BK:List Ty:=[.ae i64,.ae i64,.bool]
abbrev qSg:jT:=Ps [.tu (Ps [.ag (Ps [.ow i64,.ow i64]),.bo])]
def dP(t:List (den aI))(k:Int):Bool:= !(bif decide (k<0)then true else decide ((t.length:Int)<=k))
def cb(t:List (den aI))(k:Int):den aI:=bif dP t k then t.getD k.toNat (aq aI)else([],[])
def gT(t:List (den aI)):Bool:=List.all t fun s=>decide (List.length s.1<=1099511627776)&&decide (List.length s.2<=1099511627776)
def s21:cQ:=iw (Ps [pM,.n .i64]) [] qSg V1 BK fun x=>match x with
 |(t,im,fs,tb,me,gl,ex,st,el,co,da,k,_)=>.ck (gT t) (.ok ((cb t k).1,(cb t k).2,dP t k,()))
def e21:List (Nat×cQ):=[(32,V0)]
theorem Zt{V:ByteArray->Bool}{ao:aA}(W:WorldC V ao):dc ao e21:=.cons W.cl .nil
theorem Zu(t:List (den aI))(im:List (den aQ))(fs:List Int)(tb me:List (den ak))(gl:List (den aC))(ex:List (den aP))(st:Int)(el:List (den aG))(co:List (den aK))(da:List (den aD))(k:Int):(ja (Ps [pM,.n .i64]) [] qSg (fun _=>none) Tryz.x85 3 (dG e21 3) (aB V1 (t,im,fs,tb,me,gl,ex,st,el,co,da,k,()))).val=
 bif (bif decide (k<0)then true else decide ((t.length:Int)<=k))then some (aB BK ([],[],false,()))else aT (bm k (Int.ofNat t.length)) (aT (decide ((t.getD k.toNat (aq aI)).1.length<=1099511627776)) (aT (decide ((t.getD k.toNat (aq aI)).2.length<=1099511627776)) (some (aB BK ((t.getD k.toNat (aq aI)).1,(t.getD k.toNat (aq aI)).2,true,()))))):=by kernel_rfl
theorem Gh{V:ByteArray->Bool}{ao:aA}(W:WorldC V ao):s21.Ok 85 ao:=by
 refine dD (W.toWorld.in (Zt W) 3) (W.st 85 _ rfl) rfl (aE _) (m:=3) rfl ?_
 rintro⟨t,im,fs,tb,me,gl,ex,st,el,co,da,k,⟨⟩⟩ q h
 obtain⟨h0,h⟩:=Lf.T.aX h
 cases h
 rw[Zu]
 unfold cb dP
 by_cases h1:k<0
 ·rw[decide_eq_true h1];rfl
 ·by_cases h2:(t.length:Int)<=k
  ·rw[decide_eq_false h1,decide_eq_true h2];rfl
  ·have hx:bm k (Int.ofNat t.length)=true:=iF.2 ⟨Int.not_lt.1 h1,Int.not_le.1 h2⟩
   have hm:(t.getD k.toNat (aq aI))∈t:=by
    have key: ∀ (k:Int) (n:Nat),¬ k<0-> ¬ (n:Int)<=k->k.toNat<n:=fun k n _ _=>by omega
    have:k.toNat<t.length:=key k _ h1 h2
    rw[List.getD_eq_getElem?_getD,List.getElem?_eq_getElem this]
    exact List.getElem_mem this
   unfold gT at h0
   have h0:=List.all_eq_true.1 h0 _ hm
   rw[Bool.and_eq_true]at h0
   rw[decide_eq_false h1,decide_eq_false h2,hx,h0.1,h0.2];rfl
def iK(bl:List (den cw))(l:Int):List Int:=bif decide ((bl.length:Int)<=l)then []else
 let b:=bl.getD (bN .i64 (bN .i64 (Int.ofNat bl.length) 1) l).toNat (aq cw)
 bif decide (b.1=3)then b.2.2.1 else b.2.2.2.1
theorem ai9{k:Int}{n:Nat}(h1:(n:Int)<=k)(h2:k<9223372036854775808):0<=bN .i64 k (n:Int):=by
 have es:bN .i64 k (n:Int)=k - (n:Int):=by
  show eX .i64 (k - (n:Int))=_
  exact wrap_i64 (by omega) (by omega)
 rw[es]
 omega
def dR(im:List (den aQ))(fs:List Int)(k:Int):Int:=
 bif (bif decide (0<=k)then decide (k<(im.length:Int))else false)then(im.getD k.toNat (aq aQ)).2.2 else
 bif (bif decide ((im.length:Int)<=k)then decide (bN .i64 k (im.length:Int)<(fs.length:Int))else false)then fs.getD (bN .i64 k (im.length:Int)).toNat (aq i64)else -1
def s10:cQ:=iw (Ps [pM,.n .i64]) [] qSg V1 BK fun x=>match x with
 |(t,im,fs,tb,me,gl,ex,st,el,co,da,k,_)=>.ck (gT t&&(decide (k<9223372036854775808)&&decide (im.length<=1099511627776))) (.ok ((cb t (dR im fs k)).1,(cb t (dR im fs k)).2,dP t (dR im fs k),()))
def e10:List (Nat×cQ):=[(85,s21)]
theorem Zv{V:ByteArray->Bool}{ao:aA}(W:WorldC V ao):dc ao e10:=.cons (Gh W) .nil
theorem Zw(t:List (den aI))(im:List (den aQ))(fs:List Int)(tb me:List (den ak))(gl:List (den aC))(ex:List (den aP))(st:Int)(el:List (den aG))(co:List (den aK))(da:List (den aD))(k:Int):(ja (Ps [pM,.n .i64]) [] qSg (fun _=>none) Tryz.x70 3 (dG e10 3) (aB V1 (t,im,fs,tb,me,gl,ex,st,el,co,da,k,()))).val=
 bif (bif decide (0<=k)then decide (k<(im.length:Int))else false)then aT (bm k (Int.ofNat im.length)) (aT (gT t) (some (aB BK ((cb t (im.getD k.toNat (aq aQ)).2.2).1,(cb t (im.getD k.toNat (aq aQ)).2.2).2,dP t (im.getD k.toNat (aq aQ)).2.2,()))))
 else bif (bif decide ((im.length:Int)<=k)then decide (bN .i64 k (im.length:Int)<(fs.length:Int))else false)then aT (bm (bN .i64 k (im.length:Int)) (Int.ofNat fs.length)) (aT (gT t) (
  some (aB BK ((cb t (fs.getD (bN .i64 k (im.length:Int)).toNat (aq i64))).1,(cb t (fs.getD (bN .i64 k (im.length:Int)).toNat (aq i64))).2,dP t (fs.getD (bN .i64 k (im.length:Int)).toNat (aq i64)),()))))
 else aT (gT t)<|some (aB BK ((cb t (-1)).1,(cb t (-1)).2,dP t (-1),())):=by kernel_rfl
theorem BL{V:ByteArray->Bool}{ao:aA}(W:WorldC V ao):s10.Ok 70 ao:=by
 refine dD (W.toWorld.in (Zv W) 3) (W.st 70 _ rfl) rfl (aE _) (m:=3) rfl ?_
 rintro⟨t,im,fs,tb,me,gl,ex,st,el,co,da,k,⟨⟩⟩ q h
 obtain⟨h1,h2⟩:=Lf.T.aX h
 cases h2
 simp only[Bool.and_eq_true,decide_eq_true_eq]at h1
 obtain⟨b0,b1,b2⟩:=h1
 rw[Zw,b0]
 have goal: ∀ j:Int,j=dR im fs k->some (aB BK ((cb t j).1,(cb t j).2,dP t j,()))=some (aB BK ((cb t (dR im fs k)).1,(cb t (dR im fs k)).2,dP t (dR im fs k),())):=by
  rintro j rfl;rfl
 cases c1:(bif decide ((0:Int)<=k)then decide (k<(im.length:Int))else false)with
 |true=>
  have hx:bm k (Int.ofNat im.length)=true:=by
   rw[Bool.cond_false_right,Bool.and_eq_true,decide_eq_true_eq,decide_eq_true_eq]at c1
   exact iF.2 c1
  rw[hx]
  exact goal _ (by unfold dR;rw[c1];rfl)
 |false=>
  cases c2:(bif decide ((im.length:Int)<=k)then decide (bN .i64 k (im.length:Int)<(fs.length:Int))else false)with
  |true=>
   have hx:bm (bN .i64 k (im.length:Int)) (Int.ofNat fs.length)=true:=by
    rw[Bool.cond_false_right,Bool.and_eq_true,decide_eq_true_eq,decide_eq_true_eq]at c2
    exact iF.2 ⟨ai9 c2.1 b1,c2.2⟩
   rw[hx]
   exact goal _ (by unfold dR;rw[c1,c2];rfl)
  |false=>exact goal _ (by unfold dR;rw[c1,c2];rfl)
end Go.Proofs.Vd
