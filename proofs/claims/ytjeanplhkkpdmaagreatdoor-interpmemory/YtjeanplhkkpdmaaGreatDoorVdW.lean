import Derived.Test.YtjeanplhkkpdmaaGreatDoorVbI
noncomputable section
namespace Go.Proofs.Vd
open Go.Ab Go.Ab.Lf
set_option maxRecDepth 100000
abbrev St:=List Int×Bool
abbrev rA:= ∀ α:Type,St->(St->Option α)->Option α
def Wr(n:Nat)(F:rA):Prop:= ∀ s:St,s.1.length+n<=1099511627776-> ∃ s':St,s'.1.length<=s.1.length+n/\ ∀ α K,F α s K=K s'
theorem Wr.le{n m:Nat}{F:rA}(h:Wr n F)(hm:n<=m):Wr m F:=fun s hs=>by
 obtain⟨s',h1,h2⟩:=h s (by omega)
 exact⟨s',by omega,h2⟩
theorem Wr.seq{n m:Nat}{F G:rA}(h1:Wr n F)(h2:Wr m G):Wr (n+m) (fun α s K=>F α s fun s=>G α s K):=fun s hs=>by
 obtain⟨s1,a1,b1⟩:=h1 s (by omega)
 obtain⟨s2,a2,b2⟩:=h2 s1 (by omega)
 refine⟨s2,by omega,fun α K=>?_⟩
 show F α s _=_
 rw[b1,b2]
theorem Wr.bif{n:Nat}{c:Bool}{F G:rA}(h1:Wr n F)(h2:Wr n G):Wr n (fun α s K=>bif c then F α s K else G α s K):=by
 cases c
 ·exact h2
 ·exact h1
theorem Wr.nop:Wr 0 (fun _ s K=>K s):=fun s _=>⟨s,Nat.le_refl _,fun _ _=>rfl⟩
def mJ(c:Bool):rA:=fun _ s K=>K (s.1,s.2|| !c)
theorem kB(c:Bool):Wr 0 (mJ c):=fun s _=>⟨(s.1,s.2|| !c),Nat.le_refl _,fun _ _=>rfl⟩
def lM(l:List Int):rA:=fun _ s K=>cz (decide (s.1.length+l.length<=1099511627776)) (K (s.1++l,s.2))
theorem jV(l:List Int):Wr l.length (lM l):=fun s h=>⟨(s.1++l,s.2),by simp,fun _ K=>by unfold lM cz;rw[decide_eq_true h];rfl⟩
theorem rB(l:List Int): ∀ s:St,(iH s l).1.length<=s.1.length+10*l.length:=by
 induction l with
 |nil=>intro s;simp[iH]
 |cons x l ih=>
  intro s
  have:=ih (wU s x)
  have h:=nB (cE .u64 x)
  have e:iH s (x::l)=iH (wU s x) l:=rfl
  rw[e]
  have e2:(wU s x).1.length=s.1.length+(mH (cE .u64 x)).length:=by simp[wU]
  simp only[List.length_cons]
  omega
theorem A4(l:List Int): ∀ s:St,(jY s l).1.length=s.1.length+l.length:=by
 induction l with
 |nil=>intro s;simp[jY]
 |cons x l ih=>
  intro s
  have:=ih (sr s x)
  have e:jY s (x::l)=jY (sr s x) l:=rfl
  rw[e]
  have e2:(sr s x).1.length=s.1.length+1:=by simp[sr]
  simp only[List.length_cons]
  omega
def kZ(l:List Int):rA:=fun _ s K=>cz (decide (s.1.length+10*l.length<=1099511627776)) (K (iH s l))
theorem jZ(l:List Int):Wr (10*l.length) (kZ l):=fun s h=>⟨iH s l,rB l s,fun _ K=>by unfold kZ cz;rw[decide_eq_true h];rfl⟩
def vB(l:List Int):rA:=fun _ s K=>cz (decide (s.1.length+l.length<=1099511627776)) (K (jY s l))
theorem xS(l:List Int):Wr l.length (vB l):=fun s h=>⟨jY s l,Nat.le_of_eq (A4 l s),fun _ K=>by unfold vB cz;rw[decide_eq_true h];rfl⟩
def BV(l:List Int):rA:=fun _ s K=>cz (roomy 1 (s.1.length+l.length)) (K (app s.1 l,s.2))
theorem DS(l:List Int):Wr l.length (BV l):=fun s h=>⟨(s.1++l,s.2),by simp,fun _ K=>by unfold BV cz;rw[iE (by omega) h,cX];rfl⟩
def mW(F:rA)(s:St):St:=(F St s some).getD s
theorem CB{n:Nat}{F:rA}(h:Wr n F){s:St}(hs:s.1.length+n<=1099511627776):(mW F s).1.length<=s.1.length+n/\ ∀ α K,F α s K=K (mW F s):=by
 obtain⟨s',h1,h2⟩:=h s hs
 have e:mW F s=s':=by unfold mW;rw[h2];rfl
 rw[e]
 exact⟨h1,h2⟩
def wT(ok:Bool)(n:Nat)(F:rA):rA:=fun _ s K=>cz (ok&&decide (s.1.length+n<=1099511627776)) (K (mW F s))
theorem qd{ok:Bool}{n:Nat}{F:rA}(h:Wr n F)(ho:ok=true):Wr n (wT ok n F):=fun s hs=>⟨mW F s,(CB h hs).1,fun _ K=>by unfold wT cz;rw[ho,decide_eq_true hs];rfl⟩
abbrev k3(s:St):Option (List Pl):=some (cp [.ca u8,.bool] (s.1,s.2,()))
abbrev qW:lV:=Ps [.tu .nil,kQ 2]
def uN(A:lV)(ta:List Ty)(F:cb ta->rA)(wt:cb ta->Nat)(ok:cb ta->Bool):iK:=
 kf (.cons (kQ 0) A) [2] qW (.ca u8::.bool::ta) [.ca u8,.bool] fun x=>.ck (ok x.2.2&&decide (x.1.length+wt x.2.2<=1099511627776)) (.ok ((mW (F x.2.2) (x.1,x.2.1)).1,(mW (F x.2.2) (x.1,x.2.1)).2,()))
theorem kK{call:jH}{cf:cg}(C:rq call cf){f:FuncId}{b:xF}(hb:qa cf f b)(s7:Nat.ble b.ntmps 512=true){L:Nat->Option kE}(hL:nh Rx.w cf L b.code){m:Nat}{A:lV}{ta:List Ty}{F:cb ta->rA}{wt:cb ta->Nat}{ok:cb ta->Bool}
 (hW: ∀ y,ok y=true->Wr (wt y) (F y))(ht: ∀ b1 k y,(kO (.cons (kQ 0) A) [2] qW L b m call (cp (.ca u8::.bool::ta) (b1,k,y))).val=F y _ (b1,k) k3):(uN A ta F wt ok).Ok f cf:=by
 refine iI C hb s7 hL (m:=m) rfl ?_
 rintro⟨b1,k,y⟩ q h
 obtain⟨h1,h2⟩:=Lf.T.cy h
 cases h2
 simp only[Bool.and_eq_true,decide_eq_true_eq]at h1
 rw[ht]
 exact(CB (hW y h1.1) h1.2).2 _ k3
def M7(y:cb [.ca tI]):rA:=fun _ s K=>cz (sw y.1) (cz (roomy 1 (s.1.length+(ry y.1).length)) (K (app s.1 (ry y.1),s.2|| !(decide (rz y.1=0)))))
theorem xU(y:cb [.ca tI])(h:sw y.1=true):Wr (uz y.1) (M7 y):=fun s hs=>by
 have h':=h
 simp only[sw,Bool.and_eq_true,decide_eq_true_eq]at h'
 have hl:=A3 y.1 h'.1
 exact⟨(s.1++ry y.1,s.2|| !(decide (rz y.1=0))),by simp;omega,fun _ K=>by unfold M7 cz;rw[h,iE (by omega) (by omega),cX];rfl⟩
def s50:iK:=uN (Ps [.im tI]) [.ca tI] M7 (fun y=>uz y.1) (fun y=>sw y.1)
def e50:List (Nat×iK):=[(109,Wn),(164,s67)]
theorem acF{cf:cg}(W:World cf):jd cf e50:=.cons (tT W) (.cons (acE W) .nil)
theorem Qj{cf:cg}(W:World cf):s50.Ok 131 cf:=by
 refine kK (W.in (acF W) 3) (W.st 131 _ rfl) rfl (cu _) (m:=3) xU ?_
 rintro b k ⟨c,⟨⟩⟩
 kernel_rfl
end Go.Proofs.Vd

noncomputable section
namespace Go.Proofs.Vd
open Go.Ab Go.Ab.Lf
set_option maxRecDepth 100000
def gNo:Bool:=false
def CC(s:ByteArray):Bool:=decide (s.size<=9223372036854775807)&&gNo
def s66(V:ByteArray->Bool):iK:=kf (Ps [.st]) [] (Ps [.bo]) [.str] [.bool] fun x=>.ck (CC x.1) (.ok (V x.1,()))
structure WorldV(V:ByteArray->Bool)(cf:cg):Prop extends World cf where
 vs:(s66 V).Ok 163 cf
def eW:List (Nat×iK):=[(109,Wn),(112,s31),(113,s32),(114,s33),(131,s50)]
theorem J2{cf:cg}(W:World cf):jd cf eW:=.cons (tT W) (.cons (Ie W) (.cons (AU W) (.cons (P9 W) (.cons (Qj W) .nil))))
def F44(y:cb [i64,.bool,.ca tI]):rA:=fun α s K=>vB [y.1] α s fun s=>bif y.2.1 then lM [1] α s fun s=>wT (sw y.2.2.1) (uz y.2.2.1) (M7 y.2.2) α s K else lM [0] α s fun s=>wT (sw y.2.2.1) (uz y.2.2.1) (M7 y.2.2) α s K
def acG(y:cb [i64,.bool,.ca tI]):Nat:=1+(1+uz y.2.2.1)
theorem Qk(y:cb [i64,.bool,.ca tI])(h:sw y.2.2.1=true):Wr (acG y) (F44 y):=
 (xS [y.1]).seq (.bif ((jV [1]).seq (qd (xU y.2.2 h) h)) ((jV [0]).seq (qd (xU y.2.2 h) h)))
def s44:iK:=uN (Ps [.ag (Ps [.n .i64,.bo,.im tI])]) [i64,.bool,.ca tI] F44 acG fun y=>sw y.2.2.1
theorem acH{cf:cg}(W:World cf):s44.Ok 125 cf:=by
 refine kK (W.in (J2 W) 3) (W.st 125 _ rfl) rfl (cu _) (m:=3) Qk ?_
 rintro b k ⟨t,m,c,⟨⟩⟩
 kernel_rfl
def F41(y:cb [i64,i64,i64]):rA:=fun α s K=>mJ (decide (y.1<=y.2.2.1)) α s fun s=>bif decide (y.2.1= -1)then lM [0] α s fun s=>kZ [y.1] α s K else lM [1] α s fun s=>kZ [y.1,y.2.1] α s K
theorem DT(y:cb [i64,i64,i64]):Wr 21 (F41 y):=
 ((kB _).seq (.bif (((jV [0]).seq (jZ [y.1])).le (m:=21) (by simp)) ((jV [1]).seq (jZ [y.1,y.2.1])))).le (by simp)
def s41:iK:=uN (Ps [.ag (Ps [.n .i64,.n .i64]),.n .i64]) [i64,i64,i64] F41 (fun _=>21) fun _=>true
theorem acI{cf:cg}(W:World cf):s41.Ok 122 cf:=by
 refine kK (W.in (J2 W) 3) (W.st 122 _ rfl) rfl (cu _) (m:=3) (fun y _=>DT y) ?_
 rintro b k ⟨mi,ma,mo,⟨⟩⟩
 kernel_rfl
def TH(y:cb [u8,.ca u8,.bool]):rA:=fun α s K=>mJ (!y.2.2.1) α s fun s=>lM [y.1] α s fun s=>kZ [(y.2.1.length:Int)] α s fun s=>BV y.2.1 α s K
def yK(y:cb [u8,.ca u8,.bool]):Nat:=0+(1+(10+y.2.1.length))
theorem Il(y:cb [u8,.ca u8,.bool]):Wr (yK y) (TH y):=(kB _).seq ((jV [y.1]).seq ((jZ [(y.2.1.length:Int)]).seq (DS y.2.1)))
def s47:iK:=uN (Ps [.n .u8,kQ 0]) [u8,.ca u8,.bool] TH yK fun _=>true
theorem Im{cf:cg}(W:World cf):s47.Ok 128 cf:=by
 refine kK (W.in (J2 W) 3) (W.st 128 _ rfl) rfl (cu _) (m:=3) (fun y _=>Il y) ?_
 rintro b k ⟨id,b2,k2,⟨⟩⟩
 kernel_rfl
def ZB(s:ByteArray):List Int:=s.data.toList.map fun b=>Int.ofNat b.toNat
theorem J3(s:ByteArray):(ZB s).length=s.size:=by unfold ZB;rw[List.length_map];rfl
def Ql(V:ByteArray->Bool)(y:cb [.str]):rA:=fun α s K=>cz (CC y.1)<|mJ (V y.1) α s fun s=>kZ [(y.1.size:Int)] α s fun s=>BV (ZB y.1) α s K
def wW(y:cb [.str]):Nat:=10+y.1.size
theorem A5(V:ByteArray->Bool)(y:cb [.str])(hg:CC y.1=true):Wr (wW y) (Ql V y):=by
 have e:Ql V y=fun α s K=>mJ (V y.1) α s fun s=>kZ [(y.1.size:Int)] α s fun s=>BV (ZB y.1) α s K:=by
  unfold Ql
  rw[hg]
  rfl
 rw[e]
 refine((kB (V y.1)).seq ((jZ [(y.1.size:Int)]).seq (DS (ZB y.1)))).le ?_
 rw[J3]
 unfold wW
 simp only[List.length_cons,List.length_nil]
 omega
def s36(V:ByteArray->Bool):iK:=uN (Ps [.st]) [.str] (Ql V) wW fun y=>CC y.1
def e36(V:ByteArray->Bool):List (Nat×iK):=[(109,Wn),(113,s32),(163,s66 V)]
theorem acJ{V:ByteArray->Bool}{cf:cg}(W:WorldV V cf):jd cf (e36 V):=.cons (tT W.toWorld) (.cons (AU W.toWorld) (.cons W.vs .nil))
theorem acK{V:ByteArray->Bool}{cf:cg}(W:WorldV V cf):(s36 V).Ok 117 cf:=by
 refine kK (W.toWorld.in (acJ W) 3) (W.st 117 _ rfl) rfl (cu _) (m:=3) (fun y h=>A5 V y h) ?_
 rintro b k ⟨s,⟨⟩⟩
 kernel_rfl
def eV(V:ByteArray->Bool):List (Nat×iK):=[(109,Wn),(112,s31),(113,s32),(114,s33),(117,s36 V),(122,s41),(128,s47),(131,s50)]
theorem yn{V:ByteArray->Bool}{cf:cg}(W:WorldV V cf):jd cf (eV V):=.cons (tT W.toWorld) (.cons (Ie W.toWorld) (.cons (AU W.toWorld) (.cons (P9 W.toWorld) (.cons (acK W) (.cons (acI W.toWorld) (.cons (Im W.toWorld) (.cons (Qj W.toWorld) .nil)))))))
def R30(y:cb [.ca i64,.ca i64]):rA:=fun α s K=>lM [96] α s fun s=>kZ [(y.1.length:Int)] α s fun s=>vB y.1 α s fun s=>kZ [(y.2.1.length:Int)] α s fun s=>vB y.2.1 α s K
def F30(y:cb [.ca i64,.ca i64]):rA:=fun α s K=>bif decide ((y.1.length:Int)<=32)then mJ (decide ((y.2.1.length:Int)<=32)) α s fun s=>R30 y α s K else mJ false α s fun s=>R30 y α s K
def acL(y:cb [.ca i64,.ca i64]):Nat:=0+(1+(10+(y.1.length+(10+y.2.1.length))))
theorem Qm(y:cb [.ca i64,.ca i64]):Wr (1+(10+(y.1.length+(10+y.2.1.length)))) (R30 y):=(jV [96]).seq ((jZ [(y.1.length:Int)]).seq ((xS y.1).seq ((jZ [(y.2.1.length:Int)]).seq (xS y.2.1))))
theorem Qn(y:cb [.ca i64,.ca i64]):Wr (acL y) (F30 y):=.bif ((kB _).seq (Qm y)) ((kB _).seq (Qm y))
def s30:iK:=uN (Ps [.ag (Ps [.im i64,.im i64])]) [.ca i64,.ca i64] F30 acL fun _=>true
theorem acM{V:ByteArray->Bool}{cf:cg}(W:WorldV V cf):s30.Ok 111 cf:=by
 refine kK (W.toWorld.in (yn W) 3) (W.st 111 _ rfl) rfl (cu _) (m:=3) (fun y _=>Qn y) ?_
 rintro b k ⟨i,o,⟨⟩⟩
 kernel_rfl
def F35(V:ByteArray->Bool)(y:cb [.str,.str,i64]):rA:=fun α s K=>wT (CC y.1) (wW (y.1,())) (Ql V (y.1,())) α s fun s=>wT (CC y.2.1) (wW (y.2.1,())) (Ql V (y.2.1,())) α s fun s=>lM [0] α s fun s=>kZ [y.2.2.1] α s K
def acN(y:cb [.str,.str,i64]):Nat:=wW (y.1,())+(wW (y.2.1,())+(1+10))
theorem Qo(V:ByteArray->Bool)(y:cb [.str,.str,i64])(hg:(CC y.1&&CC y.2.1)=true):Wr (acN y) (F35 V y):=(qd (A5 V (y.1,()) (Bool.and_eq_true _ _▸hg).1) (Bool.and_eq_true _ _▸hg).1).seq ((qd (A5 V (y.2.1,()) (Bool.and_eq_true _ _▸hg).2) (Bool.and_eq_true _ _▸hg).2).seq ((jV [0]).seq (jZ [y.2.2.1])))
def s35(V:ByteArray->Bool):iK:=uN (Ps [.ag (Ps [.st,.st,.n .i64])]) [.str,.str,i64] (F35 V) acN fun y=>CC y.1&&CC y.2.1
theorem acO{V:ByteArray->Bool}{cf:cg}(W:WorldV V cf):(s35 V).Ok 116 cf:=by
 refine kK (W.toWorld.in (yn W) 3) (W.st 116 _ rfl) rfl (cu _) (m:=3) (fun y h=>Qo V y h) ?_
 rintro b k ⟨m,n,t,⟨⟩⟩
 kernel_rfl
def F38(y:cb [i64]):rA:=kZ [y.1]
def s38:iK:=uN (Ps [.n .i64]) [i64] F38 (fun _=>10) fun _=>true
theorem acP{V:ByteArray->Bool}{cf:cg}(W:WorldV V cf):s38.Ok 119 cf:=by
 refine kK (W.toWorld.in (yn W) 3) (W.st 119 _ rfl) rfl (cu _) (m:=3) (fun y _=>jZ [y.1]) ?_
 rintro b k ⟨n,⟨⟩⟩
 kernel_rfl
def F40(y:cb [i64,i64]):rA:=fun α s K=>lM [112] α s fun s=>wT true 21 (F41 (y.1,y.2.1,1024,())) α s K
theorem Qp(y:cb [i64,i64]):Wr 22 (F40 y):=(jV [112]).seq (qd (DT _) rfl)
def s40:iK:=uN (Ps [.ag (Ps [.n .i64,.n .i64])]) [i64,i64] F40 (fun _=>22) fun _=>true
theorem acQ{V:ByteArray->Bool}{cf:cg}(W:WorldV V cf):s40.Ok 121 cf:=by
 refine kK (W.toWorld.in (yn W) 3) (W.st 121 _ rfl) rfl (cu _) (m:=3) (fun y _=>Qp y) ?_
 rintro b k ⟨mi,ma,⟨⟩⟩
 kernel_rfl
def F42(y:cb [i64,i64]):rA:=wT true 21 (F41 (y.1,y.2.1,16,()))
def s42:iK:=uN (Ps [.ag (Ps [.n .i64,.n .i64])]) [i64,i64] F42 (fun _=>21) fun _=>true
theorem acR{V:ByteArray->Bool}{cf:cg}(W:WorldV V cf):s42.Ok 123 cf:=by
 refine kK (W.toWorld.in (yn W) 3) (W.st 123 _ rfl) rfl (cu _) (m:=3) (fun y _=>qd (DT _) rfl) ?_
 rintro b k ⟨mi,ma,⟨⟩⟩
 kernel_rfl
end Go.Proofs.Vd

noncomputable section
namespace Go.Proofs.Vd
open Go.Ab Go.Ab.Lf
set_option maxRecDepth 100000
abbrev tS(t:Ty):List Ty:=[.ca u8,.bool,u8,.ca u8,.bool,.ca t,i64,i64]
abbrev tSo:List Ty:=[.ca u8,.bool,u8,.ca u8,.bool]
def lS(x:xF)(f:FuncId)(t:Ty):oF:=⟨0,kP x.code 0,[0,1,4,10,33,34,35],Ps [kQ 2,.n .u8,.fn f .nil,kQ 0,.im t,.n .i64,.n .i64],[⟨.qS,[0,1,10],Ps [kQ 2,.n .u8,kQ 0]⟩]⟩
def vC{α:Type}(G:α->rA)(s:St)(l:List α):St:=l.foldl (fun s x=>mW (G x) s) s
def sx{α:Type}(wt:α->Nat)(l:List α):Nat:=l.foldr (fun x n=>wt x+n) 0
theorem tX{α:Type}(wt:α->Nat)(x:α)(l:List α):sx wt (x::l)=wt x+sx wt l:=rfl
structure Item(α:Type) where
 G:α->rA
 wt:α->Nat
 ok:α->Bool
 wr: ∀ x,ok x=true->Wr (wt x) (G x)
 pos: ∀ x,1<=wt x
theorem Item.len{α:Type}(A:Item α)(l:List α):l.length<=sx A.wt l:=by
 induction l with
 |nil=>exact Nat.le_refl _
 |cons x l ih=>rw[tX];have:=A.pos x;simp only[List.length_cons];omega
theorem Item.row{α:Type}(A:Item α)(l:List α)(h:iD A.ok l=true): ∀ s:St,s.1.length+sx A.wt l<=1099511627776->(vC A.G s l).1.length<=s.1.length+sx A.wt l:=by
 induction l with
 |nil=>intro s _;exact Nat.le_refl _
 |cons x l ih=>
  intro s hs
  obtain⟨h1,h2⟩:=nc h
  rw[tX]at hs ⊢
  have k:=(CB (A.wr x h1) (s:=s) (by omega)).1
  have:=ih h2 (mW (A.G x) s) (by omega)
  show(vC A.G (mW (A.G x) s) l).1.length<=_
  omega
def DU{t:Ty}(l:oF)(call:jH)(A:Item (den t)):Prop:= ∀ b k id b2 k2 (r:List (den t)) n i,(l.step (fun _=>none) call 3 (cp (tS t) (b,k,id,b2,k2,r,n,i,()))).val=
 bif decide (i<n)then bif ij i (Int.ofNat r.length)then bif (A.ok (r.getD i.toNat (cr t))&&decide (b2.length+A.wt (r.getD i.toNat (cr t))<=1099511627776))then
  some (Rs.next (cp (tS t) (b,k,id,(mW (A.G (r.getD i.toNat (cr t))) (b2,k2)).1,(mW (A.G (r.getD i.toNat (cr t))) (b2,k2)).2,r,n,iA .i64 i 1,())))else none else none else some (Rs.out 0 (cp tSo (b,k,id,b2,k2,())))
theorem WA{t:Ty}{l:oF}{call:jH}{A:Item (den t)}(hs:DU l call A)(b:List Int)(k:Bool)(id:Int)(b2:List Int)(k2:Bool)(r:List (den t))(h1:iD A.ok r=true)(h2:b2.length+sx A.wt r<=1099511627776):
 mm (l.step (fun _=>none) call 3) (cp (tS t) (b,k,id,b2,k2,r,(r.length:Int),0,())) 0 (cp tSo (b,k,id,(vC A.G (b2,k2) r).1,(vC A.G (b2,k2) r).2,())):=by
 have hl:=A.len r
 have:=LP (f:=l.step (fun _=>none) call 3) (l:=r) (fun(q:St) j=>cp (tS t) (b,k,id,q.1,q.2,r,(r.length:Int),(j:Int),())) (fun q x=>.inl (mW (A.G x) q)) (fun q=>(0,cp tSo (b,k,id,q.1,q.2,())))
  (fun q u=>iD A.ok u=true/\q.1.length+sx A.wt u<=1099511627776) (fun q j x u h hi=>by
  obtain⟨b2,k2⟩:=q
  obtain⟨e1,e2⟩:=iT h (cr t)
  obtain⟨a0,a3⟩:=hi
  obtain⟨a1,a2⟩:=nc a0
  rw[tX]at a3
  have hj:j<4611686018427387904:=by omega
  have a3:b2.length+(A.wt x+sx A.wt u)<=1099511627776:=a3
  have a4:b2.length+A.wt x<=1099511627776:=by omega
  have hm:=(CB (A.wr x a1) (s:=(b2,k2)) a4).1
  refine⟨?_,fun s' e=>?_⟩
  ·rw[hs,jq e1,cond_true,iX e1,cond_true,Int.toNat_natCast,e2,nQ hj,a1,decide_eq_true a4]
   rfl
  ·cases e
   refine⟨a2,?_⟩
   have hm:(mW (A.G x) (b2,k2)).1.length<=b2.length+A.wt x:=hm
   omega) (fun q j h hj hi=>by
  have:j=r.length:=by have:=List.drop_eq_nil_iff.1 h;omega
  subst this
  rw[hs,iQ (Nat.le_refl _)]
  rfl) r 0 (b2,k2) rfl (by omega) ⟨h1,h2⟩
 rw[j8]at this
 exact this
def gS{t:Ty}(A:Item (den t)):cb (tS t)->T (Nat×List Pl):=fun x=>.ck ((decide (x.2.2.2.2.2.2.1=(x.2.2.2.2.2.1.length:Int))&&decide (x.2.2.2.2.2.2.2.1=0))&&(iD A.ok x.2.2.2.2.2.1&&decide (x.2.2.2.1.length+sx A.wt x.2.2.2.2.2.1<=1099511627776)))
 (.ok (0,cp tSo (x.1,x.2.1,x.2.2.1,(vC A.G (x.2.2.2.1,x.2.2.2.2.1) x.2.2.2.2.2.1).1,(vC A.G (x.2.2.2.1,x.2.2.2.2.1) x.2.2.2.2.2.1).2,())))
theorem aht{t:Ty}{l:oF}{call:jH}{A:Item (den t)}(hs:DU l call A)(x:cb (tS t))(k:Nat)(q:List Pl)(h:(gS A x).val=some (k,q)):mm (l.step (fun _=>none) call 3) (cp (tS t) x) k q:=by
 obtain⟨b,bad,id,b2,k2,r,n,i,⟨⟩⟩:=x
 obtain⟨h1,h2⟩:=Lf.T.cy h
 cases h2
 simp only[Bool.and_eq_true,decide_eq_true_eq]at h1
 obtain⟨⟨b1,M5⟩,b3,b4⟩:=h1
 subst b1;subst M5
 exact WA hs b bad id b2 k2 r b3 b4
def FS{t:Ty}(A:Item (den t))(y:cb [u8,i64,.ca t]):rA:=fun α s K=>mJ (decide ((y.2.2.1.length:Int)<=y.2.1)) α s fun s=>bif decide ((y.2.2.1.length:Int)=0)then K s else
 cz (decide (([]:List Int).length+10*[(y.2.2.1.length:Int)].length<=1099511627776)) (
  let p:=iH ([],s.2) [(y.2.2.1.length:Int)]
  let q:=vC A.G p y.2.2.1
  cz ((decide ((y.2.2.1.length:Int)=(y.2.2.1.length:Int))&&decide ((0:Int)=0))&&(iD A.ok y.2.2.1&&decide (p.1.length+sx A.wt y.2.2.1<=1099511627776))) (wT true (yK (y.1,q.1,q.2,())) (TH (y.1,q.1,q.2,())) α s K))
def wtS{t:Ty}(A:Item (den t))(y:cb [u8,i64,.ca t]):Nat:=21+sx A.wt y.2.2.1
theorem ZC{t:Ty}(A:Item (den t))(y:cb [u8,i64,.ca t])(h:iD A.ok y.2.2.1=true):Wr (wtS A y) (FS A y):=by
 refine((kB (decide ((y.2.2.1.length:Int)<=y.2.1))).seq (n:=0) (m:=21+sx A.wt y.2.2.1) ?_).le (by unfold wtS;omega)
 refine .bif (Wr.nop.le (Nat.zero_le _)) ?_
 intro s hs
 have hp:=rB [(y.2.2.1.length:Int)] ([],s.2)
 have hp:(iH ([],s.2) [(y.2.2.1.length:Int)]).1.length<=10:=by simpa using hp
 have hq:=A.row y.2.2.1 h (iH ([],s.2) [(y.2.2.1.length:Int)]) (by omega)
 have c1:(iH ([],s.2) [(y.2.2.1.length:Int)]).1.length+sx A.wt y.2.2.1<=1099511627776:=by omega
 let q:=vC A.G (iH ([],s.2) [(y.2.2.1.length:Int)]) y.2.2.1
 have hq:q.1.length<=10+sx A.wt y.2.2.1:=Nat.le_trans hq (Nat.add_le_add_right hp _)
 have hw:yK (y.1,q.1,q.2,())<=21+sx A.wt y.2.2.1:=by show 0+(1+(10+q.1.length))<=_;omega
 obtain⟨s',a1,a2⟩:=(qd (Il (y.1,q.1,q.2,())) rfl).le hw s hs
 refine⟨s',a1,fun α K=>?_⟩
 refine Eq.trans ?_ (a2 α K)
 show cz _ (cz ((decide _&&decide _)&&(iD A.ok y.2.2.1&&decide _)) _)=_
 rw[h,decide_eq_true c1]
 simp only[decide_true,Bool.and_self]
 rfl
def sS{t:Ty}(f:FuncId)(A:Item (den t)):iK:=uN (Ps [.n .u8,.n .i64,.im t,.fn f .nil]) [u8,i64,.ca t] (FS A) (wtS A) fun y=>iD A.ok y.2.2.1
def eP:List (Nat×iK):=[(109,Wn),(113,s32),(128,s47)]
theorem ahu{cf:cg}(W:World cf):jd cf eP:=.cons (tT W) (.cons (AU W) (.cons (Im W) .nil))
def LS{t:Ty}(b:xF)(f:FuncId)(A:Item (den t)):Nat->Option kE:=tO [(0,so (lS b f t) (tS t) (gS A))]
theorem u6{cf:cg}(W:World cf){t:Ty}{f g:FuncId}{A:Item (den t)}{b:xF}{e:List (Nat×iK)}(he:jd cf e)(hb:bkD g=some b)(s7:Nat.ble b.ntmps 512=true)(hs:DU (lS b f t) (je e 3) A)
 (hL:jU Rx.w (so (lS b f t) (tS t) (gS A)) (fun n d=>ly (cf n d) n (.bl 0 (.lp (lS b f t).body)))->nh Rx.w cf (LS b f A) b.code)
 (ht: ∀ b1 k y,(kO (.cons (kQ 0) (Ps [.n .u8,.n .i64,.im t,.fn f .nil])) [2] qW (LS b f A) b 3 (je eP 3) (cp (.ca u8::.bool:: [u8,i64,.ca t]) (b1,k,y))).val=FS A y _ (b1,k) k3):(sS f A).Ok g cf:=
 kK (W.in (ahu W) 3) (W.st g _ hb) s7 (hL (lK (W.in he 3) (cu _) (m:=3) (aht hs))) (m:=3) (ZC A) ht
def A38:Item (den i64):=⟨fun x=>F38 (x,()),fun _=>10,fun _=>true,fun x _=>jZ [x],fun _=>by decide⟩
theorem ahv{V:ByteArray->Bool}{cf:cg}(W:WorldV V cf):(sS 119 A38).Ok 118 cf:=by
 refine u6 W.toWorld (b:=Tryz.abX) (e:=[(119,s38)]) (.cons (acP W) .nil) rfl rfl ?_ (fun h=>ku.nh (.cons (b:=(lS Tryz.abX 119 i64).body) (by kernel_rfl) h .nil)) ?_
 ·intro b k id b2 k2 r n i
  kernel_rfl
 ·rintro b k ⟨id,mo,r,⟨⟩⟩
  kernel_rfl
end Go.Proofs.Vd

noncomputable section
namespace Go.Proofs.Vd
open Go.Ab Go.Ab.Lf
set_option maxRecDepth 100000
def F46(V:ByteArray->Bool)(y:cb [.str,i64,i64]):rA:=fun α s K=>bif decide (0<=y.2.1)then(mJ (decide (y.2.1<=3)) α s fun s=>wT (CC y.1) (wW (y.1,())) (Ql V (y.1,())) α s fun s=>lM [cE .u8 y.2.1] α s fun s=>kZ [y.2.2.1] α s K)
 else(mJ false α s fun s=>wT (CC y.1) (wW (y.1,())) (Ql V (y.1,())) α s fun s=>lM [cE .u8 y.2.1] α s fun s=>kZ [y.2.2.1] α s K)
def acT(y:cb [.str,i64,i64]):Nat:=0+(wW (y.1,())+(1+10))
theorem Qq(V:ByteArray->Bool)(y:cb [.str,i64,i64])(hg:CC y.1=true):Wr (acT y) (F46 V y):=.bif ((kB _).seq ((qd (A5 V (y.1,()) hg) hg).seq ((jV [_]).seq (jZ [y.2.2.1])))) ((kB _).seq ((qd (A5 V (y.1,()) hg) hg).seq ((jV [_]).seq (jZ [y.2.2.1]))))
def s46(V:ByteArray->Bool):iK:=uN (Ps [.ag (Ps [.st,.n .i64,.n .i64])]) [.str,i64,i64] (F46 V) acT fun y=>CC y.1
theorem acU{V:ByteArray->Bool}{cf:cg}(W:WorldV V cf):(s46 V).Ok 127 cf:=by
 refine kK (W.toWorld.in (yn W) 3) (W.st 127 _ rfl) rfl (cu _) (m:=3) (fun y h=>Qq V y h) ?_
 rintro b k ⟨n,kd,ix,⟨⟩⟩
 kernel_rfl
def F49(y:cb [.ca tI,.ca i64]):rA:=fun α s K=>mJ (decide ((y.2.1.length:Int)<=1024)) α s fun s=>lM [0] α s fun s=>wT (sw y.1) (uz y.1) (M7 (y.1,())) α s fun s=>kZ [(y.2.1.length:Int)] α s fun s=>kZ y.2.1 α s K
def acV(y:cb [.ca tI,.ca i64]):Nat:=0+(1+(uz y.1+(10+10*y.2.1.length)))
theorem Qr(y:cb [.ca tI,.ca i64])(h:sw y.1=true):Wr (acV y) (F49 y):=(kB _).seq ((jV [0]).seq ((qd (xU (y.1,()) h) h).seq ((jZ [(y.2.1.length:Int)]).seq (jZ y.2.1))))
def s49:iK:=uN (Ps [.ag (Ps [.im tI,.im i64])]) [.ca tI,.ca i64] F49 acV fun y=>sw y.1
theorem acW{V:ByteArray->Bool}{cf:cg}(W:WorldV V cf):s49.Ok 130 cf:=by
 refine kK (W.toWorld.in (yn W) 3) (W.st 130 _ rfl) rfl (cu _) (m:=3) Qr ?_
 rintro b k ⟨c,fs,⟨⟩⟩
 kernel_rfl
def F54(y:cb [.ca tI,.ca u8]):rA:=fun α s K=>lM [0] α s fun s=>wT (sw y.1) (uz y.1) (M7 (y.1,())) α s fun s=>kZ [(y.2.1.length:Int)] α s fun s=>lM y.2.1 α s K
def acX(y:cb [.ca tI,.ca u8]):Nat:=1+(uz y.1+(10+y.2.1.length))
theorem Qs(y:cb [.ca tI,.ca u8])(h:sw y.1=true):Wr (acX y) (F54 y):=(jV [0]).seq ((qd (xU (y.1,()) h) h).seq ((jZ [(y.2.1.length:Int)]).seq (jV y.2.1)))
def s54:iK:=uN (Ps [.ag (Ps [.im tI,.im u8])]) [.ca tI,.ca u8] F54 acX fun y=>sw y.1
theorem acY{V:ByteArray->Bool}{cf:cg}(W:WorldV V cf):s54.Ok 135 cf:=by
 refine kK (W.toWorld.in (yn W) 3) (W.st 135 _ rfl) rfl (cu _) (m:=3) Qs ?_
 rintro b k ⟨c,fs,⟨⟩⟩
 kernel_rfl
abbrev cF:Ty:=.pair (.ca i64) (.ca i64)
abbrev cR:Ty:=.pair .str (.pair .str i64)
abbrev cq:Ty:=.pair i64 i64
abbrev cI:Ty:=.pair i64 (.pair .bool (.ca tI))
abbrev cQ:Ty:=.pair .str (.pair i64 i64)
abbrev cJ:Ty:=.pair (.ca tI) (.ca i64)
abbrev cK:Ty:=.pair (.ca i64) (.ca tI)
abbrev cN:Ty:=.pair (.ca tI) (.ca u8)
def A30:Item (den cF):=⟨fun x=>F30 (x.1,x.2,()),fun x=>acL (x.1,x.2,()),fun _=>true,fun x _=>Qn _,fun x=>by show 1<=0+(1+_);omega⟩
def A35(V:ByteArray->Bool):Item (den cR):=⟨fun x=>F35 V (x.1,x.2.1,x.2.2,()),fun x=>acN (x.1,x.2.1,x.2.2,()),fun x=>CC x.1&&CC x.2.1,fun x h=>Qo V (x.1,x.2.1,x.2.2,()) h,fun x=>by show 1<=wW _+(wW _+(1+10));omega⟩
def A40:Item (den cq):=⟨fun x=>F40 (x.1,x.2,()),fun _=>22,fun _=>true,fun x _=>Qp _,fun _=>by decide⟩
def A42:Item (den cq):=⟨fun x=>F42 (x.1,x.2,()),fun _=>21,fun _=>true,fun x _=>qd (DT _) rfl,fun _=>by decide⟩
def A44:Item (den cI):=⟨fun x=>F44 (x.1,x.2.1,x.2.2,()),fun x=>acG (x.1,x.2.1,x.2.2,()),fun x=>sw x.2.2,fun x h=>Qk _ h,fun x=>by show 1<=1+_;omega⟩
def A46(V:ByteArray->Bool):Item (den cQ):=⟨fun x=>F46 V (x.1,x.2.1,x.2.2,()),fun x=>acT (x.1,x.2.1,x.2.2,()),fun x=>CC x.1,fun x h=>Qq V (x.1,x.2.1,x.2.2,()) h,fun x=>by show 1<=0+(wW _+(1+10));omega⟩
def WB:Item (den cJ):=⟨fun x=>F49 (x.1,x.2,()),fun x=>acV (x.1,x.2,()),fun x=>sw x.1,fun x h=>Qr _ h,fun x=>by show 1<=0+(1+_);omega⟩
def WC:Item (den cN):=⟨fun x=>F54 (x.1,x.2,()),fun x=>acX (x.1,x.2,()),fun x=>sw x.1,fun x h=>Qs _ h,fun x=>by show 1<=1+_;omega⟩
theorem Qt{V:ByteArray->Bool}{cf:cg}(W:WorldV V cf):(sS 111 A30).Ok 110 cf:=by
 refine u6 W.toWorld (b:=Tryz.abT) (e:=[(111,s30)]) (.cons (acM W) .nil) rfl rfl ?_ (fun h=>ku.nh (.cons (b:=(lS Tryz.abT 111 cF).body) (by kernel_rfl) h .nil)) ?_
 ·intro b k id b2 k2 r n i
  kernel_rfl
 ·rintro b k ⟨id,mo,r,⟨⟩⟩
  kernel_rfl
theorem Qu{V:ByteArray->Bool}{cf:cg}(W:WorldV V cf):(sS 116 (A35 V)).Ok 115 cf:=by
 refine u6 W.toWorld (b:=Tryz.abW) (e:=[(116,s35 V)]) (.cons (acO W) .nil) rfl rfl ?_ (fun h=>ku.nh (.cons (b:=(lS Tryz.abW 116 cR).body) (by kernel_rfl) h .nil)) ?_
 ·intro b k id b2 k2 r n i
  kernel_rfl
 ·rintro b k ⟨id,mo,r,⟨⟩⟩
  kernel_rfl
theorem Qv{V:ByteArray->Bool}{cf:cg}(W:WorldV V cf):(sS 121 A40).Ok 120 cf:=by
 refine u6 W.toWorld (b:=Tryz.P5) (e:=[(121,s40)]) (.cons (acQ W) .nil) rfl rfl ?_ (fun h=>ku.nh (.cons (b:=(lS Tryz.P5 121 cq).body) (by kernel_rfl) h .nil)) ?_
 ·intro b k id b2 k2 r n i
  kernel_rfl
 ·rintro b k ⟨id,mo,r,⟨⟩⟩
  kernel_rfl
theorem Qw{V:ByteArray->Bool}{cf:cg}(W:WorldV V cf):(sS 123 A42).Ok 120 cf:=by
 refine u6 W.toWorld (b:=Tryz.P5) (e:=[(123,s42)]) (.cons (acR W) .nil) rfl rfl ?_ (fun h=>ku.nh (.cons (b:=(lS Tryz.P5 123 cq).body) (by kernel_rfl) h .nil)) ?_
 ·intro b k id b2 k2 r n i
  kernel_rfl
 ·rintro b k ⟨id,mo,r,⟨⟩⟩
  kernel_rfl
theorem Qx{V:ByteArray->Bool}{cf:cg}(W:WorldV V cf):(sS 125 A44).Ok 124 cf:=by
 refine u6 W.toWorld (b:=Tryz.abY) (e:=[(125,s44)]) (.cons (acH W.toWorld) .nil) rfl rfl ?_ (fun h=>ku.nh (.cons (b:=(lS Tryz.abY 125 cI).body) (by kernel_rfl) h .nil)) ?_
 ·intro b k id b2 k2 r n i
  kernel_rfl
 ·rintro b k ⟨id,mo,r,⟨⟩⟩
  kernel_rfl
theorem Qy{V:ByteArray->Bool}{cf:cg}(W:WorldV V cf):(sS 127 (A46 V)).Ok 126 cf:=by
 refine u6 W.toWorld (b:=Tryz.abZ) (e:=[(127,s46 V)]) (.cons (acU W) .nil) rfl rfl ?_ (fun h=>ku.nh (.cons (b:=(lS Tryz.abZ 127 cQ).body) (by kernel_rfl) h .nil)) ?_
 ·intro b k id b2 k2 r n i
  kernel_rfl
 ·rintro b k ⟨id,mo,r,⟨⟩⟩
  kernel_rfl
theorem Qz{V:ByteArray->Bool}{cf:cg}(W:WorldV V cf):(sS 130 WB).Ok 129 cf:=by
 refine u6 W.toWorld (b:=Tryz.ab0) (e:=[(130,s49)]) (.cons (acW W) .nil) rfl rfl ?_ (fun h=>ku.nh (.cons (b:=(lS Tryz.ab0 130 cJ).body) (by kernel_rfl) h .nil)) ?_
 ·intro b k id b2 k2 r n i
  kernel_rfl
 ·rintro b k ⟨id,mo,r,⟨⟩⟩
  kernel_rfl
theorem QA{V:ByteArray->Bool}{cf:cg}(W:WorldV V cf):(sS 135 WC).Ok 134 cf:=by
 refine u6 W.toWorld (b:=Tryz.ab2) (e:=[(135,s54)]) (.cons (acY W) .nil) rfl rfl ?_ (fun h=>ku.nh (.cons (b:=(lS Tryz.ab2 135 cN).body) (by kernel_rfl) h .nil)) ?_
 ·intro b k id b2 k2 r n i
  kernel_rfl
 ·rintro b k ⟨id,mo,r,⟨⟩⟩
  kernel_rfl
end Go.Proofs.Vd

noncomputable section
namespace Go.Proofs.Vd
open Go.Ab Go.Ab.Lf
set_option maxRecDepth 100000
abbrev pC2:lV:=.pt 0 (Ps [.im i64,.im tI])
abbrev TI:List Ty:=[.ca u8,.bool,.ca i64,.ca tI,.ca u8,.bool,i64,i64,i64]
abbrev yL:List Ty:=[.ca u8,.bool,.ca i64,.ca tI,.ca u8,.bool,i64,i64]
abbrev yM:List Ty:=[.ca u8,.bool,.ca i64,.ca tI,.ca u8,.bool,i64]
abbrev ac5:List Ty:=[.ca u8,.bool,.ca i64,.ca tI,.ca u8,.bool]
def Gs:oF:=⟨0,kP Tryz.P6.code 0,[0,3,4,5,19,20],Ps [kQ 2,pC2,kQ 0,.n .i64,.n .i64,.n .i64],[⟨.qS,[0,3,4,5],Ps [kQ 2,pC2,kQ 0,.n .i64]⟩]⟩
def Ip:oF:=⟨4,kP Tryz.P6.code 4,[0,3,4,7,8],Ps [kQ 2,pC2,kQ 0,.n .i64,.n .i64],[⟨.qS,[0,3,4,7,8],Ps [kQ 2,pC2,kQ 0,.n .i64,.n .i64]⟩]⟩
def Iq:oF:=⟨2,kP Tryz.P6.code 2,[0,3,4,7],Ps [kQ 2,pC2,kQ 0,.n .i64],[⟨.qS,[0,3,4],Ps [kQ 2,pC2,kQ 0]⟩]⟩
def QB(L:List Int)(r:Int)(j:Nat):Int:=bif (bif decide ((j:Int)=0)then true else !decide (L.getD (j:Int).toNat (cr i64)=L.getD (il .i64 (j:Int) 1).toNat (cr i64)))then iA .i64 r 1 else r
def jg(L:List Int)(r:Int):Int:=(List.range L.length).foldl (QB L) r
theorem CD(b:List Int)(k:Bool)(L:List Int)(c:List (den tI))(b2:List Int)(k2:Bool)(r n i:Int):(Gs.step (fun _=>none) (je eW 3) 3 (cp TI (b,k,L,c,b2,k2,r,n,i,()))).val=
 bif decide (i<n)then bif (bif decide (i=0)then true else(ij i (Int.ofNat L.length)&&ij (il .i64 i 1) (Int.ofNat L.length)))then
  bif (bif decide (i=0)then true else !decide (L.getD i.toNat (cr i64)=L.getD (il .i64 i 1).toNat (cr i64)))then some (Rs.next (cp TI (b,k,L,c,b2,k2,iA .i64 r 1,n,iA .i64 i 1,())))else some (Rs.next (cp TI (b,k,L,c,b2,k2,r,n,iA .i64 i 1,())))else none
 else some (Rs.out 0 (cp yM (b,k,L,c,b2,k2,r,()))):=by kernel_rfl
theorem QC(b:List Int)(k:Bool)(L:List Int)(c:List (den tI))(b2:List Int)(k2:Bool)(r:Int)(hL:L.length<=1099511627776):
 mm (Gs.step (fun _=>none) (je eW 3) 3) (cp TI (b,k,L,c,b2,k2,r,(L.length:Int),0,())) 0 (cp yM (b,k,L,c,b2,k2,jg L r,())):=by
 have:=LP (f:=Gs.step (fun _=>none) (je eW 3) 3) (l:=List.range L.length) (fun(q:Int) j=>cp TI (b,k,L,c,b2,k2,q,(L.length:Int),(j:Int),())) (fun q x=>.inl (QB L q x)) (fun q=>(0,cp yM (b,k,L,c,b2,k2,q,()))) (fun _ _=>True) (fun q j x u h _=>by
  obtain⟨e1,e2⟩:=iT h 0
  have e3:x=j:=by
   rw[<-e2,List.getD_eq_getElem?_getD,List.getElem?_eq_getElem e1]
   simp
  subst e3
  rw[List.length_range]at e1
  have hj:x<4611686018427387904:=by omega
  refine⟨?_,fun _ _=>trivial⟩
  rw[CD,jq e1,cond_true,nQ hj]
  have hc:(bif decide ((x:Int)=0)then true else(ij (x:Int) (Int.ofNat L.length)&&ij (il .i64 (x:Int) 1) (Int.ofNat L.length)))=true:=by
   by_cases h0:x=0
   ·subst h0;rfl
   ·rw[decide_eq_false (by omega),cond_false,iX e1,DL (by omega) (by omega),iX (by omega)]
    rfl
  rw[hc,cond_true]
  unfold QB
  cases(bif decide ((x:Int)=0)then true else !decide (L.getD (x:Int).toNat (cr i64)=L.getD (il .i64 (x:Int) 1).toNat (cr i64)))<;>rfl) (fun q j h hj _=>by
  have:j=L.length:=by have:=List.drop_eq_nil_iff.1 h;rw[List.length_range]at this hj;omega
  subst this
  rw[CD,iQ (Nat.le_refl _)]
  rfl) (List.range L.length) 0 r rfl (by rw[List.length_range];omega) trivial
 rw[j8]at this
 exact this
def ac6:cb TI->T (Nat×List Pl):=fun x=>.ck ((decide (x.2.2.2.2.2.2.2.1=(x.2.2.1.length:Int))&&decide (x.2.2.2.2.2.2.2.2.1=0))&&decide (x.2.2.1.length<=1099511627776)) (.ok (0,cp yM (x.1,x.2.1,x.2.2.1,x.2.2.2.1,x.2.2.2.2.1,x.2.2.2.2.2.1,jg x.2.2.1 x.2.2.2.2.2.2.1,())))
theorem WD(x:cb TI)(k:Nat)(q:List Pl)(h:(ac6 x).val=some (k,q)):mm (Gs.step (fun _=>none) (je eW 3) 3) (cp TI x) k q:=by
 obtain⟨b,bad,L,c,b2,k2,r,n,i,⟨⟩⟩:=x
 obtain⟨h1,h2⟩:=Lf.T.cy h
 cases h2
 simp only[Bool.and_eq_true,decide_eq_true_eq]at h1
 obtain⟨⟨b1,M5⟩,b3⟩:=h1
 subst b1;subst M5
 exact QC b bad L c b2 k2 r b3
def rD(L:List Int)(i:Nat):Nat->Nat->Nat
 |0,n=>n
 |k+1,n=>if i+n<L.length/\L.getD (i+n) (cr i64)=L.getD i (cr i64)then rD L i k (n+1)else n
theorem Gt(L:List Int)(i:Nat): ∀ (k n:Nat),i+n<=L.length->n<=rD L i k n/\i+rD L i k n<=L.length
 |0,n,h=>⟨Nat.le_refl _,h⟩
 |k+1,n,h=>by
  unfold rD
  split
  ·rename_i hc
   have:=Gt L i k (n+1) (by omega)
   omega
  ·exact⟨Nat.le_refl _,h⟩
theorem LX{i n:Nat}(h:i+n<4611686018427387904):iA .i64 (i:Int) (n:Int)=((i+n:Nat):Int):=by
 show ja .i64 ((i:Int)+(n:Int))=_
 rw[wrap_i64 (by omega) (by omega)]
 omega
theorem uA(b:List Int)(k:Bool)(L:List Int)(c:List (den tI))(b2:List Int)(k2:Bool)(i n:Int):(Ip.step (fun _=>none) (je eW 3) 3 (cp yL (b,k,L,c,b2,k2,i,n,()))).val=
 bif (bif decide (iA .i64 i n<Int.ofNat L.length)then(ij (iA .i64 i n) (Int.ofNat L.length)&&ij i (Int.ofNat L.length))else true)then
  bif (bif decide (iA .i64 i n<Int.ofNat L.length)then decide (L.getD (iA .i64 i n).toNat (cr i64)=L.getD i.toNat (cr i64))else false)then some (Rs.next (cp yL (b,k,L,c,b2,k2,i,iA .i64 n 1,())))else some (Rs.out 0 (cp yL (b,k,L,c,b2,k2,i,n,())))
 else none:=by kernel_rfl
theorem Gu(b:List Int)(k:Bool)(L:List Int)(c:List (den tI))(b2:List Int)(k2:Bool)(i:Nat)(hL:L.length<=1099511627776)(hi:i<L.length): ∀ (f n:Nat),i+n<=L.length->L.length<=i+n+f->
 mm (Ip.step (fun _=>none) (je eW 3) 3) (cp yL (b,k,L,c,b2,k2,(i:Int),(n:Int),())) 0 (cp yL (b,k,L,c,b2,k2,(i:Int),(rD L i f n:Nat),()))
 |0,n,h1,h2=>by
  refine .last ?_
  rw[uA,LX (by omega),show Int.ofNat L.length=(L.length:Int)from rfl,iQ (by omega)]
  rfl
 |f+1,n,h1,h2=>by
  by_cases hn:i+n<L.length
  ·have e0:((i:Nat):Int).toNat=i:=Int.toNat_natCast i
   by_cases hq:L.getD (i+n) (cr i64)=L.getD i (cr i64)
   ·refine .more (pl':=cp yL (b,k,L,c,b2,k2,(i:Int),((n+1:Nat):Int),())) ?_ ?_
    ·rw[uA,LX (by omega),iX hn,iX hi,Int.toNat_natCast,e0,show Int.ofNat L.length=(L.length:Int)from rfl,jq hn,decide_eq_true hq,nQ (by omega)]
     rfl
    ·have e:rD L i (f+1) n=rD L i f (n+1):=if_pos ⟨hn,hq⟩
     rw[e]
     exact Gu b k L c b2 k2 i hL hi f (n+1) (by omega) (by omega)
   ·refine .last ?_
    have e:rD L i (f+1) n=n:=if_neg (fun h=>hq h.2)
    rw[uA,LX (by omega),iX hn,iX hi,Int.toNat_natCast,e0,show Int.ofNat L.length=(L.length:Int)from rfl,jq hn,decide_eq_false hq,e]
    rfl
  ·refine .last ?_
   have e:rD L i (f+1) n=n:=if_neg (fun h=>hn h.1)
   rw[uA,LX (by omega),show Int.ofNat L.length=(L.length:Int)from rfl,iQ (by omega),e]
   rfl
def kR(L:List Int)(i:Int):Nat:=rD L i.toNat L.length 1
def ac7:cb yL->T (Nat×List Pl):=fun x=>.ck (((decide (0<=x.2.2.2.2.2.2.1)&&decide (x.2.2.2.2.2.2.1<(x.2.2.1.length:Int)))&&decide (x.2.2.2.2.2.2.2.1=1))&&decide (x.2.2.1.length<=1099511627776)) (.ok (0,cp yL (x.1,x.2.1,x.2.2.1,x.2.2.2.1,x.2.2.2.2.1,x.2.2.2.2.2.1,x.2.2.2.2.2.2.1,(kR x.2.2.1 x.2.2.2.2.2.2.1:Int),())))
theorem WE(x:cb yL)(k:Nat)(q:List Pl)(h:(ac7 x).val=some (k,q)):mm (Ip.step (fun _=>none) (je eW 3) 3) (cp yL x) k q:=by
 obtain⟨b,bad,L,c,b2,k2,i,n,⟨⟩⟩:=x
 obtain⟨h1,h2⟩:=Lf.T.cy h
 cases h2
 simp only[Bool.and_eq_true,decide_eq_true_eq]at h1
 obtain⟨⟨⟨b1,M5⟩,b3⟩,b4⟩:=h1
 subst b3
 obtain⟨j,rfl⟩:=Int.eq_ofNat_of_zero_le b1
 have M5:(j:Int)<(L.length:Int):=M5
 have:=Gu b bad L c b2 k2 j b4 (by omega) L.length 1 (by omega) (by omega)
 exact this
def tY(L:List Int):Nat->St->Nat->St
 |0,s,_=>s
 |k+1,s,i=>if i<L.length then tY L k (jY (iH s [(kR L (i:Int):Int)]) [L.getD i (cr i64)]) (i+kR L (i:Int))else s
theorem DV(L:List Int)(i:Nat)(h:i<L.length):1<=kR L (i:Int)/\i+kR L (i:Int)<=L.length:=Gt L i L.length 1 (by omega)
def WG:Nat->Option kE:=tO [(4,so Ip yL ac7)]
theorem xV(b:List Int)(k:Bool)(L:List Int)(c:List (den tI))(b2:List Int)(k2:Bool)(i:Int):(Iq.step WG (je eW 3) 3 (cp yM (b,k,L,c,b2,k2,i,()))).val=
 bif decide (i<Int.ofNat L.length)then bif ((decide (0<=i)&&decide (i<(L.length:Int)))&&decide ((1:Int)=1))&&decide (L.length<=1099511627776)then bif decide (b2.length+10*[(kR L i:Int)].length<=1099511627776)then bif ij i (Int.ofNat L.length)then
  bif decide ((iH (b2,k2) [(kR L i:Int)]).1.length+[L.getD i.toNat (cr i64)].length<=1099511627776)then some (Rs.next (cp yM (b,k,L,c,(jY (iH (b2,k2) [(kR L i:Int)]) [L.getD i.toNat (cr i64)]).1,(jY (iH (b2,k2) [(kR L i:Int)]) [L.getD i.toNat (cr i64)]).2,iA .i64 i (kR L i:Int),())))
  else none else none else none else none else some (Rs.out 0 (cp ac5 (b,k,L,c,b2,k2,()))):=by kernel_rfl
theorem A6(b:List Int)(k:Bool)(L:List Int)(c:List (den tI))(hL:L.length<=1099511627776): ∀ (f:Nat) (s:St) (i:Nat),i<=L.length->L.length<=i+f->s.1.length+11*(L.length - i)<=1099511627776->
 mm (Iq.step WG (je eW 3) 3) (cp yM (b,k,L,c,s.1,s.2,(i:Int),())) 0 (cp ac5 (b,k,L,c,(tY L f s i).1,(tY L f s i).2,()))/\(tY L f s i).1.length<=s.1.length+11*(L.length - i)
 |0,s,i,h1,h2,h3=>by
  refine⟨.last ?_,Nat.le_add_right _ _⟩
  rw[xV,show Int.ofNat L.length=(L.length:Int)from rfl,iQ (by omega)]
  rfl
 |f+1,s,i,h1,h2,h3=>by
  by_cases hi:i<L.length
  ·obtain⟨r1,r2⟩:=DV L i hi
   have hn:=rB [(kR L (i:Int):Int)] s
   have hn:(iH s [(kR L (i:Int):Int)]).1.length<=s.1.length+10:=by simpa using hn
   have hk:=A4 [L.getD i (cr i64)] (iH s [(kR L (i:Int):Int)])
   have hk:(jY (iH s [(kR L (i:Int):Int)]) [L.getD i (cr i64)]).1.length=(iH s [(kR L (i:Int):Int)]).1.length+1:=by simpa using hk
   obtain⟨a1,a2⟩:=A6 b k L c hL f (jY (iH s [(kR L (i:Int):Int)]) [L.getD i (cr i64)]) (i+kR L (i:Int)) r2 (by omega) (by omega)
   have e:tY L (f+1) s i=tY L f (jY (iH s [(kR L (i:Int):Int)]) [L.getD i (cr i64)]) (i+kR L (i:Int)):=if_pos hi
   rw[e]
   refine⟨.more ?_ a1,by omega⟩
   have c1:s.1.length+10*[(kR L (i:Int):Int)].length<=1099511627776:=by simp only[List.length_cons,List.length_nil];omega
   have c2:(iH s [(kR L (i:Int):Int)]).1.length+[L.getD i (cr i64)].length<=1099511627776:=by simp only[List.length_cons,List.length_nil];omega
   rw[xV,iX hi,Int.toNat_natCast,show Int.ofNat L.length=(L.length:Int)from rfl,jq hi,LX (by omega),decide_eq_true c1,decide_eq_true (show(0:Int)<=(i:Int) by omega),decide_eq_true hL]
   show(bif decide _ then _ else _)=_
   rw[decide_eq_true c2]
   rfl
  ·have e:tY L (f+1) s i=s:=if_neg hi
   rw[e]
   refine⟨.last ?_,Nat.le_add_right _ _⟩
   rw[xV,show Int.ofNat L.length=(L.length:Int)from rfl,iQ (by omega)]
   rfl
def yN(s:St)(L:List Int):St:=tY L L.length s 0
def ac8:cb yM->T (Nat×List Pl):=fun x=>.ck ((decide (x.2.2.2.2.2.2.1=0)&&decide (x.2.2.1.length<=1099511627776))&&decide (x.2.2.2.2.1.length+11*x.2.2.1.length<=1099511627776)) (.ok (0,cp ac5 (x.1,x.2.1,x.2.2.1,x.2.2.2.1,(yN (x.2.2.2.2.1,x.2.2.2.2.2.1) x.2.2.1).1,(yN (x.2.2.2.2.1,x.2.2.2.2.2.1) x.2.2.1).2,())))
theorem WH(x:cb yM)(k:Nat)(q:List Pl)(h:(ac8 x).val=some (k,q)):mm (Iq.step WG (je eW 3) 3) (cp yM x) k q:=by
 obtain⟨b,bad,L,c,b2,k2,i,⟨⟩⟩:=x
 obtain⟨h1,h2⟩:=Lf.T.cy h
 cases h2
 simp only[Bool.and_eq_true,decide_eq_true_eq]at h1
 obtain⟨⟨b1,M5⟩,b3⟩:=h1
 subst b1
 exact(A6 b bad L c M5 L.length (b2,k2) 0 (by omega) (by omega) (by simpa using b3)).1
def L52:Nat->Option kE:=tO [(0,so Gs TI ac6),(2,so Iq yM ac8)]
def F52(y:cb [.ca i64,.ca tI]):rA:=fun α s K=>mJ (decide ((y.1.length:Int)<=512)) α s fun s=>cz ((decide ((y.1.length:Int)=(y.1.length:Int))&&decide ((0:Int)=0))&&decide (y.1.length<=1099511627776))
 (kZ [jg y.1 0] α ([],false) fun q=>cz ((decide ((0:Int)=0)&&decide (y.1.length<=1099511627776))&&decide (q.1.length+11*y.1.length<=1099511627776)) (wT (sw y.2.1) (uz y.2.1) (M7 (y.2.1,())) α (yN q y.1) fun q=>mJ (!q.2) α s fun s=>kZ [(q.1.length:Int)] α s fun s=>BV q.1 α s K))
def DW(y:cb [.ca i64,.ca tI]):Nat:=20+11*y.1.length+uz y.2.1
theorem ac9(b:List Int)(k:Bool)(L:List Int)(c:List (den tI)):(kO (.cons (kQ 0) (Ps [.ag (Ps [.im i64,.im tI])])) [2] qW L52 Tryz.P6 3 (je eW 3) (cp (.ca u8::.bool:: [.ca i64,.ca tI]) (b,k,L,c,()))).val=F52 (L,c,()) _ (b,k) k3:=by kernel_rfl
end Go.Proofs.Vd

noncomputable section
namespace Go.Proofs.Vd
open Go.Ab Go.Ab.Lf
set_option maxRecDepth 100000
theorem Gv(s:St)(L:List Int)(hL:L.length<=1099511627776)(h:s.1.length+11*L.length<=1099511627776):(yN s L).1.length<=s.1.length+11*L.length:=
 (A6 [] false L [] hL L.length s 0 (by omega) (by omega) (by simpa using h)).2
theorem QD(y:cb [.ca i64,.ca tI])(h:sw y.2.1=true):Wr (DW y) (F52 y):=by
 refine((kB (decide ((y.1.length:Int)<=512))).seq (n:=0) (m:=DW y) ?_).le (by omega)
 intro s hs
 unfold DW at hs ⊢
 have hn:=rB [jg y.1 0] ([],false)
 have hn:(iH ([],false) [jg y.1 0]).1.length<=10:=by simpa using hn
 have hL:y.1.length<=1099511627776:=by omega
 have c1:(iH ([],false) [jg y.1 0]).1.length+11*y.1.length<=1099511627776:=by omega
 have hm:=Gv (iH ([],false) [jg y.1 0]) y.1 hL c1
 have c2:(yN (iH ([],false) [jg y.1 0]) y.1).1.length+uz y.2.1<=1099511627776:=by omega
 obtain⟨q,hq,eq⟩:=qd (xU (y.2.1,()) h) h (yN (iH ([],false) [jg y.1 0]) y.1) c2
 have hq:q.1.length<=(yN (iH ([],false) [jg y.1 0]) y.1).1.length+uz y.2.1:=hq
 obtain⟨s',hs',es⟩:=((kB (!q.2)).seq ((jZ [(q.1.length:Int)]).seq (DS q.1))).le (m:=20+11*y.1.length+uz y.2.1) (by simp only[List.length_cons,List.length_nil];omega) s hs
 refine⟨s',hs',fun α K=>?_⟩
 refine Eq.trans ?_ (es α K)
 show cz ((decide _&&decide _)&&decide _) (cz (decide (([]:List Int).length+10*[jg y.1 0].length<=1099511627776)) (cz ((decide _&&decide _)&&decide _) (wT (sw y.2.1) (uz y.2.1) (M7 (y.2.1,())) α (yN (iH ([],false) [jg y.1 0]) y.1) _)))=_
 rw[eq,decide_eq_true hL,decide_eq_true c1,decide_eq_true (show(y.1.length:Int)=(y.1.length:Int)from rfl)]
 rfl
def s52:iK:=uN (Ps [.ag (Ps [.im i64,.im tI])]) [.ca i64,.ca tI] F52 DW fun y=>sw y.2.1
theorem ac'{V:ByteArray->Bool}{cf:cg}(W:WorldV V cf):s52.Ok 133 cf:=by
 have C:=W.toWorld.in (J2 W.toWorld) 3
 have h0:jU Rx.w (so Gs TI ac6) (fun n d=>ly (cf n d) n (.bl 0 (.lp Gs.body))):=lK C (cu _) (m:=3) WD
 have h4:jU Rx.w (so Ip yL ac7) (fun n d=>ly (cf n d) n (.bl 4 (.lp Ip.body))):=lK C (cu _) (m:=3) WE
 have h2:jU Rx.w (so Iq yM ac8) (fun n d=>ly (cf n d) n (.bl 2 (.lp Iq.body))):=lK C (L:=WG) (ku.nh (.cons (b:=Ip.body) (by kernel_rfl) h4 .nil)) (m:=3) WH
 refine kK C (W.st 133 _ rfl) rfl (L:=L52) (ku.nh (.cons (b:=Gs.body) (by kernel_rfl) h0 (.cons (b:=Iq.body) (by kernel_rfl) h2 .nil))) (m:=3) QD ?_
 rintro b k ⟨L,c,⟨⟩⟩
 exact ac9 b k L c
def Ir:Item (den cK):=⟨fun x=>F52 (x.1,x.2,()),fun x=>DW (x.1,x.2,()),fun x=>sw x.2,fun x h=>QD _ h,fun x=>by show 1<=20+_+_;omega⟩
theorem QE{V:ByteArray->Bool}{cf:cg}(W:WorldV V cf):(sS 133 Ir).Ok 132 cf:=by
 refine u6 W.toWorld (b:=Tryz.ab1) (e:=[(133,s52)]) (.cons (ac' W) .nil) rfl rfl ?_ (fun h=>ku.nh (.cons (b:=(lS Tryz.ab1 133 cK).body) (by kernel_rfl) h .nil)) ?_
 ·intro b k id b2 k2 r n i
  kernel_rfl
 ·rintro b k ⟨id,mo,r,⟨⟩⟩
  kernel_rfl
end Go.Proofs.Vd

noncomputable section
namespace Go.Proofs.Vd
open Go.Ab Go.Ab.Lf
set_option maxRecDepth 100000
def ada(a b:jH):jH:=fun f args h=>match a f args h with
 | .bad=>b f args h
 |t=>t
theorem WJ{a b:jH}{cf:cg}(ha:rq a cf)(hb:rq b cf):rq (ada a b) cf:=by
 intro E f args ys H h v H' hv hH e
 unfold ada at e
 split at e
 ·exact hb E f args ys H h v H' hv hH e
 ·exact ha E f args ys H h v H' hv hH e
abbrev tM:List Ty:=[.ca cF,.ca cR,.ca i64,.ca cq,.ca cq,.ca cI,.ca cQ,i64,.ca cJ,.ca cK,.ca cN]
abbrev pM:lV:=.ag (Ps [.im cF,.im cR,.im i64,.im cq,.im cq,.im cI,.im cQ,.n .i64,.im cJ,.im cK,.im cN])
def e18(V:ByteArray->Bool):List (Nat×iK):=[(109,Wn),(110,sS 111 A30),(113,s32),(115,sS 116 (A35 V)),(118,sS 119 A38),(120,sS 121 A40),(124,sS 125 A44),(126,sS 127 (A46 V)),(128,s47),(129,sS 130 WB),(132,sS 133 Ir),(134,sS 135 WC)]
theorem adb{V:ByteArray->Bool}{cf:cg}(W:WorldV V cf):jd cf (e18 V):=
 .cons (tT W.toWorld) (.cons (Qt W) (.cons (AU W.toWorld) (.cons (Qu W) (.cons (ahv W) (.cons (Qv W) (.cons (Qx W) (.cons (Qy W) (.cons (Im W.toWorld) (.cons (Qz W) (.cons (QE W) (.cons (QA W) .nil)))))))))))
def c18(V:ByteArray->Bool):jH:=ada (je (e18 V) 3) (je [(120,sS 123 A42)] 3)
theorem ade{V:ByteArray->Bool}{cf:cg}(W:WorldV V cf):rq (c18 V) cf:=WJ (W.toWorld.in (adb W) 3) (W.toWorld.in (.cons (Qw W) .nil) 3)
def yO{t:Ty}(A:Item (den t))(id most:Int)(l:List (den t)):rA:=wT (iD A.ok l) (21+sx A.wt l) (FS A (id,most,l,()))
theorem nY{t:Ty}(A:Item (den t))(id most:Int)(l:List (den t))(h:iD A.ok l=true):Wr (21+sx A.wt l) (yO A id most l):=qd (ZC A (id,most,l,()) h) h
def WK(y:cb tM):rA:=fun α s K=>yO WB 9 512 y.2.2.2.2.2.2.2.2.1 α s fun s=>yO Ir 10 512 y.2.2.2.2.2.2.2.2.2.1 α s fun s=>yO WC 11 512 y.2.2.2.2.2.2.2.2.2.2.1 α s K
def F18(V:ByteArray->Bool)(y:cb tM):rA:=fun α s K=>mJ (decide ((y.2.2.1.length:Int)=(y.2.2.2.2.2.2.2.2.2.1.length:Int))) α s fun s=>
 yO A30 1 256 y.1 α s fun s=>yO (A35 V) 2 512 y.2.1 α s fun s=>yO A38 3 512 y.2.2.1 α s fun s=>yO A40 4 512 y.2.2.2.1 α s fun s=>yO A42 5 512 y.2.2.2.2.1 α s fun s=>yO A44 6 512 y.2.2.2.2.2.1 α s fun s=>yO (A46 V) 7 512 y.2.2.2.2.2.2.1 α s fun s=>
 mJ (decide (-1<=y.2.2.2.2.2.2.2.1)) α s fun s=>bif decide (0<=y.2.2.2.2.2.2.2.1)then
  kZ [y.2.2.2.2.2.2.2.1] α ([],false) fun p=>wT true (yK (8,p.1,p.2,())) (TH (8,p.1,p.2,())) α s fun s=>WK y α s K
 else WK y α s K
def WL(s:St):Option (List Pl):=bif s.2 then some (cp [.ca u8,i64] ([],1,()))else bif decide (16384<(s.1.length:Int))then some (cp [.ca u8,i64] ([],4,()))else some (cp [.ca u8,i64] (s.1,0,()))
def s0:St:=([0,97,115,109,1,0,0,0],false)
theorem adf(V:ByteArray->Bool)(y:cb tM):(kO (Ps [pM]) [] (Ps [.tu (Ps [.ow u8,.n .i64])]) (fun _=>none) Tryz.x81 3 (c18 V) (cp tM y)).val=F18 V y _ s0 WL:=by
 obtain⟨t,im,fs,tb,me,gl,ex,st,el,co,da,⟨⟩⟩:=y
 kernel_rfl
end Go.Proofs.Vd

noncomputable section
namespace Go.Proofs.Vd
open Go.Ab Go.Ab.Lf
set_option maxRecDepth 100000
def ZD(V:ByteArray->Bool)(y:cb tM):Bool:=
 (iD A30.ok y.1&&(iD (A35 V).ok y.2.1&&(iD A38.ok y.2.2.1&&(iD A40.ok y.2.2.2.1&&(iD A42.ok y.2.2.2.2.1&&(iD A44.ok y.2.2.2.2.2.1&&(iD (A46 V).ok y.2.2.2.2.2.2.1&&
 (iD WB.ok y.2.2.2.2.2.2.2.2.1&&(iD Ir.ok y.2.2.2.2.2.2.2.2.2.1&&iD WC.ok y.2.2.2.2.2.2.2.2.2.2.1)))))))))
def J4(y:cb tM):Nat:=(21+sx WB.wt y.2.2.2.2.2.2.2.2.1)+((21+sx Ir.wt y.2.2.2.2.2.2.2.2.2.1)+(21+sx WC.wt y.2.2.2.2.2.2.2.2.2.2.1))
def QF(V:ByteArray->Bool)(y:cb tM):Nat:=0+((21+sx A30.wt y.1)+((21+sx (A35 V).wt y.2.1)+((21+sx A38.wt y.2.2.1)+((21+sx A40.wt y.2.2.2.1)+((21+sx A42.wt y.2.2.2.2.1)+((21+sx A44.wt y.2.2.2.2.2.1)+((21+sx (A46 V).wt y.2.2.2.2.2.2.1)+(0+(21+J4 y)))))))))
def QG(n:Int):rA:=fun α s K=>kZ [n] α ([],false) fun p=>wT true (yK (8,p.1,p.2,())) (TH (8,p.1,p.2,())) α s K
theorem LY(n:Int):Wr 21 (QG n):=by
 intro s hs
 have hn:=rB [n] ([],false)
 have hn:(iH ([],false) [n]).1.length<=10:=by simpa using hn
 obtain⟨s',h1,h2⟩:=(qd (Il (8,(iH ([],false) [n]).1,(iH ([],false) [n]).2,())) rfl).le (m:=21) (by show 0+(1+(10+(iH ([],false) [n]).1.length))<=21;omega) s hs
 exact⟨s',h1,fun α K=>Eq.trans rfl (h2 α K)⟩
theorem J5(y:cb tM)(h1:iD WB.ok y.2.2.2.2.2.2.2.2.1=true)(h2:iD Ir.ok y.2.2.2.2.2.2.2.2.2.1=true)(h3:iD WC.ok y.2.2.2.2.2.2.2.2.2.2.1=true):Wr (J4 y) (WK y):=
 (nY WB 9 512 _ h1).seq ((nY Ir 10 512 _ h2).seq (nY WC 11 512 _ h3))
theorem QH(V:ByteArray->Bool)(y:cb tM)(h:ZD V y=true):Wr (QF V y) (F18 V y):=by
 unfold ZD at h
 simp only[Bool.and_eq_true]at h
 obtain⟨h1,h2,h3,h4,h5,h6,h7,h8,h9,WM⟩:=h
 exact(kB _).seq ((nY A30 1 256 _ h1).seq ((nY (A35 V) 2 512 _ h2).seq ((nY A38 3 512 _ h3).seq ((nY A40 4 512 _ h4).seq ((nY A42 5 512 _ h5).seq ((nY A44 6 512 _ h6).seq ((nY (A46 V) 7 512 _ h7).seq
  ((kB _).seq (.bif ((LY _).seq (J5 y h8 h9 WM)) ((J5 y h8 h9 WM).le (Nat.le_add_left _ _)))))))))))
def yP(V:ByteArray->Bool)(y:cb tM):St:=mW (F18 V y) s0
def rE(V:ByteArray->Bool)(y:cb tM):Int:=bif (yP V y).2 then 1 else bif decide (16384<((yP V y).1.length:Int))then 4 else 0
def ZE(V:ByteArray->Bool)(y:cb tM):List Int:=bif (yP V y).2 then []else bif decide (16384<((yP V y).1.length:Int))then []else(yP V y).1
def Is(V:ByteArray->Bool)(y:cb tM):Bool:=ZD V y&&decide (8+QF V y<=1099511627776)
theorem QI{V:ByteArray->Bool}{y:cb tM}(h:Is V y=true):(yP V y).1.length<=8+QF V y:=by
 unfold Is at h
 simp only[Bool.and_eq_true,decide_eq_true_eq]at h
 exact(CB (QH V y h.1) (s:=s0) h.2).1
def s18(V:ByteArray->Bool):iK:=kf (Ps [pM]) [] (Ps [.tu (Ps [.ow u8,.n .i64])]) tM [.ca u8,i64] fun y=>.ck (Is V y) (.ok (ZE V y,rE V y,()))
theorem adg{V:ByteArray->Bool}{cf:cg}(W:WorldV V cf):(s18 V).Ok 81 cf:=by
 refine iI (ade W) (W.st 81 _ rfl) rfl (cu _) (m:=3) rfl ?_
 intro y q h
 obtain⟨h1,h2⟩:=Lf.T.cy h
 cases h2
 rw[adf]
 unfold Is at h1
 simp only[Bool.and_eq_true,decide_eq_true_eq]at h1
 refine((CB (QH V y h1.1) (s:=s0) h1.2).2 _ WL).trans ?_
 show WL (yP V y)=_
 unfold WL ZE rE
 cases(yP V y).2 with
 |true=>rfl
 |false=>cases decide (16384<((yP V y).1.length:Int))<;>rfl
end Go.Proofs.Vd

noncomputable section
namespace Go.Proofs.Vd
open Go.Ab Go.Ab.Lf
set_option maxRecDepth 100000
def yQ(c:List (den tI))(t:Int):Bool:=bif !decide ((c.length:Int)=2)then false else
 let o:=(c.getD 0 (cr tI)).1
 bif decide (o=65)then decide (t=127)else bif decide (o=66)then decide (t=126)else bif decide (o=64780)then decide (t=123)else false
def s56:iK:=kf (Ps [.im tI,.n .i64]) [] (Ps [.bo]) [.ca tI,i64] [.bool] fun x=>.ok (yQ x.1 x.2.1,())
theorem It{cf:cg}(W:World cf):s56.Ok 137 cf:=by
 refine iI (W.in .nil 3) (W.st 137 _ rfl) rfl (cu _) (m:=3) rfl ?_
 rintro⟨c,t,⟨⟩⟩ q h
 cases h
 have e:(kO (Ps [.im tI,.n .i64]) [] (Ps [.bo]) (fun _=>none) Tryz.ahc 3 (je [] 3) (cp [.ca tI,i64] (c,t,()))).val=bif !decide ((c.length:Int)=2)then some (cp [.bool] (false,()))else bif ij 0 (Int.ofNat c.length)then
  bif decide ((c.getD 0 (cr tI)).1=65)then some (cp [.bool] (decide (t=127),()))else bif decide ((c.getD 0 (cr tI)).1=66)then some (cp [.bool] (decide (t=126),()))else bif decide ((c.getD 0 (cr tI)).1=64780)then some (cp [.bool] (decide (t=123),()))else some (cp [.bool] (false,()))else none:=by kernel_rfl
 rw[e]
 show _=some (cp [.bool] (yQ c t,()))
 unfold yQ
 dsimp only
 cases h2:decide ((c.length:Int)=2)with
 |false=>rfl
 |true=>
  have:(c.length:Int)=2:=of_decide_eq_true h2
  have hx:ij 0 (Int.ofNat c.length)=true:=iX (j:=0) (by omega)
  rw[hx]
  cases decide ((c.getD 0 (cr tI)).1=65)<;>cases decide ((c.getD 0 (cr tI)).1=66)<;>cases decide ((c.getD 0 (cr tI)).1=64780)<;>rfl
abbrev iF:Ty:=.pair i64 (.pair i64 (.pair (.ca i64) (.pair (.ca i64) (.pair .bool .bool))))
abbrev mV(g:Nat):lV:=.pt g (Ps [.im cF,.im cR,.im i64,.im cq,.im cq,.im cI,.im cQ,.n .i64,.im cJ,.im cK,.im cN,.ow i64,.ow i64,.ow iF,.bo])
abbrev zu:List Ty:=[.ca cF,.ca cR,.ca i64,.ca cq,.ca cq,.ca cI,.ca cQ,i64,.ca cJ,.ca cK,.ca cN,.ca i64,.ca i64,.ca iF,.bool]
abbrev LZ:List Ty:=[.ca cF,.ca cR,.ca i64,.ca cq,.ca cq,.ca cI,.ca cQ,i64,.ca cJ,.ca cK,.ca cN,.ca i64,.ca i64,.ca iF,.bool,i64]
abbrev adh:List Ty:=[i64,.ca cF,.ca cR,.ca i64,.ca cq,.ca cq,.ca cI,.ca cQ,i64,.ca cJ,.ca cK,.ca cN,.ca i64,.ca i64,.ca iF,.bool]
abbrev anv:List Ty:=[.ca cF,.ca cR,.ca i64,.ca cq,.ca cq,.ca cI,.ca cQ,i64,.ca cJ,.ca cK,.ca cN,.ca i64,.ca i64,.ca iF,.bool,.bool]
def ZF:iK:=kf (Ps [mV 0,.bo]) [14] (Ps [.tu .nil,mV 14]) anv zu fun x=>match x with
 |(t,im,fs,tb,me,gl,ex,st,el,co,da,lo,iR,bl,bad,ok,_)=>.ok (t,im,fs,tb,me,gl,ex,st,el,co,da,lo,iR,bl,bad|| !ok,())
theorem vD{cf:cg}(W:World cf):ZF.Ok 173 cf:=by
 refine iI (W.in .nil 3) (W.st 173 _ rfl) rfl (cu _) (m:=3) rfl ?_
 rintro⟨t,im,fs,tb,me,gl,ex,st,el,co,da,lo,iR,bl,bad,ok,⟨⟩⟩ q h
 cases h
 cases bad<;>kernel_rfl
def iY(bl:List (den iF)):den iF:=bl.getD (bl.length - 1) (cr iF)
def okW(iR:List Int)(bl:List (den iF)):Bool:=(decide (0<bl.length)&&(decide (bl.length<=1099511627776)&&decide (iR.length<=1099511627776)))&&(decide (0<=(iY bl).2.1)&&decide ((iY bl).2.1<=(iR.length:Int)))
def jQ(iR:List Int)(bl:List (den iF))(bad:Bool)(want:Int):Int×List Int×Bool:=
 bif decide ((iR.length:Int)=(iY bl).2.1)then(want,iR,bad|| !(iY bl).2.2.2.2.1)else
 let t:=iR.getD (iR.length - 1) (cr i64)
 (bif decide (t=0)then want else t,iR.take (iR.length - 1),bad|| !(bif decide (t=want)then true else bif decide (t=0)then true else decide (want=0)))
def s73:iK:=kf (Ps [mV 0,.n .i64]) [14] (Ps [.n .i64,mV 14]) LZ adh fun x=>match x with
 |(t,im,fs,tb,me,gl,ex,st,el,co,da,lo,iR,bl,bad,want,_)=>.ck (okW iR bl) (let y:=jQ iR bl bad want; .ok (y.1,t,im,fs,tb,me,gl,ex,st,el,co,da,lo,y.2.1,bl,y.2.2,()))
theorem A7{cf:cg}(W:World cf):s73.Ok 170 cf:=by
 refine iI (W.in .nil 3) (W.st 170 _ rfl) rfl (cu _) (m:=3) rfl ?_
 rintro⟨t,im,fs,tb,me,gl,ex,st,el,co,da,lo,iR,bl,bad,want,⟨⟩⟩ q h
 obtain⟨h1,h2⟩:=Lf.T.cy h
 cases h2
 unfold okW at h1
 simp only[Bool.and_eq_true,decide_eq_true_eq]at h1
 obtain⟨⟨b1,b2,b3⟩,b4,b5⟩:=h1
 let R (w:Int) (s:List Int) (b:Bool):Option (List Pl):=some (cp adh (w,t,im,fs,tb,me,gl,ex,st,el,co,da,lo,s,bl,b,()))
 have e: ∀ (B:den iF) (T:Int),B=bl.getD (il .i64 (Int.ofNat bl.length) 1).toNat (cr iF)->T=iR.getD (il .i64 (Int.ofNat iR.length) 1).toNat (cr i64)->
  (kO (Ps [mV 0,.n .i64]) [14] (Ps [.n .i64,mV 14]) (fun _=>none) Tryz.ahh 3 (je [] 3) (cp LZ (t,im,fs,tb,me,gl,ex,st,el,co,da,lo,iR,bl,bad,want,()))).val=
  bif ij (il .i64 (Int.ofNat bl.length) 1) (Int.ofNat bl.length)then bif decide (Int.ofNat iR.length=B.2.1)then(bif bad then R want iR true else R want iR (!B.2.2.2.2.1))else
   bif ij (il .i64 (Int.ofNat iR.length) 1) (Int.ofNat iR.length)then bif jy 0 (il .i64 (Int.ofNat iR.length) 1) (Int.ofNat iR.length)then
    let S:=(iR.drop 0).take ((il .i64 (Int.ofNat iR.length) 1).toNat - 0)
    let E:=fun b=>bif decide (T=0)then R want S b else R T S b
    bif decide (T=want)then(bif bad then E true else E (!true))else bif decide (T=0)then(bif bad then E true else E (!true))else(bif bad then E true else E (!decide (want=0)))
   else none else none else none:=by
  intro B T hB hT
  subst hB;subst hT
  kernel_rfl
 rw[e _ _ rfl rfl,show Int.ofNat bl.length=(bl.length:Int)from rfl,show Int.ofNat iR.length=(iR.length:Int)from rfl,DL b1 (by omega),Int.toNat_natCast]
 have hb:ij ((bl.length - 1:Nat):Int) (bl.length:Int)=true:=iX (by omega)
 rw[hb,cond_true]
 show(bif decide ((iR.length:Int)=(iY bl).2.1)then _ else _)=some (cp adh ((jQ iR bl bad want).1,t,im,fs,tb,me,gl,ex,st,el,co,da,lo,(jQ iR bl bad want).2.1,bl,(jQ iR bl bad want).2.2,()))
 unfold jQ
 cases hh:decide ((iR.length:Int)=(iY bl).2.1)with
 |true=>cases bad<;>rfl
 |false=>
  have nd: ¬ (iR.length:Int)=(iY bl).2.1:=of_decide_eq_false hh
  have hp:0<iR.length:=by omega
  have hs:ij ((iR.length - 1:Nat):Int) (iR.length:Int)=true:=iX (by omega)
  have hc:jy 0 ((iR.length - 1:Nat):Int) (iR.length:Int)=true:=by unfold jy;simp
  rw[DL hp (by omega),hs,hc,Int.toNat_natCast]
  simp only[cond_true,cond_false,List.drop_zero,Nat.sub_zero]
  cases decide (iR.getD (iR.length - 1) (cr i64)=want)<;>cases decide (iR.getD (iR.length - 1) (cr i64)=0)<;>cases bad<;>rfl
end Go.Proofs.Vd

noncomputable section
namespace Go.Proofs.Vd
open Go.Ab Go.Ab.Lf
set_option maxRecDepth 100000
theorem QJ{iR:List Int}{bl:List (den iF)}(bad:Bool)(want:Int)(h:okW iR bl=true):okW (jQ iR bl bad want).2.1 bl=true:=by
 have h0:=h
 unfold okW at h ⊢
 simp only[Bool.and_eq_true,decide_eq_true_eq]at h ⊢
 obtain⟨⟨b1,b2,b3⟩,b4,b5⟩:=h
 unfold jQ
 cases hh:decide ((iR.length:Int)=(iY bl).2.1)with
 |true=>exact⟨⟨b1,b2,b3⟩,b4,b5⟩
 |false=>
  have nd: ¬ (iR.length:Int)=(iY bl).2.1:=of_decide_eq_false hh
  simp only[cond_false,List.length_take]
  refine⟨⟨b1,b2,by omega⟩,b4,by omega⟩
def uO(L:List Int)(bl:List (den iF)):Nat->List Int->Bool->List Int×Bool
 |0,iR,bad=>(iR,bad)
 |n+1,iR,bad=>uO L bl n (jQ iR bl bad (L.getD n (cr i64))).2.1 (jQ iR bl bad (L.getD n (cr i64))).2.2
abbrev ZG:List Ty:=[.ca cF,.ca cR,.ca i64,.ca cq,.ca cq,.ca cI,.ca cQ,i64,.ca cJ,.ca cK,.ca cN,.ca i64,.ca i64,.ca iF,.bool,.ca i64,i64]
abbrev WN:List Ty:=[.ca cF,.ca cR,.ca i64,.ca cq,.ca cq,.ca cI,.ca cQ,i64,.ca cJ,.ca cK,.ca cN,.ca i64,.ca i64,.ca iF,.bool,.ca i64]
def l71:oF:=⟨0,kP Tryz.ab7.code 0,[0,1,4],Ps [mV 14,.im i64,.n .i64],[⟨.qS,[0],Ps [mV 14]⟩]⟩
def e71:List (Nat×iK):=[(170,s73),(173,ZF)]
theorem adj{cf:cg}(W:World cf):jd cf e71:=.cons (A7 W) (.cons (vD W) .nil)
theorem Gw(t:List (den cF))(im:List (den cR))(fs:List Int)(tb me:List (den cq))(gl:List (den cI))(ex:List (den cQ))(st:Int)(el:List (den cJ))(co:List (den cK))(da:List (den cN))(lo iR:List Int)(bl:List (den iF))(bad:Bool)(L:List Int)(i:Int):
 (l71.step (fun _=>none) (je e71 3) 3 (cp ZG (t,im,fs,tb,me,gl,ex,st,el,co,da,lo,iR,bl,bad,L,i,()))).val=
 bif decide (0<=i)then bif ij i (Int.ofNat L.length)then bif okW iR bl then some (Rs.next (cp ZG (t,im,fs,tb,me,gl,ex,st,el,co,da,lo,(jQ iR bl bad (L.getD i.toNat (cr i64))).2.1,bl,(jQ iR bl bad (L.getD i.toNat (cr i64))).2.2,L,il .i64 i 1,())))else none else none
 else some (Rs.out 0 (cp zu (t,im,fs,tb,me,gl,ex,st,el,co,da,lo,iR,bl,bad,()))):=by kernel_rfl
theorem J6(t:List (den cF))(im:List (den cR))(fs:List Int)(tb me:List (den cq))(gl:List (den cI))(ex:List (den cQ))(st:Int)(el:List (den cJ))(co:List (den cK))(da:List (den cN))(lo:List Int)(bl:List (den iF))(L:List Int)(hL:L.length<=1099511627776): ∀ (n:Nat) (iR:List Int) (bad:Bool),n<=L.length->okW iR bl=true->
 mm (l71.step (fun _=>none) (je e71 3) 3) (cp ZG (t,im,fs,tb,me,gl,ex,st,el,co,da,lo,iR,bl,bad,L,(n:Int) - 1,())) 0 (cp zu (t,im,fs,tb,me,gl,ex,st,el,co,da,lo,(uO L bl n iR bad).1,bl,(uO L bl n iR bad).2,()))
 |0,iR,bad,_,_=>by
  refine .last ?_
  rw[Gw,decide_eq_false (by omega)]
  rfl
 |n+1,iR,bad,hn,h=>by
  have e:((n+1:Nat):Int) - 1=(n:Int):=by omega
  rw[e]
  have es:il .i64 (n:Int) 1=(n:Int) - 1:=by
   show ja .i64 ((n:Int) - 1)=_
   exact wrap_i64 (by omega) (by omega)
  refine .more ?_ (J6 t im fs tb me gl ex st el co da lo bl L hL n (jQ iR bl bad (L.getD n (cr i64))).2.1 (jQ iR bl bad (L.getD n (cr i64))).2.2 (by omega) (QJ _ _ h))
  rw[Gw,decide_eq_true (show(0:Int)<=(n:Int) by omega),iX (show n<L.length by omega),h,Int.toNat_natCast,es]
  rfl
def g71:cb ZG->T (Nat×List Pl):=fun x=>match x with
 |(t,im,fs,tb,me,gl,ex,st,el,co,da,lo,iR,bl,bad,L,i,_)=>.ck ((decide (i=il .i64 (L.length:Int) 1)&&decide (L.length<=1099511627776))&&okW iR bl) (.ok (0,cp zu (t,im,fs,tb,me,gl,ex,st,el,co,da,lo,(uO L bl L.length iR bad).1,bl,(uO L bl L.length iR bad).2,())))
theorem adk(x:cb ZG)(k:Nat)(q:List Pl)(h:(g71 x).val=some (k,q)):mm (l71.step (fun _=>none) (je e71 3) 3) (cp ZG x) k q:=by
 obtain⟨t,im,fs,tb,me,gl,ex,st,el,co,da,lo,iR,bl,bad,L,i,⟨⟩⟩:=x
 obtain⟨h1,h2⟩:=Lf.T.cy h
 cases h2
 simp only[Bool.and_eq_true,decide_eq_true_eq]at h1
 obtain⟨⟨b1,b2⟩,b3⟩:=h1
 have es:il .i64 (L.length:Int) 1=(L.length:Int) - 1:=by
  show ja .i64 ((L.length:Int) - 1)=_
  exact wrap_i64 (by omega) (by omega)
 rw[es]at b1
 subst b1
 exact J6 t im fs tb me gl ex st el co da lo bl L b2 L.length iR bad (Nat.le_refl _) b3
def L71:Nat->Option kE:=tO [(0,so l71 ZG g71)]
def s71:iK:=kf (Ps [mV 0,.im i64]) [14] (Ps [.tu .nil,mV 14]) WN zu fun x=>match x with
 |(t,im,fs,tb,me,gl,ex,st,el,co,da,lo,iR,bl,bad,L,_)=>.ck (decide (L.length<=1099511627776)&&okW iR bl) (.ok (t,im,fs,tb,me,gl,ex,st,el,co,da,lo,(uO L bl L.length iR bad).1,bl,(uO L bl L.length iR bad).2,()))
theorem adl(t:List (den cF))(im:List (den cR))(fs:List Int)(tb me:List (den cq))(gl:List (den cI))(ex:List (den cQ))(st:Int)(el:List (den cJ))(co:List (den cK))(da:List (den cN))(lo iR:List Int)(bl:List (den iF))(bad:Bool)(L:List Int):(kO (Ps [mV 0,.im i64]) [14] (Ps [.tu .nil,mV 14]) L71 Tryz.ab7 3 (je e71 3) (cp WN (t,im,fs,tb,me,gl,ex,st,el,co,da,lo,iR,bl,bad,L,()))).val=
 bif (decide (il .i64 (L.length:Int) 1=il .i64 (L.length:Int) 1)&&decide (L.length<=1099511627776))&&okW iR bl then some (cp zu (t,im,fs,tb,me,gl,ex,st,el,co,da,lo,(uO L bl L.length iR bad).1,bl,(uO L bl L.length iR bad).2,()))else none:=by kernel_rfl
theorem Iu{cf:cg}(W:World cf):s71.Ok 168 cf:=by
 have C:=W.in (adj W) 3
 have hl:jU Rx.w (so l71 ZG g71) (fun n d=>ly (cf n d) n (.bl 0 (.lp l71.body))):=lK C (cu _) (m:=3) adk
 refine iI C (W.st 168 _ rfl) rfl (L:=L71) (ku.nh (.cons (b:=l71.body) (by kernel_rfl) hl .nil)) (m:=3) rfl ?_
 rintro⟨t,im,fs,tb,me,gl,ex,st,el,co,da,lo,iR,bl,bad,L,⟨⟩⟩ q h
 obtain⟨h1,h2⟩:=Lf.T.cy h
 cases h2
 rw[adl,decide_eq_true (rfl:il .i64 (L.length:Int) 1=il .i64 (L.length:Int) 1),Bool.true_and,h1]
 rfl
def s72:iK:=kf (Ps [mV 0,.im i64]) [14] (Ps [.tu .nil,mV 14]) WN zu fun x=>match x with
 |(t,im,fs,tb,me,gl,ex,st,el,co,da,lo,iR,bl,bad,L,_)=>.ck (decide (iR.length+L.length<=1099511627776)) (.ok (t,im,fs,tb,me,gl,ex,st,el,co,da,lo,iR++L,bl,bad,()))
theorem adm(t:List (den cF))(im:List (den cR))(fs:List Int)(tb me:List (den cq))(gl:List (den cI))(ex:List (den cQ))(st:Int)(el:List (den cJ))(co:List (den cK))(da:List (den cN))(lo iR:List Int)(bl:List (den iF))(bad:Bool)(L:List Int):(kO (Ps [mV 0,.im i64]) [14] (Ps [.tu .nil,mV 14]) (fun _=>none) Tryz.ahg 3 (je [] 3) (cp WN (t,im,fs,tb,me,gl,ex,st,el,co,da,lo,iR,bl,bad,L,()))).val=
 bif roomy 8 (iR.length+L.length)then some (cp zu (t,im,fs,tb,me,gl,ex,st,el,co,da,lo,app iR L,bl,bad,()))else none:=by kernel_rfl
theorem A8{cf:cg}(W:World cf):s72.Ok 169 cf:=by
 refine iI (W.in .nil 3) (W.st 169 _ rfl) rfl (cu _) (m:=3) rfl ?_
 rintro⟨t,im,fs,tb,me,gl,ex,st,el,co,da,lo,iR,bl,bad,L,⟨⟩⟩ q h
 obtain⟨h1,h2⟩:=Lf.T.cy h
 cases h2
 rw[adm,iE (by omega) (of_decide_eq_true h1),cX]
 rfl
def wX(b:den iF):den iF:=(b.1,b.2.1,b.2.2.1,b.2.2.2.1,true,b.2.2.2.2.2)
def s83:iK:=kf (Ps [mV 0]) [14] (Ps [.tu .nil,mV 14]) zu zu fun x=>match x with
 |(t,im,fs,tb,me,gl,ex,st,el,co,da,lo,iR,bl,bad,_)=>.ck (okW iR bl) (.ok (t,im,fs,tb,me,gl,ex,st,el,co,da,lo,iR.take (iY bl).2.1.toNat,bl.set (bl.length - 1) (wX (iY bl)),bad,()))
theorem adn(t:List (den cF))(im:List (den cR))(fs:List Int)(tb me:List (den cq))(gl:List (den cI))(ex:List (den cQ))(st:Int)(el:List (den cJ))(co:List (den cK))(da:List (den cN))(lo iR:List Int)(bl:List (den iF))(bad:Bool):(kO (Ps [mV 0]) [14] (Ps [.tu .nil,mV 14]) (fun _=>none) Tryz.ahk 3 (je [] 3) (cp zu (t,im,fs,tb,me,gl,ex,st,el,co,da,lo,iR,bl,bad,()))).val=
 bif ij (il .i64 (Int.ofNat bl.length) 1) (Int.ofNat bl.length)then bif jy 0 (bl.getD (il .i64 (Int.ofNat bl.length) 1).toNat (cr iF)).2.1 (Int.ofNat iR.length)then
  some (cp zu (t,im,fs,tb,me,gl,ex,st,el,co,da,lo,(iR.drop 0).take ((bl.getD (il .i64 (Int.ofNat bl.length) 1).toNat (cr iF)).2.1.toNat - 0),bl.set (il .i64 (Int.ofNat bl.length) 1).toNat (wX (bl.getD (il .i64 (Int.ofNat bl.length) 1).toNat (cr iF))),bad,()))else none else none:=by kernel_rfl
theorem ado{cf:cg}(W:World cf):s83.Ok 194 cf:=by
 refine iI (W.in .nil 3) (W.st 194 _ rfl) rfl (cu _) (m:=3) rfl ?_
 rintro⟨t,im,fs,tb,me,gl,ex,st,el,co,da,lo,iR,bl,bad,⟨⟩⟩ q h
 obtain⟨h1,h2⟩:=Lf.T.cy h
 cases h2
 unfold okW at h1
 simp only[Bool.and_eq_true,decide_eq_true_eq]at h1
 obtain⟨⟨b1,b2,b3⟩,b4,b5⟩:=h1
 have hb:ij ((bl.length - 1:Nat):Int) (bl.length:Int)=true:=iX (by omega)
 rw[adn,show Int.ofNat bl.length=(bl.length:Int)from rfl,show Int.ofNat iR.length=(iR.length:Int)from rfl,DL b1 (by omega),Int.toNat_natCast,hb,cond_true]
 have hc:jy 0 (iY bl).2.1 (iR.length:Int)=true:=by unfold jy;simp;omega
 show(bif jy 0 (iY bl).2.1 (iR.length:Int)then _ else _)=_
 rw[hc,List.drop_zero,Nat.sub_zero]
 rfl
end Go.Proofs.Vd

noncomputable section
namespace Go.Proofs.Vd
open Go.Ab Go.Ab.Lf
set_option maxRecDepth 100000
def ZH:iK:=kf (Ps [.im i64]) [] (Ps [.ow i64]) [.ca i64] [.ca i64] fun x=>.ck (decide (x.1.length<=1099511627776)) (.ok (x.1,()))
structure WorldC(V:ByteArray->Bool)(cf:cg):Prop extends WorldV V cf where
 cl:ZH.Ok 85 cf
abbrev ZI:List Ty:=[.ca cF,.ca cR,.ca i64,.ca cq,.ca cq,.ca cI,.ca cQ,i64,.ca cJ,.ca cK,.ca cN,i64]
abbrev DX:List Ty:=[.ca i64,.ca i64,.bool]
abbrev qSg:lV:=Ps [.tu (Ps [.ag (Ps [.ow i64,.ow i64]),.bo])]
def jh(t:List (den cF))(k:Int):Bool:= !(bif decide (k<0)then true else decide ((t.length:Int)<=k))
def iB(t:List (den cF))(k:Int):den cF:=bif jh t k then t.getD k.toNat (cr cF)else([],[])
def gT(t:List (den cF)):Bool:=List.all t fun s=>decide (List.length s.1<=1099511627776)&&decide (List.length s.2<=1099511627776)
def s21:iK:=kf (Ps [pM,.n .i64]) [] qSg ZI DX fun x=>match x with
 |(t,im,fs,tb,me,gl,ex,st,el,co,da,k,_)=>.ck (gT t) (.ok ((iB t k).1,(iB t k).2,jh t k,()))
def e21:List (Nat×iK):=[(85,ZH)]
theorem adp{V:ByteArray->Bool}{cf:cg}(W:WorldC V cf):jd cf e21:=.cons W.cl .nil
theorem adq(t:List (den cF))(im:List (den cR))(fs:List Int)(tb me:List (den cq))(gl:List (den cI))(ex:List (den cQ))(st:Int)(el:List (den cJ))(co:List (den cK))(da:List (den cN))(k:Int):(kO (Ps [pM,.n .i64]) [] qSg (fun _=>none) Tryz.x75 3 (je e21 3) (cp ZI (t,im,fs,tb,me,gl,ex,st,el,co,da,k,()))).val=
 bif (bif decide (k<0)then true else decide ((t.length:Int)<=k))then some (cp DX ([],[],false,()))else cz (ij k (Int.ofNat t.length)) (cz (decide ((t.getD k.toNat (cr cF)).1.length<=1099511627776)) (cz (decide ((t.getD k.toNat (cr cF)).2.length<=1099511627776)) (some (cp DX ((t.getD k.toNat (cr cF)).1,(t.getD k.toNat (cr cF)).2,true,()))))):=by kernel_rfl
theorem Iv{V:ByteArray->Bool}{cf:cg}(W:WorldC V cf):s21.Ok 75 cf:=by
 refine iI (W.toWorld.in (adp W) 3) (W.st 75 _ rfl) rfl (cu _) (m:=3) rfl ?_
 rintro⟨t,im,fs,tb,me,gl,ex,st,el,co,da,k,⟨⟩⟩ q h
 obtain⟨h0,h⟩:=Lf.T.cy h
 cases h
 rw[adq]
 unfold iB jh
 by_cases h1:k<0
 ·rw[decide_eq_true h1];rfl
 ·by_cases h2:(t.length:Int)<=k
  ·rw[decide_eq_false h1,decide_eq_true h2];rfl
  ·have hx:ij k (Int.ofNat t.length)=true:=lI.2 ⟨Int.not_lt.1 h1,Int.not_le.1 h2⟩
   have hm:(t.getD k.toNat (cr cF))∈t:=by
    have key: ∀ (k:Int) (n:Nat),¬ k<0-> ¬ (n:Int)<=k->k.toNat<n:=fun k n _ _=>by omega
    have:k.toNat<t.length:=key k _ h1 h2
    rw[List.getD_eq_getElem?_getD,List.getElem?_eq_getElem this]
    exact List.getElem_mem this
   unfold gT at h0
   have h0:=List.all_eq_true.1 h0 _ hm
   rw[Bool.and_eq_true]at h0
   rw[decide_eq_false h1,decide_eq_false h2,hx,h0.1,h0.2];rfl
def lN(bl:List (den iF))(l:Int):List Int:=bif decide ((bl.length:Int)<=l)then []else
 let b:=bl.getD (il .i64 (il .i64 (Int.ofNat bl.length) 1) l).toNat (cr iF)
 bif decide (b.1=3)then b.2.2.1 else b.2.2.2.1
theorem anx{k:Int}{n:Nat}(h1:(n:Int)<=k)(h2:k<9223372036854775808):0<=il .i64 k (n:Int):=by
 have es:il .i64 k (n:Int)=k - (n:Int):=by
  show ja .i64 (k - (n:Int))=_
  exact wrap_i64 (by omega) (by omega)
 rw[es]
 omega
def jj(im:List (den cR))(fs:List Int)(k:Int):Int:=
 bif (bif decide (0<=k)then decide (k<(im.length:Int))else false)then(im.getD k.toNat (cr cR)).2.2 else
 bif (bif decide ((im.length:Int)<=k)then decide (il .i64 k (im.length:Int)<(fs.length:Int))else false)then fs.getD (il .i64 k (im.length:Int)).toNat (cr i64)else -1
def s10:iK:=kf (Ps [pM,.n .i64]) [] qSg ZI DX fun x=>match x with
 |(t,im,fs,tb,me,gl,ex,st,el,co,da,k,_)=>.ck (gT t&&(decide (k<9223372036854775808)&&decide (im.length<=1099511627776))) (.ok ((iB t (jj im fs k)).1,(iB t (jj im fs k)).2,jh t (jj im fs k),()))
def e10:List (Nat×iK):=[(75,s21)]
theorem adr{V:ByteArray->Bool}{cf:cg}(W:WorldC V cf):jd cf e10:=.cons (Iv W) .nil
theorem ads(t:List (den cF))(im:List (den cR))(fs:List Int)(tb me:List (den cq))(gl:List (den cI))(ex:List (den cQ))(st:Int)(el:List (den cJ))(co:List (den cK))(da:List (den cN))(k:Int):(kO (Ps [pM,.n .i64]) [] qSg (fun _=>none) Tryz.x29 3 (je e10 3) (cp ZI (t,im,fs,tb,me,gl,ex,st,el,co,da,k,()))).val=
 bif (bif decide (0<=k)then decide (k<(im.length:Int))else false)then cz (ij k (Int.ofNat im.length)) (cz (gT t) (some (cp DX ((iB t (im.getD k.toNat (cr cR)).2.2).1,(iB t (im.getD k.toNat (cr cR)).2.2).2,jh t (im.getD k.toNat (cr cR)).2.2,()))))
 else bif (bif decide ((im.length:Int)<=k)then decide (il .i64 k (im.length:Int)<(fs.length:Int))else false)then cz (ij (il .i64 k (im.length:Int)) (Int.ofNat fs.length)) (cz (gT t) (
  some (cp DX ((iB t (fs.getD (il .i64 k (im.length:Int)).toNat (cr i64))).1,(iB t (fs.getD (il .i64 k (im.length:Int)).toNat (cr i64))).2,jh t (fs.getD (il .i64 k (im.length:Int)).toNat (cr i64)),()))))
 else cz (gT t)<|some (cp DX ((iB t (-1)).1,(iB t (-1)).2,jh t (-1),())):=by kernel_rfl
theorem A9{V:ByteArray->Bool}{cf:cg}(W:WorldC V cf):s10.Ok 29 cf:=by
 refine iI (W.toWorld.in (adr W) 3) (W.st 29 _ rfl) rfl (cu _) (m:=3) rfl ?_
 rintro⟨t,im,fs,tb,me,gl,ex,st,el,co,da,k,⟨⟩⟩ q h
 obtain⟨h1,h2⟩:=Lf.T.cy h
 cases h2
 simp only[Bool.and_eq_true,decide_eq_true_eq]at h1
 obtain⟨b0,b1,b2⟩:=h1
 rw[ads,b0]
 have goal: ∀ j:Int,j=jj im fs k->some (cp DX ((iB t j).1,(iB t j).2,jh t j,()))=some (cp DX ((iB t (jj im fs k)).1,(iB t (jj im fs k)).2,jh t (jj im fs k),())):=by
  rintro j rfl;rfl
 cases c1:(bif decide ((0:Int)<=k)then decide (k<(im.length:Int))else false)with
 |true=>
  have hx:ij k (Int.ofNat im.length)=true:=by
   rw[Bool.cond_false_right,Bool.and_eq_true,decide_eq_true_eq,decide_eq_true_eq]at c1
   exact lI.2 c1
  rw[hx]
  exact goal _ (by unfold jj;rw[c1];rfl)
 |false=>
  cases c2:(bif decide ((im.length:Int)<=k)then decide (il .i64 k (im.length:Int)<(fs.length:Int))else false)with
  |true=>
   have hx:ij (il .i64 k (im.length:Int)) (Int.ofNat fs.length)=true:=by
    rw[Bool.cond_false_right,Bool.and_eq_true,decide_eq_true_eq,decide_eq_true_eq]at c2
    exact lI.2 ⟨anx c2.1 b1,c2.2⟩
   rw[hx]
   exact goal _ (by unfold jj;rw[c1,c2];rfl)
  |false=>exact goal _ (by unfold jj;rw[c1,c2];rfl)
end Go.Proofs.Vd
