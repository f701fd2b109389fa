import Derived.Test.YtbplobpobnagkaaGreatDoorVdW
import Derived.Test.YtbplobpobnagkaaGreatDoorLfJ
noncomputable section
namespace Go.Proofs.Vd
open Go.Ab Go.Ab.Lf
set_option maxRecDepth 100000
abbrev To:List Ty:=[.ae i64,.ae i64,.ae aI,.ae aP,.ae i64,.ae aj,.ae aj,.ae aC,.ae aO,i64,.ae aD,.ae aK,.ae aH,.ae i64,.ae i64,.ae cw,.bool]
def fX(t:List (den aI))(l:Int):den aI:=bif decide (0<=l)then ca t l else bif decide (l= -64)then([],[])else([],[cf .i64 l 128])
def la(t:List (den aI))(l:Int)(bad:Bool):Bool:=bif decide (0<=l)then bad|| !(dN t l)else bad
def e74:List (Nat×cQ):=[(85,s21),(95,VV)]
theorem Zr{V:ByteArray->Bool}{aq:aB}(W:WorldC V aq):dh aq e74:=.cons (Gk W) (.cons (s6 W.toWorld) .nil)
def s74:cQ:=iy (Ps [jI 0,.n .i64]) [14] (Ps [.ag (Ps [.ow i64,.ow i64]),jI 14]) JK To fun x=>match x with
 |(t,im,fs,tb,me,gl,ex,st,el,co,da,lo,dk,bl,bad,l,_)=>.ck (gT t) (.ok ((fX t l).1,(fX t l).2,t,im,fs,tb,me,gl,ex,st,el,co,da,lo,dk,bl,la t l bad,()))
theorem Zs(t:List (den aI))(im:List (den aP))(fs:List Int)(tb me:List (den aj))(gl:List (den aC))(ex:List (den aO))(st:Int)(el:List (den aD))(co:List (den aK))(da:List (den aH))(lo dk:List Int)(bl:List (den cw))(bad:Bool)(l:Int):(je (Ps [jI 0,.n .i64]) [14] (Ps [.ag (Ps [.ow i64,.ow i64]),jI 14]) (fun _=>none) Tryz.x93 3 (dH e74 3) (aA JK (t,im,fs,tb,me,gl,ex,st,el,co,da,lo,dk,bl,bad,l,()))).val=
 bif decide (0<=l)then aS (gT t)<|some (aA To ((ca t l).1,(ca t l).2,t,im,fs,tb,me,gl,ex,st,el,co,da,lo,dk,bl,bad|| !(dN t l),()))else bif decide (l= -64)then some (aA To ([],[],t,im,fs,tb,me,gl,ex,st,el,co,da,lo,dk,bl,bad,()))else some (aA To ([],[cf .i64 l 128],t,im,fs,tb,me,gl,ex,st,el,co,da,lo,dk,bl,bad,())):=by kernel_rfl
theorem Zt{V:ByteArray->Bool}{aq:aB}(W:WorldC V aq):s74.Ok 93 aq:=by
 refine dF (W.toWorld.in (Zr W) 3) (W.st 93 _ rfl) rfl (aE _) (m:=3) rfl ?_
 rintro⟨t,im,fs,tb,me,gl,ex,st,el,co,da,lo,dk,bl,bad,l,⟨⟩⟩ q h
 obtain⟨h0,h⟩:=Lf.T.aY h
 cases h
 rw[Zs,h0]
 unfold fX la
 cases decide (0<=l)<;>cases decide (l= -64)<;>rfl
abbrev tOp:List Ty:=[.ae aI,.ae aP,.ae i64,.ae aj,.ae aj,.ae aC,.ae aO,i64,.ae aD,.ae aK,.ae aH,.ae i64,.ae i64,.ae cw,.bool,i64,.ae i64,.ae i64]
def v9(bl:List (den cw)):Bool:=bif decide ((0:Int)<(bl.length:Int))then(bif (dy bl).2.2.2.2.2 then !(dy bl).2.2.2.2.1 else false)else true
def ff(dk:List Int)(bl:List (den cw))(op:Int)(i o:List Int):List (den cw):=bl++[(op,(dk.length:Int),i,o,false,v9 bl)]
def s60:cQ:=iy (Ps [jI 0,.n .i64,.ag (Ps [.im i64,.im i64])]) [14] (Ps [.tu .nil,jI 14]) tOp w9 fun x=>match x with
 |(t,im,fs,tb,me,gl,ex,st,el,co,da,lo,dk,bl,bad,op,i,o,_)=>.ck (decide (bl.length+1<=549755813888)) (.ok (t,im,fs,tb,me,gl,ex,st,el,co,da,lo,dk,ff dk bl op i o,bad,()))
theorem Zu(t:List (den aI))(im:List (den aP))(fs:List Int)(tb me:List (den aj))(gl:List (den aC))(ex:List (den aO))(st:Int)(el:List (den aD))(co:List (den aK))(da:List (den aH))(lo dk:List Int)(bl:List (den cw))(bad:Bool)(op:Int)(i o:List Int):(je (Ps [jI 0,.n .i64,.ag (Ps [.im i64,.im i64])]) [14] (Ps [.tu .nil,jI 14]) (fun _=>none) Tryz.x76 3 (dH [] 3) (aA tOp (t,im,fs,tb,me,gl,ex,st,el,co,da,lo,dk,bl,bad,op,i,o,()))).val=
 bif decide ((0:Int)<(bl.length:Int))then bif bg (bO .i64 (bl.length:Int) 1) (bl.length:Int)then bif (bl.getD (bO .i64 (bl.length:Int) 1).toNat (ao cw)).2.2.2.2.2 then bif bg (bO .i64 (bl.length:Int) 1) (bl.length:Int)then
  bif roomy 72 (bl.length+1)then some (aA w9 (t,im,fs,tb,me,gl,ex,st,el,co,da,lo,dk,app bl [(op,(dk.length:Int),i,o,false,!(bl.getD (bO .i64 (bl.length:Int) 1).toNat (ao cw)).2.2.2.2.1)],bad,()))else none else none
  else bif roomy 72 (bl.length+1)then some (aA w9 (t,im,fs,tb,me,gl,ex,st,el,co,da,lo,dk,app bl [(op,(dk.length:Int),i,o,false,false)],bad,()))else none else none
 else bif roomy 72 (bl.length+1)then some (aA w9 (t,im,fs,tb,me,gl,ex,st,el,co,da,lo,dk,app bl [(op,(dk.length:Int),i,o,false,true)],bad,()))else none:=by kernel_rfl
theorem Gl{aq:aB}(W:World aq):s60.Ok 76 aq:=by
 refine dF (W.in .nil 3) (W.st 76 _ rfl) rfl (aE _) (m:=3) rfl ?_
 rintro⟨t,im,fs,tb,me,gl,ex,st,el,co,da,lo,dk,bl,bad,op,i,o,⟨⟩⟩ q h
 obtain⟨h1,h2⟩:=Lf.T.aY h
 cases h2
 have h1:bl.length+1<=549755813888:=of_decide_eq_true h1
 have hr:roomy 72 (bl.length+1)=true:=by
  rw[mz]
  constructor<;>omega
 rw[Zu,hr]
 simp only[bp]
 show _=some (aA w9 (t,im,fs,tb,me,gl,ex,st,el,co,da,lo,dk,ff dk bl op i o,bad,()))
 unfold ff v9
 by_cases h0:0<bl.length
 ·have hb:bg ((bl.length - 1:Nat):Int) (bl.length:Int)=true:=bZ (by omega)
  rw[Bw h0 (by omega),hb,decide_eq_true (show(0:Int)<(bl.length:Int) by omega),Int.toNat_natCast]
  rw[show bl.getD (bl.length - 1) (ao cw)=dy bl from rfl]
  cases(dy bl).2.2.2.2.2<;>simp only[cond_true,cond_false]
 ·rw[decide_eq_false (show ¬ (0:Int)<(bl.length:Int) by omega)]
  simp only[cond_true,cond_false]
end Go.Proofs.Vd

noncomputable section
namespace Go.Proofs.Vd
open Go.Ab Go.Ab.Lf
set_option maxRecDepth 100000
abbrev tLb:List Ty:=[.ae i64,.ae aI,.ae aP,.ae i64,.ae aj,.ae aj,.ae aC,.ae aO,i64,.ae aD,.ae aK,.ae aH,.ae i64,.ae i64,.ae cw,.bool]
def s84:cQ:=iy (Ps [jI 0,.n .i64]) [14] (Ps [.im i64,jI 14]) JK tLb fun x=>match x with
 |(t,im,fs,tb,me,gl,ex,st,el,co,da,lo,dk,bl,bad,l,_)=>.ck (decide (0<=l)&&decide (bl.length<=1099511627776)) (.ok (iM bl l,t,im,fs,tb,me,gl,ex,st,el,co,da,lo,dk,bl,bif decide ((bl.length:Int)<=l)then true else bad,()))
theorem Zv(t:List (den aI))(im:List (den aP))(fs:List Int)(tb me:List (den aj))(gl:List (den aC))(ex:List (den aO))(st:Int)(el:List (den aD))(co:List (den aK))(da:List (den aH))(lo dk:List Int)(bl:List (den cw))(bad:Bool)(l:Int):(je (Ps [jI 0,.n .i64]) [14] (Ps [.im i64,jI 14]) (fun _=>none) Tryz.Yi 3 (dH [] 3) (aA JK (t,im,fs,tb,me,gl,ex,st,el,co,da,lo,dk,bl,bad,l,()))).val=
 bif decide ((bl.length:Int)<=l)then some (aA tLb ([],t,im,fs,tb,me,gl,ex,st,el,co,da,lo,dk,bl,true,()))else bif bg (bO .i64 (bO .i64 (Int.ofNat bl.length) 1) l) (Int.ofNat bl.length)then
  bif decide ((bl.getD (bO .i64 (bO .i64 (Int.ofNat bl.length) 1) l).toNat (ao cw)).1=3)then some (aA tLb ((bl.getD (bO .i64 (bO .i64 (Int.ofNat bl.length) 1) l).toNat (ao cw)).2.2.1,t,im,fs,tb,me,gl,ex,st,el,co,da,lo,dk,bl,bad,()))
  else some (aA tLb ((bl.getD (bO .i64 (bO .i64 (Int.ofNat bl.length) 1) l).toNat (ao cw)).2.2.2.1,t,im,fs,tb,me,gl,ex,st,el,co,da,lo,dk,bl,bad,()))else none:=by kernel_rfl
theorem VZ{l:Int}{n:Nat}(h0:0<=l)(h1: ¬ (n:Int)<=l)(hn:n<=1099511627776):bg (bO .i64 (bO .i64 (Int.ofNat n) 1) l) (Int.ofNat n)=true:=by
 have e1:bO .i64 (Int.ofNat n) 1=(n:Int) - 1:=by
  show eZ .i64 ((n:Int) - 1)=_
  exact wrap_i64 (by omega) (by omega)
 have e2:bO .i64 ((n:Int) - 1) l=(n:Int) - 1 - l:=by
  show eZ .i64 ((n:Int) - 1 - l)=_
  exact wrap_i64 (by omega) (by omega)
 rw[e1,e2]
 exact iG.2 ⟨by omega,by show(n:Int) - 1 - l<(n:Int);omega⟩
theorem N2{aq:aB}(W:World aq):s84.Ok 105 aq:=by
 refine dF (W.in .nil 3) (W.st 105 _ rfl) rfl (aE _) (m:=3) rfl ?_
 rintro⟨t,im,fs,tb,me,gl,ex,st,el,co,da,lo,dk,bl,bad,l,⟨⟩⟩ q h
 obtain⟨h1,h2⟩:=Lf.T.aY h
 cases h2
 simp only[Bool.and_eq_true,decide_eq_true_eq]at h1
 rw[Zv]
 show _=some (aA tLb (iM bl l,t,im,fs,tb,me,gl,ex,st,el,co,da,lo,dk,bl,bif decide ((bl.length:Int)<=l)then true else bad,()))
 unfold iM
 by_cases hl:(bl.length:Int)<=l
 ·rw[decide_eq_true hl]
  simp only[cond_true]
 ·rw[decide_eq_false hl,VZ h1.1 hl h1.2]
  simp only[cond_true,cond_false]
  cases decide ((bl.getD (bO .i64 (bO .i64 (Int.ofNat bl.length) 1) l).toNat (ao cw)).1=3)<;>simp only[cond_true,cond_false]
abbrev t82:List Ty:=[.ae i64,.ae i64,i64,i64]
def Zw:jW:=⟨0,fI Tryz.SN.code 0,[0,1,12,13],Ps [.im i64,.im i64,.n .i64,.n .i64],[⟨.lL,[],.nil⟩,⟨.rt,[4],Ps [.bo]⟩]⟩
theorem yH(a b:List Int)(n i:Int):(Zw.step (fun _=>none) (dH [] 3) 3 (aA t82 (a,b,n,i,()))).val=
 bif decide (i<n)then bif (bg i (Int.ofNat a.length)&&bg i (Int.ofNat b.length))then bif !decide (a.getD i.toNat (ao i64)=b.getD i.toNat (ao i64))then some (Rs.out 1 (aA [.bool] (false,())))else some (Rs.next (aA t82 (a,b,n,cf .i64 i 1,())))else none else some (Rs.out 0 (aA [] ())):=by kernel_rfl
theorem HY(a b:List Int)(n:Nat)(hn:n<=1099511627776): ∀ (k:Nat) (j:Nat),j+k=n->a.length=n->b.length=n->(∀ i,i<j->a.getD i (ao i64)=b.getD i (ao i64))->
 gQ (Zw.step (fun _=>none) (dH [] 3) 3) (aA t82 (a,b,(n:Int),(j:Int),())) (bif decide (a=b)then 0 else 1) (bif decide (a=b)then aA [] ()else aA [.bool] (false,()))
 |0,j,hj,ha,hb,h=>by
  have hab:a=b:=by
   apply List.ext_getElem (ha.trans hb.symm)
   intro i h1 h2
   have:=h i (by omega)
   rw[List.getD_eq_getElem?_getD,List.getD_eq_getElem?_getD,List.getElem?_eq_getElem h1,List.getElem?_eq_getElem h2]at this
   exact this
  rw[decide_eq_true hab]
  refine .last ?_
  rw[yH,dj (by omega)]
  rfl
 |k+1,j,hj,ha,hb,h=>by
  have hx:(bg (j:Int) (Int.ofNat a.length)&&bg (j:Int) (Int.ofNat b.length))=true:=by
   rw[bZ (by omega),bZ (by omega)];rfl
  by_cases hq:a.getD j (ao i64)=b.getD j (ao i64)
  ·refine .more ?_ (HY a b n hn k (j+1) (by omega) ha hb (fun i hi=>by
    by_cases e:i=j
    ·subst e;exact hq
    ·exact h i (by omega)))
   rw[yH,dY (by omega),hx,Int.toNat_natCast,decide_eq_true hq,kA (by omega)]
   rfl
  ·have hab: ¬ a=b:=fun e=>hq (by rw[e])
   rw[decide_eq_false hab]
   refine .last ?_
   rw[yH,dY (by omega),hx,Int.toNat_natCast,decide_eq_false hq]
   rfl
def g82:ak t82->T (Nat×List Pl):=fun x=>.ck ((decide (x.2.2.1=(x.1.length:Int))&&decide (x.2.2.2.1=0))&&(decide (x.2.1.length=x.1.length)&&decide (x.1.length<=1099511627776))) (.br (decide (x.1=x.2.1)) (.ok (0,aA [] ())) (.ok (1,aA [.bool] (false,()))))
theorem Zx(x:ak t82)(k:Nat)(q:List Pl)(h:(g82 x).val=some (k,q)):gQ (Zw.step (fun _=>none) (dH [] 3) 3) (aA t82 x) k q:=by
 obtain⟨a,b,n,i,⟨⟩⟩:=x
 obtain⟨h1,h2⟩:=Lf.T.aY h
 simp only[Bool.and_eq_true,decide_eq_true_eq]at h1
 obtain⟨⟨b1,b2⟩,b3,b4⟩:=h1
 subst b1;subst b2
 have:=HY a b a.length b4 a.length 0 (by omega) rfl b3 (fun i hi=>absurd hi (Nat.not_lt_zero i))
 rw[Lf.T.dX]at h2
 cases hd:decide (a=b)with
 |true=>
  have Jb:decide ((a,b,(a.length:Int),(0:Int),()).1=(a,b,(a.length:Int),(0:Int),()).2.1)=true:=hd
  rw[hd]at this
  simp only[hd,cond_true]at h2
  cases h2
  exact this
 |false=>
  rw[hd]at this
  simp only[hd,cond_false]at h2
  cases h2
  exact this
def L82:Nat->Option fE:=pP [(0,pO Zw t82 g82)]
def s82:cQ:=iy (Ps [.im i64,.im i64]) [] (Ps [.bo]) [.ae i64,.ae i64] [.bool] fun x=>.ck (decide (x.1.length<=1099511627776)) (.ok (decide (x.1=x.2.1),()))
theorem Zy(a b:List Int):(je (Ps [.im i64,.im i64]) [] (Ps [.bo]) L82 Tryz.SN 3 (dH [] 3) (aA [.ae i64,.ae i64] (a,b,()))).val=
 bif !decide ((a.length:Int)=(b.length:Int))then some (aA [.bool] (false,()))else bif (decide ((a.length:Int)=(a.length:Int))&&decide ((0:Int)=0))&&(decide (b.length=a.length)&&decide (a.length<=1099511627776))then
  bif decide (a=b)then some (aA [.bool] (true,()))else some (aA [.bool] (false,()))else none:=by kernel_rfl
theorem Zz{aq:aB}(W:World aq):s82.Ok 103 aq:=by
 have C:=W.in .nil 3
 have hl:ed Rx.w (pO Zw t82 g82) (fun n d=>gG (aq n d) n (.bl 0 (.lp Zw.body))):=iI C (aE _) (m:=3) Zx
 refine dF C (W.st 103 _ rfl) rfl (L:=L82) (fq.jm (.cons (b:=Zw.body) (by kernel_rfl) hl .nil)) (m:=3) rfl ?_
 rintro⟨a,b,⟨⟩⟩ q h
 obtain⟨h1,h2⟩:=Lf.T.aY h
 cases h2
 have h1:a.length<=1099511627776:=of_decide_eq_true h1
 rw[Zy]
 show _=some (aA [.bool] (decide (a=b),()))
 by_cases hl:a.length=b.length
 ·rw[decide_eq_true (show(a.length:Int)=(b.length:Int) by omega),decide_eq_true hl.symm,decide_eq_true h1]
  simp only[decide_true,Bool.and_self,Bool.not_true,cond_false,cond_true]
  cases decide (a=b)<;>simp only[cond_true,cond_false]
 ·rw[decide_eq_false (show ¬ (a.length:Int)=(b.length:Int) by omega),decide_eq_false (show ¬ a=b from fun e=>hl (by rw[e]))]
  simp only[Bool.not_false,cond_true]
end Go.Proofs.Vd

noncomputable section
namespace Go.Ab.Lf
def N3(to:List Ty)(t:T (List Pl)):Bool:=
 T.rec (motive:=fun _=>Bool) false (fun l=>(toT to l).isSome) (fun _ _ _ a b=>a&&b) (fun _ _ a=>a) t
def Gm(t:T (List Pl)):List Bool:=T.rec (motive:=fun _=>List Bool) [] (fun _=>[]) (fun _ _ _ a b=>app a b) (fun c _ a=>c::a) t
theorem xd{to:List Ty}: ∀ {t:T (List Pl)},N3 to t=true->(∀ c,c∈Gm t->c=true)->jS to t=true
 | .bad,h,_=>by cases h
 | .ok l,h,_=>w7 (t:=.ok l) h
 | .br c a b,h,k=>by
  have h:(N3 to a&&N3 to b)=true:=h
  have k: ∀ d,d∈app (Gm a) (Gm b)->d=true:=k
  rw[bp]at k
  obtain⟨h1,h2⟩:=Bool.and_eq_true_iff.1 h
  have q1:=xd h1 fun d hd=>k d (List.mem_append_left _ hd)
  have q2:=xd h2 fun d hd=>k d (List.mem_append_right _ hd)
  unfold jS at*
  rw[T.dX]
  cases c
  ·exact q2
  ·exact q1
 | .ck c a,h,k=>by
  have h:N3 to a=true:=h
  have k: ∀ d,d∈c::Gm a->d=true:=k
  have q1:=xd h fun d hd=>k d (List.mem_cons_of_mem _ hd)
  have hc:c=true:=k c (List.mem_cons_self ..)
  subst hc
  unfold jS at*
  rw[T.j5]
  exact q1
theorem adn{call:eK}{aq:aB}(C:oz call aq){f:FuncId}{b:dE}(hb:mO aq f b)(qo:Nat.ble b.ntmps 512=true){L:Nat->Option fE}(hL:jm Rx.w aq L b.code){m:Nat}{P:jV}{ptr:List Nat}{Q:jV}{ti to:List Ty}{out:ak ti->ak to}{g:ak ti->Bool}
 (h0:cb (fun g=> !(Nat.beq g 0)) ptr=true)(h1: ∀ x,N3 to (je P ptr Q L b m call (aA ti x))=true)(hc: ∀ x,g x=true-> ∀ c,c∈Gm (je P ptr Q L b m call (aA ti x))->c=true)(h2: ∀ x,out x=e9 to (je P ptr Q L b m call (aA ti x))):(iy P ptr Q ti to fun x=>.ck (g x) (.ok (out x))).Ok f aq:=by
 refine dF C hb qo hL (m:=m) h0 fun x y h=>?_
 obtain⟨k1,k2⟩:=T.aY h
 cases k2
 rw[h2]
 exact qT (xd (h1 x) (hc x k1))
end Go.Ab.Lf
namespace Go.Proofs.Vd
open Go.Ab Go.Ab.Lf
set_option maxRecDepth 100000
abbrev tFi:List Ty:=[.ae aI,.ae aP,.ae i64,.ae aj,.ae aj,.ae aC,.ae aO,i64,.ae aD,.ae aK,.ae aH,.ae i64,.ae i64,.ae cw,.bool,i64,i64,i64,u64,u64,.ae i64,i64,i64,.bool,.ae i64,.ae i64]
abbrev ado:jV:=.ag (Ps [.n .i64,.n .i64,.bo,.im i64,.im i64])
def e70:List (Nat×cQ):=[(95,VV),(102,s81)]
theorem ZA{aq:aB}(W:World aq):dh aq e70:=.cons (s6 W) (.cons (Nr W) .nil)
def t70(x:ak tFi):Lf.T (List Pl):=je (Ps [jI 0,pI,ado]) [14] (Ps [.tu .nil,jI 14]) (fun _=>none) Tryz.x89 20 (dH e70 20) (aA tFi x)
def Tp(x:ak tFi):ak w9:=e9 w9 (t70 x)
def Ts(x:ak tFi):Bool:=match x with
 |(t,im,fs,tb,me,gl,ex,st,el,co,da,lo,dk,bl,bad,_,_,_,_,_,_,_,jg,_,_,_,_)=>decide (0<=jg)
def s70:cQ:=iy (Ps [jI 0,pI,ado]) [14] (Ps [.tu .nil,jI 14]) tFi w9 fun x=>.ck (Ts x) (.ok (Tp x))
theorem ZB{aq:aB}(W:World aq):s70.Ok 89 aq:=by
 refine adn (W.in (ZA W) 20) (W.st 89 _ rfl) rfl (aE _) (m:=20) rfl ?_ ?_ (fun _=>rfl)
 ·rintro⟨t,im,fs,tb,me,gl,ex,st,el,co,da,lo,dk,bl,bad,o,a,b,l1,l2,l,f,jg,pl,i2,o2,⟨⟩⟩
  kernel_rfl
 ·rintro⟨t,im,fs,tb,me,gl,ex,st,el,co,da,lo,dk,bl,bad,o,a,b,l1,l2,l,f,jg,pl,i2,o2,⟨⟩⟩ h c hc
  have e:Gm (t70 (t,im,fs,tb,me,gl,ex,st,el,co,da,lo,dk,bl,bad,o,a,b,l1,l2,l,f,jg,pl,i2,o2,()))=List.replicate 6 (decide (0<=jg)):=by kernel_rfl
  have hc:c∈Gm (t70 (t,im,fs,tb,me,gl,ex,st,el,co,da,lo,dk,bl,bad,o,a,b,l1,l2,l,f,jg,pl,i2,o2,())):=hc
  rw[e]at hc
  exact(List.eq_of_mem_replicate hc).trans h
end Go.Proofs.Vd

noncomputable section
namespace Go.Proofs.Vd
open Go.Ab Go.Ab.Lf
set_option maxRecDepth 100000
def Wx(n:Nat)(F:oH)(bs:List Int)(p:Bool):Prop:=bs.length<=n/\ ∀ s:St,s.1.length+n<=1099511627776-> ∀ (α:Type) (K:St->Option α),F α s K=K (s.1++bs,s.2|| !p)
section
variable {n m:Nat}{F G:oH}{bs cs:List Int}{p q:Bool}
theorem Wx.le(h:Wx n F bs p)(hm:n<=m):Wx m F bs p:=⟨Nat.le_trans h.1 hm,fun s hs=>h.2 s (by omega)⟩
theorem Wx.seq(h1:Wx n F bs p)(h2:Wx m G cs q):Wx (n+m) (fun α s K=>F α s fun s=>G α s K) (bs++cs) (p&&q):=by
 refine⟨?_,fun s hs α K=>?_⟩
 ·have:=h1.1
  have:=h2.1
  simp only[List.length_append]
  omega
 ·show F α s _=_
  have l1:=h1.1
  rw[h1.2 s (by omega)]
  show G α (s.1++bs,s.2|| !p) K=_
  rw[h2.2 (s.1++bs,s.2|| !p) (by simp only[List.length_append];omega)]
  have e:(s.2|| !p|| !q)=(s.2|| !(p&&q)):=by cases s.2<;>cases p<;>cases q<;>rfl
  simp only[List.append_assoc,e]
theorem Wx.bif{c:Bool}(h1:Wx n F bs p)(h2:Wx n G cs q):Wx n (fun α s K=>bif c then F α s K else G α s K) (bif c then bs else cs) (bif c then p else q):=by
 cases c
 ·exact h2
 ·exact h1
theorem Wx.eq(h:Wx n F bs p)(e1:bs=cs)(e2:p=q):Wx n F cs q:=by subst e1;subst e2;exact h
theorem Wx.mw(h:Wx n F bs p){s:St}(hs:s.1.length+n<=1099511627776):mW F s=(s.1++bs,s.2|| !p):=by
 unfold mW
 rw[h.2 s hs]
 rfl
end
theorem iN(c:Bool):Wx 0 (jt c) [] c:=⟨Nat.le_refl _,fun s _ α K=>by simp[jt]⟩
theorem eF(l:List Int):Wx l.length (iL l) l true:=⟨Nat.le_refl _,fun s hs α K=>by unfold iL aS;rw[decide_eq_true hs];simp⟩
def nb(n:Int):List Int:=js (aV .u64 n)
def ij(n:Int):Bool:=decide (0<=n)&&decide (n<4294967296)
def qu(t:Int):Bool:=decide (t=127)||(decide (t=126)||decide (t=123))
def Aq(l:List Int):List Int:=l.foldr (fun n r=>nb n++r) []
def Qg(l:List Int):List Int:=l.map (aV .u8)
theorem q7(n:Int):(nb n).length<=10:=j9 _
theorem HZ: ∀ l:List Int,(Aq l).length<=10*l.length
 | []=>Nat.le_refl _
 |x::l=>by
  have h1:=q7 x
  have h2:=HZ l
  show(nb x++Aq l).length<=_
  simp only[List.length_append,List.length_cons]
  omega
theorem q9(l:List Int): ∀ s:St,cz s l=(s.1++Aq l,s.2|| !(l.all ij)):=by
 induction l with
 |nil=>intro s;simp[cz,Aq]
 |cons x l ih=>
  intro s
  show cz (uH s x) l=_
  rw[ih]
  have e:(s.2|| !ij x|| !(l.all ij))=(s.2|| !((x::l).all ij)):=by
   simp only[List.all_cons]
   cases s.2<;>cases ij x<;>cases l.all ij<;>rfl
  show((s.1++nb x)++Aq l,s.2|| !ij x|| !(l.all ij))=_
  rw[e,List.append_assoc]
  rfl
theorem Ar(l:List Int): ∀ s:St,fv s l=(s.1++Qg l,s.2|| !(l.all qu)):=by
 induction l with
 |nil=>intro s;simp[fv,Qg]
 |cons x l ih=>
  intro s
  show fv (pT s x) l=_
  rw[ih]
  have e:(s.2|| !qu x|| !(l.all qu))=(s.2|| !((x::l).all qu)):=by
   simp only[List.all_cons]
   cases s.2<;>cases qu x<;>cases l.all qu<;>rfl
  show((s.1++[aV .u8 x])++Qg l,s.2|| !qu x|| !(l.all qu))=_
  rw[e,List.append_assoc]
  rfl
theorem eM(l:List Int):Wx (10*l.length) (ig l) (Aq l) (l.all ij):=⟨HZ l,fun s hs α K=>by unfold ig aS;rw[decide_eq_true hs,q9];rfl⟩
theorem oO(l:List Int):Wx l.length (sZ l) (Qg l) (l.all qu):=⟨by unfold Qg;simp,fun s hs α K=>by unfold sZ aS;rw[decide_eq_true hs,Ar];rfl⟩
theorem BK(l:List Int):Wx l.length (zC l) l true:=⟨Nat.le_refl _,fun s hs α K=>by unfold zC aS;rw[bP (by omega) hs,bp];simp⟩
theorem oP{ok:Bool}{n:Nat}{F:oH}{bs:List Int}{p:Bool}(h:Wx n F bs p)(ho:ok=true):Wx n (wT ok n F) bs p:=⟨h.1,fun s hs α K=>by unfold wT aS;rw[ho,decide_eq_true hs,h.mw hs];rfl⟩
theorem yI(c:List (den tI))(h:qk c=true):Wx (qt c) (Kw (c,())) (pU c) (decide (nf c=0)):=by
 have h':=h
 simp only[qk,Bool.and_eq_true,decide_eq_true_eq]at h'
 have hl:=DP c h'.1
 exact⟨hl,fun s hs α K=>by show aS (qk c) (aS (roomy 1 (s.1.length+(pU c).length)) _)=_;unfold aS;rw[h,bP (by omega) (by omega)];simp only[bp];rfl⟩
structure As{α:Type}(A:Item α) where
 bs:α->List Int
 p:α->Bool
 wx: ∀ x,A.ok x=true->Wx (A.wt x) (A.G x) (bs x) (p x)
def uO{α:Type}{A:Item α}(B:As A)(l:List α):List Int:=l.foldr (fun x r=>B.bs x++r) []
theorem yJ{α:Type}{A:Item α}(B:As A): ∀ (l:List α),cb A.ok l=true->(uO B l).length<=kE A.wt l
 | [],_=>Nat.le_refl _
 |x::l,h=>by
  obtain⟨h1,h2⟩:=jO h
  have:=(B.wx x h1).1
  have:=yJ B l h2
  show(B.bs x++uO B l).length<=_
  rw[oK]
  simp only[List.length_append]
  omega
theorem H5{α:Type}{A:Item α}(B:As A): ∀ (l:List α),cb A.ok l=true-> ∀ s:St,s.1.length+kE A.wt l<=1099511627776->s5 A.G s l=(s.1++uO B l,s.2|| !(l.all B.p))
 | [],_,s,_=>by simp[s5,uO]
 |x::l,h,s,hs=>by
  obtain⟨h1,h2⟩:=jO h
  rw[oK]at hs
  have e:=(B.wx x h1).mw (s:=s) (by omega)
  have hl:=(B.wx x h1).1
  show s5 A.G (mW (A.G x) s) l=_
  rw[e,H5 B l h2 _ (by simp only[List.length_append];omega)]
  have e2:(s.2|| !B.p x|| !(l.all B.p))=(s.2|| !((x::l).all B.p)):=by
   simp only[List.all_cons]
   cases s.2<;>cases B.p x<;>cases l.all B.p<;>rfl
  show((s.1++B.bs x)++uO B l,s.2|| !B.p x|| !(l.all B.p))=_
  rw[e2,List.append_assoc]
  rfl
theorem N4(id:Int)(b:List Int)(k:Bool):Wx (11+b.length) (Qe (id,b,k,())) (id::(nb (b.length:Int)++b)) (!k&&ij (b.length:Int)):=by
 refine(((iN (!k)).seq ((eF [id]).seq ((eM [(b.length:Int)]).seq (BK b)))).le (m:=11+b.length) (by simp only[List.length_cons,List.length_nil];omega)).eq ?_ ?_
 ·show []++([id]++((nb _++[])++b))=_
  simp
 ·simp
theorem Tt(id:Int)(b:List Int)(k:Bool):wz (id,b,k,())=11+b.length:=by
 show 0+(1+(10+b.length))=_
 omega
theorem ajh(id:Int)(b:List Int)(k:Bool)(s:St)(h:s.1.length+(11+b.length)<=1099511627776)(α:Type)(K:St->Option α):
 wT true (wz (id,b,k,())) (Qe (id,b,k,())) α s K=K (s.1++(id::(nb (b.length:Int)++b)),s.2|| !(!k&&ij (b.length:Int))):=by
 rw[Tt]
 exact(oP (N4 id b k) rfl).2 s h α K
def oQ{α:Type}{A:Item α}(B:As A)(id:Int)(l:List α):List Int:=bif decide ((l.length:Int)=0)then []else id::(nb ((nb (l.length:Int)++uO B l).length:Int)++(nb (l.length:Int)++uO B l))
def gx{α:Type}{A:Item α}(B:As A)(most:Int)(l:List α):Bool:=decide ((l.length:Int)<=most)&&bif decide ((l.length:Int)=0)then true else
 ((ij (l.length:Int)&&l.all B.p)&&ij ((nb (l.length:Int)++uO B l).length:Int))
theorem adp{t:Ty}{A:Item (den t)}(B:As A)(id most:Int)(l:List (den t))(h:cb A.ok l=true):Wx (21+kE A.wt l) (FS A (id,most,l,())) (oQ B id l) (gx B most l):=by
 have hr:=yJ B l h
 have hn:=q7 (l.length:Int)
 refine⟨?_,fun s hs α K=>?_⟩
 ·unfold oQ
  cases decide ((l.length:Int)=0)with
  |true=>exact Nat.zero_le _
  |false=>
   have:=q7 ((nb (l.length:Int)++uO B l).length:Int)
   simp only[cond_false,List.length_cons,List.length_append]at this ⊢
   omega
 ·show jt _ α s (fun s=>bif decide ((l.length:Int)=0)then K s else _)=_
  unfold jt
  show(bif decide ((l.length:Int)=0)then K (s.1,s.2|| !decide ((l.length:Int)<=most))else aS (decide (([]:List Int).length+10*[(l.length:Int)].length<=1099511627776)) (aS ((decide ((l.length:Int)=(l.length:Int))&&decide ((0:Int)=0))&&(cb A.ok l&&decide ((cz ([],s.2|| !decide ((l.length:Int)<=most)) [(l.length:Int)]).1.length+kE A.wt l<=1099511627776)))
   (wT true (wz (id,(s5 A.G (cz ([],s.2|| !decide ((l.length:Int)<=most)) [(l.length:Int)]) l).1,(s5 A.G (cz ([],s.2|| !decide ((l.length:Int)<=most)) [(l.length:Int)]) l).2,())) (Qe (id,(s5 A.G (cz ([],s.2|| !decide ((l.length:Int)<=most)) [(l.length:Int)]) l).1,(s5 A.G (cz ([],s.2|| !decide ((l.length:Int)<=most)) [(l.length:Int)]) l).2,())) α (s.1,s.2|| !decide ((l.length:Int)<=most)) K)))=_
  unfold oQ gx
  generalize hm:decide ((l.length:Int)<=most)=c
  cases h0:decide ((l.length:Int)=0)with
  |true=>simp
  |false=>
   have e1:cz ([],s.2|| !c) [(l.length:Int)]=(nb (l.length:Int),s.2|| !c|| !(ij (l.length:Int))):=by
    rw[q9]
    show([]++(nb _++[]),_)=_
    simp
   have e2:=H5 B l h (nb (l.length:Int),s.2|| !c|| !(ij (l.length:Int))) (Nat.le_trans (Nat.add_le_add_right hn _) (by omega))
   rw[e1,e2,h]
   have c2:(nb (l.length:Int)).length+kE A.wt l<=1099511627776:=Nat.le_trans (Nat.add_le_add_right hn _) (by omega)
   have c3:(nb (l.length:Int)++uO B l).length<=10+kE A.wt l:=by rw[List.length_append];omega
   have k1:((decide ((l.length:Int)=(l.length:Int))&&decide ((0:Int)=0))&&(true&&decide ((nb (l.length:Int),s.2|| !c|| !(ij (l.length:Int))).1.length+kE A.wt l<=1099511627776)))=true:=by
    rw[Bool.and_eq_true,Bool.and_eq_true,Bool.and_eq_true]
    exact⟨⟨decide_eq_true rfl,decide_eq_true rfl⟩,rfl,decide_eq_true c2⟩
   have c0:decide (([]:List Int).length+10*[(l.length:Int)].length<=1099511627776)=true:=decide_eq_true (by simp only[List.length_cons,List.length_nil];omega)
   rw[k1,c0,ajh id _ _ (s.1,s.2|| !c) (Nat.le_trans (Nat.add_le_add_left (Nat.add_le_add_left c3 11) s.1.length) (by omega))]
   unfold aS
   rw[cond_true,cond_true,cond_false,cond_false]
   congr 2
   generalize ij (l.length:Int)=u1
   generalize ij ((nb (l.length:Int)++uO B l).length:Int)=u2
   generalize l.all B.p=u3
   cases s.2<;>cases c<;>cases u1<;>cases u2<;>cases u3<;>rfl
end Go.Proofs.Vd

noncomputable section
namespace Go.Proofs.Vd
open Go.Ab Go.Ab.Lf
set_option maxRecDepth 100000
def b36(s:ByteArray):List Int:=[]++(Aq [(s.size:Int)]++VQ s)
def ZC(V:ByteArray->Bool)(s:ByteArray):Bool:=V s&&([(s.size:Int)].all ij&&true)
theorem BL(V:ByteArray->Bool)(s:ByteArray)(hg:Ao s=true):Wx (uL (s,())) (NB V (s,())) (b36 s) (ZC V s):=by
 have e:NB V (s,())=fun α t K=>jt (V s) α t fun t=>ig [(s.size:Int)] α t fun t=>zC (VQ s) α t K:=by
  unfold NB
  rw[show Ao (s,()).1=true from hg]
  rfl
 rw[e]
 refine((iN (V s)).seq ((eM [(s.size:Int)]).seq (BK (VQ s)))).le ?_
 rw[HU]
 show _<=10+s.size
 simp only[List.length_cons,List.length_nil]
 omega
def b41(x:den aj):List Int:=[]++bif decide (x.2= -1)then [0]++Aq [x.1]else [1]++Aq [x.1,x.2]
def p41(mo:Int)(x:den aj):Bool:=decide (x.1<=mo)&&bif decide (x.2= -1)then true&&[x.1].all ij else true&&[x.1,x.2].all ij
theorem N5(mo:Int)(x:den aj):Wx 21 (F41 (x.1,x.2,mo,())) (b41 x) (p41 mo x):=
 ((iN _).seq (.bif (((eF [0]).seq (eM [x.1])).le (m:=21) (by simp)) ((eF [1]).seq (eM [x.1,x.2])))).le (by simp)
def N6:As Tb:=⟨fun x=>bif decide ((x.1.length:Int)<=32)then []++([96]++(Aq [(x.1.length:Int)]++(Qg x.1++(Aq [(x.2.length:Int)]++Qg x.2))))else []++([96]++(Aq [(x.1.length:Int)]++(Qg x.1++(Aq [(x.2.length:Int)]++Qg x.2)))),
 fun x=>bif decide ((x.1.length:Int)<=32)then decide ((x.2.length:Int)<=32)&&(true&&([(x.1.length:Int)].all ij&&(x.1.all qu&&([(x.2.length:Int)].all ij&&x.2.all qu))))else false&&(true&&([(x.1.length:Int)].all ij&&(x.1.all qu&&([(x.2.length:Int)].all ij&&x.2.all qu)))),
 fun x _=>.bif ((iN _).seq ((eF [96]).seq ((eM [(x.1.length:Int)]).seq ((oO x.1).seq ((eM [(x.2.length:Int)]).seq (oO x.2))))))
  ((iN _).seq ((eF [96]).seq ((eM [(x.1.length:Int)]).seq ((oO x.1).seq ((eM [(x.2.length:Int)]).seq (oO x.2))))))⟩
def N7(V:ByteArray->Bool):As (Y2 V):=⟨fun x=>b36 x.1++(b36 x.2.1++([0]++Aq [x.2.2])),fun x=>ZC V x.1&&(ZC V x.2.1&&(true&&[x.2.2].all ij)),
 fun x h=>(oP (BL V x.1 (Bool.and_eq_true _ _▸h).1) (Bool.and_eq_true _ _▸h).1).seq ((oP (BL V x.2.1 (Bool.and_eq_true _ _▸h).2) (Bool.and_eq_true _ _▸h).2).seq ((eF [0]).seq (eM [x.2.2])))⟩
def N8:As Ta:=⟨fun x=>Aq [x],fun x=>[x].all ij,fun x _=>eM [x]⟩
def N9:As Tc:=⟨fun x=>[112]++b41 x,fun x=>true&&p41 1024 x,fun x _=>(eF [112]).seq (oP (N5 1024 x) rfl)⟩
def Oa:As Td:=⟨b41,p41 16,fun x _=>oP (N5 16 x) rfl⟩
def DX:As NK:=⟨fun x=>Qg [x.1]++bif x.2.1 then [1]++pU x.2.2 else [0]++pU x.2.2,fun x=>[x.1].all qu&&bif x.2.1 then true&&decide (nf x.2.2=0)else true&&decide (nf x.2.2=0),
 fun x h=>(oO [x.1]).seq (.bif ((eF [1]).seq (oP (yI x.2.2 h) h)) ((eF [0]).seq (oP (yI x.2.2 h) h)))⟩
def Ob(V:ByteArray->Bool):As (Y3 V):=⟨fun x=>bif decide (0<=x.2.1)then []++(b36 x.1++([aV .u8 x.2.1]++Aq [x.2.2]))else []++(b36 x.1++([aV .u8 x.2.1]++Aq [x.2.2])),
 fun x=>bif decide (0<=x.2.1)then decide (x.2.1<=3)&&(ZC V x.1&&(true&&[x.2.2].all ij))else false&&(ZC V x.1&&(true&&[x.2.2].all ij)),
 fun x h=>.bif ((iN _).seq ((oP (BL V x.1 h) h).seq ((eF [_]).seq (eM [x.2.2])))) ((iN _).seq ((oP (BL V x.1 h) h).seq ((eF [_]).seq (eM [x.2.2]))))⟩
def BM:As DR:=⟨fun x=>[]++([0]++(pU x.1++(Aq [(x.2.length:Int)]++Aq x.2))),fun x=>decide ((x.2.length:Int)<=1024)&&(true&&(decide (nf x.1=0)&&([(x.2.length:Int)].all ij&&x.2.all ij))),
 fun x h=>(iN _).seq ((eF [0]).seq ((oP (yI x.1 h) h).seq ((eM [(x.2.length:Int)]).seq (eM x.2))))⟩
def BN:As Kx:=⟨fun x=>[0]++(pU x.1++(Aq [(x.2.length:Int)]++x.2)),fun x=>true&&(decide (nf x.1=0)&&([(x.2.length:Int)].all ij&&true)),
 fun x h=>(eF [0]).seq ((oP (yI x.1 h) h).seq ((eM [(x.2.length:Int)]).seq (eF x.2)))⟩
def DY(L:List Int):Nat->Nat->List Int
 |0,_=>[]
 |k+1,i=>if i<L.length then nb (gZ L (i:Int):Int)++([aV .u8 (L.getD i (ao i64))]++DY L k (i+gZ L (i:Int)))else []
def Gn(L:List Int):Nat->Nat->Bool
 |0,_=>true
 |k+1,i=>if i<L.length then ij (gZ L (i:Int):Int)&&(qu (L.getD i (ao i64))&&Gn L k (i+gZ L (i:Int)))else true
theorem yK(L:List Int): ∀ (k:Nat) (s:St) (i:Nat),q5 L k s i=(s.1++DY L k i,s.2|| !(Gn L k i))
 |0,s,i=>by simp[q5,DY,Gn]
 |k+1,s,i=>by
  unfold q5 DY Gn
  by_cases h:i<L.length
  ·rw[if_pos h,if_pos h,if_pos h,yK L k,Ar,q9]
   have e:(s.2|| !([(gZ L (i:Int):Int)].all ij)|| !([L.getD i (ao i64)].all qu)|| !(Gn L k (i+gZ L (i:Int))))=(s.2|| !(ij (gZ L (i:Int):Int)&&(qu (L.getD i (ao i64))&&Gn L k (i+gZ L (i:Int))))):=by
    simp only[List.all_cons,List.all_nil,Bool.and_true]
    cases s.2<;>cases ij (gZ L (i:Int):Int)<;>cases qu (L.getD i (ao i64))<;>cases Gn L k (i+gZ L (i:Int))<;>rfl
   show((s.1++(nb _++[]))++[aV .u8 (L.getD i (ao i64))]++DY L k (i+gZ L (i:Int)),_)=_
   simp only[e,List.append_assoc,List.append_nil]
  ·rw[if_neg h,if_neg h,if_neg h]
   simp
def zE(x:den aK):List Int:=nb (ee x.1 0)++(DY x.1 x.1.length 0++pU x.2)
def Qh(x:den aK):Bool:=ij (ee x.1 0)&&(Gn x.1 x.1.length 0&&decide (nf x.2=0))
theorem ZD(x:den aK)(h:qk x.2=true):Wx (Gf (x.1,x.2,())) (F52 (x.1,x.2,())) (nb ((zE x).length:Int)++zE x) (decide ((x.1.length:Int)<=512)&&(Qh x&&ij ((zE x).length:Int))):=by
 obtain⟨L,c⟩:=x
 have hw:=(yI c h)
 have hn:=q7 (ee L 0)
 have h1: ∀ (L0:L.length<=1099511627776) (hs:10+11*L.length<=1099511627776),(DY L L.length 0).length<=11*L.length:=by
  intro L0 hs
  have:=DV ([],false) L L0 (by show 0+_<=_;omega)
  unfold wC at this
  rw[yK]at this
  simpa using this
 have key: ∀ s:St,s.1.length+Gf (L,c,())<=1099511627776->(DY L L.length 0).length<=11*L.length:=by
  intro s hs
  have hs:s.1.length+(20+11*L.length+qt c)<=1099511627776:=hs
  exact h1 (by omega) (by omega)
 have lc:(DY L L.length 0).length<=11*L.length:=by
  have: ∀ (k i:Nat),L.length<=i+k->i<=L.length->(DY L k i).length<=11*(L.length - i):=by
   intro k
   induction k with
   |zero=>intro i _ _;exact Nat.zero_le _
   |succ k ih=>
    intro i a b
    unfold DY
    split
    ·rename_i hi
     obtain⟨r1,r2⟩:=BH L i hi
     have:=ih (i+gZ L (i:Int)) (by omega) r2
     have:=q7 (gZ L (i:Int):Int)
     simp only[List.length_append,List.length_cons,List.length_nil]
     omega
    ·exact Nat.zero_le _
  simpa using this L.length 0 (by omega) (by omega)
 have cl:(zE (L,c)).length<=10+11*L.length+qt c:=by
  have:=hw.1
  unfold zE
  simp only[List.length_append]
  omega
 refine⟨?_,fun s hs α K=>?_⟩
 ·have:=q7 ((zE (L,c)).length:Int)
  show _<=20+11*L.length+qt c
  simp only[List.length_append]
  omega
 ·have XQ:s.1.length+(20+11*L.length+qt c)<=1099511627776:=hs
  have hL:L.length<=1099511627776:=by omega
  have e1:cz ([],false) [ee L 0]=(nb (ee L 0),!(ij (ee L 0))):=by
   rw[q9]
   show([]++(nb _++[]),_)=_
   simp
  have e2:wC (nb (ee L 0),!(ij (ee L 0))) L=(nb (ee L 0)++DY L L.length 0,!(ij (ee L 0))|| !(Gn L L.length 0)):=by
   unfold wC
   rw[yK]
  have c1:(nb (ee L 0)).length+11*L.length<=1099511627776:=by omega
  have c2:(nb (ee L 0)++DY L L.length 0).length+qt c<=1099511627776:=by simp only[List.length_append];omega
  have e4:(nb (ee L 0)++DY L L.length 0)++pU c=zE (L,c):=by
   unfold zE
   rw[List.append_assoc]
  have e5:((!(ij (ee L 0))|| !(Gn L L.length 0))|| !(decide (nf c=0)))= !(Qh (L,c)):=by
   unfold Qh
   generalize ij (ee L 0)=u1
   generalize Gn L L.length 0=u2
   generalize decide (nf c=0)=u3
   cases u1<;>cases u2<;>cases u3<;>rfl
  have e3: ∀ (α:Type) (K:St->Option α),wT (qk c) (qt c) (Kw (c,())) α (nb (ee L 0)++DY L L.length 0,!(ij (ee L 0))|| !(Gn L L.length 0)) K=K (zE (L,c),!(Qh (L,c))):=fun α K=>by
   rw[(oP hw h).2 (nb (ee L 0)++DY L L.length 0,!(ij (ee L 0))|| !(Gn L L.length 0)) c2]
   exact congrArg K (Prod.ext e4 e5)
  have c0:decide (([]:List Int).length+10*[ee L 0].length<=1099511627776)=true:=decide_eq_true (by simp only[List.length_cons,List.length_nil];omega)
  have k1:((decide ((L.length:Int)=(L.length:Int))&&decide ((0:Int)=0))&&decide (L.length<=1099511627776))=true:=by
   rw[Bool.and_eq_true,Bool.and_eq_true]
   exact⟨⟨decide_eq_true rfl,decide_eq_true rfl⟩,decide_eq_true hL⟩
  have k2:((decide ((0:Int)=0)&&decide (L.length<=1099511627776))&&decide ((nb (ee L 0)).length+11*L.length<=1099511627776))=true:=by
   rw[Bool.and_eq_true,Bool.and_eq_true]
   exact⟨⟨decide_eq_true rfl,decide_eq_true hL⟩,decide_eq_true c1⟩
  have e6:=((iN (!(!(Qh (L,c))))).seq ((eM [((zE (L,c)).length:Int)]).seq (BK (zE (L,c))))).2 (s.1,s.2|| !decide ((L.length:Int)<=512)) (by
   show s.1.length+_<=_
   simp only[List.length_cons,List.length_nil]
   omega) α K
  show aS ((decide ((L.length:Int)=(L.length:Int))&&decide ((0:Int)=0))&&decide (L.length<=1099511627776)) (aS (decide (([]:List Int).length+10*[ee L 0].length<=1099511627776)) (aS ((decide ((0:Int)=0)&&decide (L.length<=1099511627776))&&decide ((cz ([],false) [ee L 0]).1.length+11*L.length<=1099511627776)) (wT (qk c) (qt c) (Kw (c,())) α (wC (cz ([],false) [ee L 0]) L) fun q=>jt (!q.2) α (s.1,s.2|| !decide ((L.length:Int)<=512)) fun s=>ig [(q.1.length:Int)] α s fun s=>zC q.1 α s K)))=_
  rw[e1,e2,e3,k1,k2,c0]
  unfold aS
  rw[cond_true,cond_true,cond_true]
  refine Eq.trans e6 ?_
  congr 2
  ·show s.1++([]++((nb _++[])++zE (L,c)))=_
   simp
  ·show((s.2|| !decide ((L.length:Int)<=512))|| !(!(!(Qh (L,c)))&&((ij _&&true)&&true)))=_
   generalize decide ((L.length:Int)<=512)=u1
   generalize ij ((zE (L,c)).length:Int)=u2
   cases s.2<;>cases u1<;>cases Qh (L,c)<;>cases u2<;>rfl
def DZ:As NW:=⟨fun x=>nb ((zE x).length:Int)++zE x,fun x=>decide ((x.1.length:Int)<=512)&&(Qh x&&ij ((zE x).length:Int)),fun x h=>ZD x h⟩
def ZE(V:ByteArray->Bool)(y:ak tM):List Int:=oQ N6 1 y.1++(oQ (N7 V) 2 y.2.1++(oQ N8 3 y.2.2.1++(oQ N9 4 y.2.2.2.1++(oQ Oa 5 y.2.2.2.2.1++(oQ DX 6 y.2.2.2.2.2.1++oQ (Ob V) 7 y.2.2.2.2.2.2.1)))))
def Oe(y:ak tM):List Int:=oQ BM 9 y.2.2.2.2.2.2.2.2.1++(oQ DZ 10 y.2.2.2.2.2.2.2.2.2.1++oQ BN 11 y.2.2.2.2.2.2.2.2.2.2.1)
def stB(n:Int):List Int:=bif decide (0<=n)then 8::(nb ((nb n).length:Int)++nb n)else []
def ZF(V:ByteArray->Bool)(y:ak tM):Bool:=gx N6 256 y.1&&(gx (N7 V) 512 y.2.1&&(gx N8 512 y.2.2.1&&(gx N9 512 y.2.2.2.1&&(gx Oa 512 y.2.2.2.2.1&&(gx DX 512 y.2.2.2.2.2.1&&gx (Ob V) 512 y.2.2.2.2.2.2.1)))))
def ZG(y:ak tM):Bool:=gx BM 512 y.2.2.2.2.2.2.2.2.1&&(gx DZ 512 y.2.2.2.2.2.2.2.2.2.1&&gx BN 512 y.2.2.2.2.2.2.2.2.2.2.1)
def stP(n:Int):Bool:=decide (-1<=n)&&bif decide (0<=n)then ij n&&ij ((nb n).length:Int)else true
def Ky(V:ByteArray->Bool)(y:ak tM):Bool:=decide ((y.2.2.1.length:Int)=(y.2.2.2.2.2.2.2.2.2.1.length:Int))&&(ZF V y&&(stP y.2.2.2.2.2.2.2.1&&ZG y))
def Qi(V:ByteArray->Bool)(y:ak tM):List Int:=ZE V y++(stB y.2.2.2.2.2.2.2.1++Oe y)
theorem JL(n:Int):Wx 21 (NY n) (8::(nb ((nb n).length:Int)++nb n)) (ij n&&ij ((nb n).length:Int)):=by
 have hn:=q7 n
 have h:=N4 8 (nb n) (!(ij n))
 refine⟨Nat.le_trans h.1 (by omega),fun s hs α K=>?_⟩
 have e1:cz ([],false) [n]=(nb n,!(ij n)):=by
  rw[q9]
  show([]++(nb _++[]),_)=_
  simp
 show aS (decide (([]:List Int).length+10*[n].length<=1099511627776)) (wT true (wz (8,(cz ([],false) [n]).1,(cz ([],false) [n]).2,())) (Qe (8,(cz ([],false) [n]).1,(cz ([],false) [n]).2,())) α s K)=_
 rw[e1]
 have c:s.1.length+wz (8,nb n,!(ij n),())<=1099511627776:=by
  show s.1.length+(0+(1+(10+(nb n).length)))<=_
  omega
 show wT true (wz (8,nb n,!(ij n),())) (Qe (8,nb n,!(ij n),())) α s K=_
 unfold wT
 rw[decide_eq_true c,h.mw (by omega)]
 show K _=_
 congr 2
 generalize ij n=u1
 generalize ij ((nb n).length:Int)=u2
 cases s.2<;>cases u1<;>cases u2<;>rfl
theorem kM{t:Ty}{A:Item (den t)}(B:As A)(id most:Int)(l:List (den t))(h:cb A.ok l=true):Wx (21+kE A.wt l) (wD A id most l) (oQ B id l) (gx B most l):=oP (adp B id most l h) h
theorem H6(y:ak tM)(h1:cb DR.ok y.2.2.2.2.2.2.2.2.1=true)(h2:cb NW.ok y.2.2.2.2.2.2.2.2.2.1=true)(h3:cb Kx.ok y.2.2.2.2.2.2.2.2.2.2.1=true):Wx (HV y) (Tj y) (Oe y) (ZG y):=
 (kM BM 9 512 _ h1).seq ((kM DZ 10 512 _ h2).seq (kM BN 11 512 _ h3))
theorem ZH(V:ByteArray->Bool)(y:ak tM)(h:VT V y=true):Wx (Gg V y) (F18 V y) (Qi V y) (Ky V y):=by
 unfold VT at h
 simp only[Bool.and_eq_true]at h
 obtain⟨h1,h2,h3,h4,h5,h6,h7,h8,h9,Tl⟩:=h
 have k9:=Wx.bif (c:=decide (0<=y.2.2.2.2.2.2.2.1)) ((JL y.2.2.2.2.2.2.2.1).seq (H6 y h8 h9 Tl)) ((H6 y h8 h9 Tl).le (m:=21+HV y) (Nat.le_add_left _ _))
 have k8:=(iN (decide (-1<=y.2.2.2.2.2.2.2.1))).seq k9
 have k7:=(kM (Ob V) 7 512 _ h7).seq k8
 have k6:=(kM DX 6 512 _ h6).seq k7
 have k5:=(kM Oa 5 512 _ h5).seq k6
 have k4:=(kM N9 4 512 _ h4).seq k5
 have k3:=(kM N8 3 512 _ h3).seq k4
 have k2:=(kM (N7 V) 2 512 _ h2).seq k3
 have k1:=(kM N6 1 256 _ h1).seq k2
 have k0:=(iN (decide ((y.2.2.1.length:Int)=(y.2.2.2.2.2.2.2.2.2.1.length:Int)))).seq k1
 refine Wx.eq (F:=F18 V y) k0 ?_ ?_
 ·unfold Qi ZE stB
  generalize decide (0<=y.2.2.2.2.2.2.2.1)=u
  cases u<;>simp only[cond_true,cond_false,List.nil_append,List.append_assoc]
 ·unfold Ky ZF stP
  generalize decide (0<=y.2.2.2.2.2.2.2.1)=u
  cases u<;>simp only[cond_true,cond_false,Bool.and_assoc,Bool.true_and,Bool.and_true]
theorem H7{V:ByteArray->Bool}{y:ak tM}(h:Gh V y=true):zD V y=(s0.1++Qi V y,!(Ky V y)):=by
 unfold Gh at h
 simp only[Bool.and_eq_true,decide_eq_true_eq]at h
 unfold zD
 rw[(ZH V y h.1).mw (s:=s0) h.2]
 rfl
end Go.Proofs.Vd

noncomputable section
namespace Go.Proofs.Vd
open Go.Ab Go.Ab.Lf
set_option maxRecDepth 100000
abbrev Of:List Ty:=[.ae aI,.ae aP,.ae i64,.ae aj,.ae aj,.ae aC,.ae aO,i64,.ae aD,.ae aK,.ae aH,.ae i64,.ae i64,.ae cw,.bool,i64,i64,i64,u64,u64,.ae i64]
abbrev uP:List Ty:=[.ae aI,.ae aP,.ae i64,.ae aj,.ae aj,.ae aC,.ae aO,i64,.ae aD,.ae aK,.ae aH,.ae i64,.ae i64,.ae cw,.bool]
def e86:List (Nat×cQ):=[(91,s72),(92,s73),(95,VV)]
theorem ZI{V:ByteArray->Bool}{aq:aB}(W:WorldC V aq):dh aq (e86):=(.cons (yG W.toWorld) (.cons (yF W.toWorld) (.cons (s6 W.toWorld) .nil)))
def t86(x:ak Of):Lf.T (List Pl):=je (Ps [jI 0,pI]) [14] (Ps [.tu .nil,jI 14]) (fun _=>none) Tryz.Yj 3 (dH (e86) 3) (aA Of x)
def k86(x:ak Of):Bool:=jS uP (t86 x)
def m86(x:ak Of):ak uP:=e9 uP (t86 x)
def s86:cQ:=iy (Ps [jI 0,pI]) [14] (Ps [.tu .nil,jI 14]) Of uP fun x=>.ck (k86 x) (.ok (m86 x))
theorem ZJ{V:ByteArray->Bool}{aq:aB}(W:WorldC V aq):(s86).Ok 107 aq:=
 eX (W.toWorld.in (ZI W) 3) (W.toWorld.st 107 _ rfl) rfl (aE _) (m:=3) rfl (fun _=>rfl) (fun _=>rfl)
abbrev wb:List Ty:=[.ae aI,.ae aP,.ae i64,.ae aj,.ae aj,.ae aC,.ae aO,i64,.ae aD,.ae aK,.ae aH,.ae i64,.ae i64,.ae cw,.bool,.ae i64,.ae i64,i64]
abbrev pW:List Ty:=[.ae aI,.ae aP,.ae i64,.ae aj,.ae aj,.ae aC,.ae aO,i64,.ae aD,.ae aK,.ae aH,.ae i64,.ae i64,.ae cw,.bool,.ae i64]
def Tu:jW:=⟨0,fI Tryz.SO.code 0,[0,1,4,5],(Ps [jI 14,.im i64,.ow i64,.n .i64]),[⟨.lL,[0,4],Ps [jI 14,.ow i64]⟩]⟩
def adt:List (Nat×cQ):=[(92,s73)]
theorem Tv{V:ByteArray->Bool}{aq:aB}(W:WorldC V aq):dh aq (adt):=(.cons (yF W.toWorld) .nil)
def Og:List Pl->Lf.T Rs:=Tu.step (fun _=>none) (dH (adt) 3) 3
def adu:fE:=pR Tu (Og) wb pW
theorem Tw{V:ByteArray->Bool}{aq:aB}(W:WorldC V aq):ed Rx.w (adu) (fun n d=>gG (aq n d) n (.bl 0 (.lp Tu.body))):=fC (W.toWorld.in (Tv W) 3) (aE _) (m:=3) wb pW
def L85:Nat->Option fE:=pP [(0,adu)]
abbrev JM:List Ty:=[.ae aI,.ae aP,.ae i64,.ae aj,.ae aj,.ae aC,.ae aO,i64,.ae aD,.ae aK,.ae aH,.ae i64,.ae i64,.ae cw,.bool,.ae i64]
abbrev D0:List Ty:=[.ae aI,.ae aP,.ae i64,.ae aj,.ae aj,.ae aC,.ae aO,i64,.ae aD,.ae aK,.ae aH,.ae i64,.ae i64,.ae cw,.bool]
def e85:List (Nat×cQ):=[(91,s72)]
theorem ZK{V:ByteArray->Bool}{aq:aB}(W:WorldC V aq):dh aq (e85):=(.cons (yG W.toWorld) .nil)
def t85(x:ak JM):Lf.T (List Pl):=je (Ps [jI 0,.im i64]) [14] (Ps [.tu .nil,jI 14]) L85 Tryz.SO 18 (dH (e85) 18) (aA JM x)
def k85(x:ak JM):Bool:=jS D0 (t85 x)
def m85(x:ak JM):ak D0:=e9 D0 (t85 x)
def s85:cQ:=iy (Ps [jI 0,.im i64]) [14] (Ps [.tu .nil,jI 14]) JM D0 fun x=>.ck (k85 x) (.ok (m85 x))
theorem ZL{V:ByteArray->Bool}{aq:aB}(W:WorldC V aq):(s85).Ok 106 aq:=
 eX (W.toWorld.in (ZK W) 18) (W.toWorld.st 106 _ rfl) rfl (fq.jm (.cons (b:=Tu.body) (by kernel_rfl) (Tw W) .nil)) (m:=18) rfl (fun _=>rfl) (fun _=>rfl)
abbrev uQ:List Ty:=[.ae aI,.ae aP,.ae i64,.ae aj,.ae aj,.ae aC,.ae aO,i64,.ae aD,.ae aK,.ae aH,.ae i64,.ae i64,.ae cw,.bool,.ae i64,.ae i64,i64,i64]
abbrev nz:List Ty:=[.ae aI,.ae aP,.ae i64,.ae aj,.ae aj,.ae aC,.ae aO,i64,.ae aD,.ae aK,.ae aH,.ae i64,.ae i64,.ae cw,.bool,.ae i64]
def Tx:jW:=⟨1,fI Tryz.x96.code 1,[0,5,51,52,53],(Ps [jI 14,.im i64,.im i64,.n .i64,.n .i64]),[⟨.lL,[0,5],Ps [jI 14,.im i64]⟩]⟩
def adw:List (Nat×cQ):=[(95,VV),(105,s84),(106,s85)]
theorem Tz{V:ByteArray->Bool}{aq:aB}(W:WorldC V aq):dh aq (adw):=(.cons (s6 W.toWorld) (.cons (N2 W.toWorld) (.cons (ZL W) .nil)))
def JN:List Pl->Lf.T Rs:=Tx.step (fun _=>none) (dH (adw) 3) 3
def adx:fE:=pR Tx (JN) uQ nz
theorem TA{V:ByteArray->Bool}{aq:aB}(W:WorldC V aq):ed Rx.w (adx) (fun n d=>gG (aq n d) n (.bl 1 (.lp Tx.body))):=fC (W.toWorld.in (Tz W) 3) (aE _) (m:=3) uQ nz
def L77:Nat->Option fE:=pP [(1,adx)]
abbrev Oh:List Ty:=[.ae aI,.ae aP,.ae i64,.ae aj,.ae aj,.ae aC,.ae aO,i64,.ae aD,.ae aK,.ae aH,.ae i64,.ae i64,.ae cw,.bool,i64,i64,i64,u64,u64,.ae i64]
abbrev yL:List Ty:=[.ae aI,.ae aP,.ae i64,.ae aj,.ae aj,.ae aC,.ae aO,i64,.ae aD,.ae aK,.ae aH,.ae i64,.ae i64,.ae cw,.bool]
def e77:List (Nat×cQ):=[(90,s71),(91,s72),(92,s73),(104,s83),(105,s84),(107,s86)]
theorem ZM{V:ByteArray->Bool}{aq:aB}(W:WorldC V aq):dh aq (e77):=(.cons (Gj W.toWorld) (.cons (yG W.toWorld) (.cons (yF W.toWorld) (.cons (Zm W.toWorld) (.cons (N2 W.toWorld) (.cons (ZJ W) .nil))))))
def t77(x:ak Oh):Lf.T (List Pl):=je (Ps [jI 0,pI]) [14] (Ps [.tu .nil,jI 14]) L77 Tryz.x96 3 (dH (e77) 3) (aA Oh x)
def k77(x:ak Oh):Bool:=jS yL (t77 x)
def m77(x:ak Oh):ak yL:=e9 yL (t77 x)
def s77:cQ:=iy (Ps [jI 0,pI]) [14] (Ps [.tu .nil,jI 14]) Oh yL fun x=>.ck (k77 x) (.ok (m77 x))
theorem ZN{V:ByteArray->Bool}{aq:aB}(W:WorldC V aq):(s77).Ok 96 aq:=
 eX (W.toWorld.in (ZM W) 3) (W.toWorld.st 96 _ rfl) rfl (fq.jm (.cons (b:=Tx.body) (by kernel_rfl) (TA W) .nil)) (m:=3) rfl (fun _=>rfl) (fun _=>rfl)
abbrev JO:List Ty:=[.ae aI,.ae aP,.ae i64,.ae aj,.ae aj,.ae aC,.ae aO,i64,.ae aD,.ae aK,.ae aH,.ae i64,.ae i64,.ae cw,.bool,i64]
abbrev BO:List Ty:=[.ae aI,.ae aP,.ae i64,.ae aj,.ae aj,.ae aC,.ae aO,i64,.ae aD,.ae aK,.ae aH,.ae i64,.ae i64,.ae cw,.bool]
def e75:List (Nat×cQ):=[(76,s60),(90,s71),(91,s72),(95,VV),(103,s82)]
theorem ZO{V:ByteArray->Bool}{aq:aB}(W:WorldC V aq):dh aq (e75):=(.cons (Gl W.toWorld) (.cons (Gj W.toWorld) (.cons (yG W.toWorld) (.cons (s6 W.toWorld) (.cons (Zz W.toWorld) .nil)))))
def t75(x:ak JO):Lf.T (List Pl):=je (Ps [jI 0,.n .i64]) [14] (Ps [.tu .nil,jI 14]) (fun _=>none) Tryz.x94 3 (dH (e75) 3) (aA JO x)
def k75(x:ak JO):Bool:=jS BO (t75 x)
def m75(x:ak JO):ak BO:=e9 BO (t75 x)
def s75:cQ:=iy (Ps [jI 0,.n .i64]) [14] (Ps [.tu .nil,jI 14]) JO BO fun x=>.ck (k75 x) (.ok (m75 x))
theorem ZP{V:ByteArray->Bool}{aq:aB}(W:WorldC V aq):(s75).Ok 94 aq:=
 eX (W.toWorld.in (ZO W) 3) (W.toWorld.st 94 _ rfl) rfl (aE _) (m:=3) rfl (fun _=>rfl) (fun _=>rfl)
abbrev Gp:List Ty:=[.ae aI,.ae aP,.ae i64,.ae aj,.ae aj,.ae aC,.ae aO,i64,.ae aD,.ae aK,.ae aH,.ae i64,.ae i64,.ae cw,.bool,i64,i64,i64,u64,u64,.ae i64]
abbrev lY:List Ty:=[.ae aI,.ae aP,.ae i64,.ae aj,.ae aj,.ae aC,.ae aO,i64,.ae aD,.ae aK,.ae aH,.ae i64,.ae i64,.ae cw,.bool]
def e62:List (Nat×cQ):=[(70,s10),(88,s11),(85,s21),(76,s60),(89,s70),(90,s71),(91,s72),(92,s73),(93,s74),(94,s75),(95,VV),(96,s77)]
theorem ZQ{V:ByteArray->Bool}{aq:aB}(W:WorldC V aq):dh aq (e62):=(.cons (BJ W) (.cons (Nq W.toWorld) (.cons (Gk W) (.cons (Gl W.toWorld) (.cons (ZB W.toWorld) (.cons (Gj W.toWorld) (.cons (yG W.toWorld) (.cons (yF W.toWorld) (.cons (Zt W) (.cons (ZP W) (.cons (s6 W.toWorld) (.cons (ZN W) .nil))))))))))))
def t62(x:ak Gp):Lf.T (List Pl):=je (Ps [jI 0,pI]) [14] (Ps [.tu .nil,jI 14]) (fun _=>none) Tryz.x78 3 (dH (e62) 3) (aA Gp x)
def k62(x:ak Gp):Bool:=jS lY (t62 x)
def At(x:ak Gp):ak lY:=e9 lY (t62 x)
def ZR:cQ:=iy (Ps [jI 0,pI]) [14] (Ps [.tu .nil,jI 14]) Gp lY fun x=>.ck (k62 x) (.ok (At x))
theorem ZS{V:ByteArray->Bool}{aq:aB}(W:WorldC V aq):(ZR).Ok 78 aq:=
 eX (W.toWorld.in (ZQ W) 3) (W.toWorld.st 78 _ rfl) rfl (aE _) (m:=3) rfl (fun _=>rfl) (fun _=>rfl)
end Go.Proofs.Vd

noncomputable section
namespace Go.Proofs.Vd
open Go.Ab Go.Ab.Lf
set_option maxRecDepth 100000
abbrev uR:List Ty:=[.ae (.ae i64),i64,.ae (.ae i64),i64,i64]
abbrev lZ:List Ty:=[.ae (.ae i64),i64]
def TB:jW:=⟨0,fI Tryz.x75.code 0,[0,3,9,10,11],(Ps [.im (.ae i64),.n .i64,.im (.ae i64),.n .i64,.n .i64]),[⟨.lL,[0,3],Ps [.im (.ae i64),.n .i64]⟩]⟩
def adD:List (Nat×cQ):=[]
theorem TC{V:ByteArray->Bool}{aq:aB}(W:WorldC V aq):dh aq (adD):=.nil
def Gq:List Pl->Lf.T Rs:=TB.step (fun _=>none) (dH (adD) 3) 3
def adE:fE:=pR TB (Gq) uR lZ
theorem TD{V:ByteArray->Bool}{aq:aB}(W:WorldC V aq):ed Rx.w (adE) (fun n d=>gG (aq n d) n (.bl 0 (.lp TB.body))):=fC (W.toWorld.in (TC W) 3) (aE _) (m:=3) uR lZ
abbrev sw:List Ty:=[.ae i64,.ae (.ae i64),i64,i64]
abbrev l8:List Ty:=[.ae i64]
def TE:jW:=⟨2,fI Tryz.x75.code 2,[6,25,26,27],(Ps [.ow i64,.im (.ae i64),.n .i64,.n .i64]),[⟨.lL,[6],Ps [.ow i64]⟩]⟩
def adF:List (Nat×cQ):=[]
theorem TF{V:ByteArray->Bool}{aq:aB}(W:WorldC V aq):dh aq (adF):=.nil
def D2:List Pl->Lf.T Rs:=TE.step (fun _=>none) (dH (adF) 3) 3
def adG:fE:=pR TE (D2) sw l8
theorem TG{V:ByteArray->Bool}{aq:aB}(W:WorldC V aq):ed Rx.w (adG) (fun n d=>gG (aq n d) n (.bl 2 (.lp TE.body))):=fC (W.toWorld.in (TF W) 3) (aE _) (m:=3) sw l8
def L59:Nat->Option fE:=pP [(0,adE),(2,adG)]
abbrev Oi:List Ty:=[.ae (.ae i64)]
abbrev Gr:List Ty:=[.ae i64]
def e59:List (Nat×cQ):=[]
theorem ZT{V:ByteArray->Bool}{aq:aB}(W:WorldC V aq):dh aq (e59):=.nil
def t59(x:ak Oi):Lf.T (List Pl):=je (Ps [.im (.ae i64)]) [] (Ps [.ow i64]) L59 Tryz.x75 3 (dH (e59) 3) (aA Oi x)
def k59(x:ak Oi):Bool:=jS Gr (t59 x)
def m59(x:ak Oi):ak Gr:=e9 Gr (t59 x)
def s59:cQ:=iy (Ps [.im (.ae i64)]) [] (Ps [.ow i64]) Oi Gr fun x=>.ck (k59 x) (.ok (m59 x))
theorem ZU{V:ByteArray->Bool}{aq:aB}(W:WorldC V aq):(s59).Ok 75 aq:=
 eX (W.toWorld.in (ZT W) 3) (W.toWorld.st 75 _ rfl) rfl (fq.jm (.cons (b:=TB.body) (by kernel_rfl) (TD W) (.cons (b:=TE.body) (by kernel_rfl) (TG W) .nil))) (m:=3) rfl (fun _=>rfl) (fun _=>rfl)
abbrev uS:List Ty:=[.ae (.ae aj),i64,.ae (.ae aj),i64,i64]
abbrev mb:List Ty:=[.ae (.ae aj),i64]
def TH:jW:=⟨0,fI Tryz.x71.code 0,[0,3,9,10,11],(Ps [.im (.ae aj),.n .i64,.im (.ae aj),.n .i64,.n .i64]),[⟨.lL,[0,3],Ps [.im (.ae aj),.n .i64]⟩]⟩
def adJ:List (Nat×cQ):=[]
theorem TI{V:ByteArray->Bool}{aq:aB}(W:WorldC V aq):dh aq (adJ):=.nil
def Gs:List Pl->Lf.T Rs:=TH.step (fun _=>none) (dH (adJ) 3) 3
def adK:fE:=pR TH (Gs) uS mb
theorem TJ{V:ByteArray->Bool}{aq:aB}(W:WorldC V aq):ed Rx.w (adK) (fun n d=>gG (aq n d) n (.bl 0 (.lp TH.body))):=fC (W.toWorld.in (TI W) 3) (aE _) (m:=3) uS mb
abbrev sx:List Ty:=[.ae aj,.ae (.ae aj),i64,i64]
abbrev mc:List Ty:=[.ae aj]
def TK:jW:=⟨2,fI Tryz.x71.code 2,[6,25,26,27],(Ps [.ow aj,.im (.ae aj),.n .i64,.n .i64]),[⟨.lL,[6],Ps [.ow aj]⟩]⟩
def adL:List (Nat×cQ):=[]
theorem TL{V:ByteArray->Bool}{aq:aB}(W:WorldC V aq):dh aq (adL):=.nil
def D3:List Pl->Lf.T Rs:=TK.step (fun _=>none) (dH (adL) 3) 3
def adM:fE:=pR TK (D3) sx mc
theorem TM{V:ByteArray->Bool}{aq:aB}(W:WorldC V aq):ed Rx.w (adM) (fun n d=>gG (aq n d) n (.bl 2 (.lp TK.body))):=fC (W.toWorld.in (TL W) 3) (aE _) (m:=3) sx mc
def L55:Nat->Option fE:=pP [(0,adK),(2,adM)]
abbrev Oj:List Ty:=[.ae (.ae aj)]
abbrev Gt:List Ty:=[.ae aj]
def e55:List (Nat×cQ):=[]
theorem ZV{V:ByteArray->Bool}{aq:aB}(W:WorldC V aq):dh aq (e55):=.nil
def t55(x:ak Oj):Lf.T (List Pl):=je (Ps [.im (.ae aj)]) [] (Ps [.ow aj]) L55 Tryz.x71 3 (dH (e55) 3) (aA Oj x)
def k55(x:ak Oj):Bool:=jS Gt (t55 x)
def m55(x:ak Oj):ak Gt:=e9 Gt (t55 x)
def ZW:cQ:=iy (Ps [.im (.ae aj)]) [] (Ps [.ow aj]) Oj Gt fun x=>.ck (k55 x) (.ok (m55 x))
theorem ZX{V:ByteArray->Bool}{aq:aB}(W:WorldC V aq):(ZW).Ok 71 aq:=
 eX (W.toWorld.in (ZV W) 3) (W.toWorld.st 71 _ rfl) rfl (fq.jm (.cons (b:=TH.body) (by kernel_rfl) (TJ W) (.cons (b:=TK.body) (by kernel_rfl) (TM W) .nil))) (m:=3) rfl (fun _=>rfl) (fun _=>rfl)
abbrev tC:Ty:=.pair .bool (.pair i64 i64)
abbrev H8:jV:=.pt 0 (Ps [.im aI,.im aP,.im i64,.im aj,.im aj,.im aC,.im aO,.n .i64,.im aD,.im aK,.im aH])
abbrev sy:List Ty:=[.ae aI,.ae aP,.ae i64,.ae aj,.ae aj,.ae aC,.ae aO,i64,.ae aD,.ae aK,.ae aH,.ae i64,.ae i64,.ae cw,.bool,.ae tC,i64,i64,i64,i64,u64,u64,.ae i64,.ae tI,i64,i64,i64,i64,i64]
abbrev mf:List Ty:=[.ae aI,.ae aP,.ae i64,.ae aj,.ae aj,.ae aC,.ae aO,i64,.ae aD,.ae aK,.ae aH,.ae i64,.ae i64,.ae cw,.bool,.ae tC,i64,i64,i64,i64,u64,u64,.ae i64,.ae tI,i64,i64,i64]
def TN:jW:=⟨2,fI Tryz.x27.code 2,[8,9,11,12,57,58,59,10,80,81,82],(Ps [jI 0,.ow tC,.n .i64,pBI,.im tI,.n .i64,.n .i64,.n .i64,.oo 12 1,.n .i64,.n .i64]),[⟨.lL,[8,9,11,12,57,58,59,10],Ps [jI 0,.ow tC,.n .i64,pBI,.im tI,.n .i64,.n .i64,.n .i64]⟩]⟩
def adO:List (Nat×cQ):=[]
theorem TO{V:ByteArray->Bool}{aq:aB}(W:WorldC V aq):dh aq (adO):=.nil
def JP:List Pl->Lf.T Rs:=TN.step (fun _=>none) (dH (adO) 3) 3
def adP:fE:=pR TN (JP) sy mf
theorem TP{V:ByteArray->Bool}{aq:aB}(W:WorldC V aq):ed Rx.w (adP) (fun n d=>gG (aq n d) n (.bl 2 (.lp TN.body))):=fC (W.toWorld.in (TO W) 3) (aE _) (m:=3) sy mf
def ajo:Nat->Option fE:=pP [(2,adP)]
abbrev ik:List Ty:=[.ae aI,.ae aP,.ae i64,.ae aj,.ae aj,.ae aC,.ae aO,i64,.ae aD,.ae aK,.ae aH,.ae i64,.ae i64,.ae cw,.bool,.ae tC,.ae tI,i64,i64]
abbrev gg:List Ty:=[.ae tC]
abbrev il:List Ty:=[.ae tC,.bool]
def TQ:jW:=⟨0,fI Tryz.x27.code 0,[8,9,57,58,59],(Ps [jI 0,.ow tC,.im tI,.n .i64,.n .i64]),[⟨.lL,[9],Ps [.ow tC]⟩,⟨.rt,[4,5],Ps [.ow tC,.bo]⟩]⟩
def adQ:List (Nat×cQ):=[(78,ZR)]
theorem TS{V:ByteArray->Bool}{aq:aB}(W:WorldC V aq):dh aq (adQ):=(.cons (ZS W) .nil)
def s7:List Pl->Lf.T Rs:=TQ.step ajo (dH (adQ) 3) 3
def adR:fE:=vw TQ (s7) ik gg il
theorem TT{V:ByteArray->Bool}{aq:aB}(W:WorldC V aq):ed Rx.w (adR) (fun n d=>gG (aq n d) n (.bl 0 (.lp TQ.body))):=jx (W.toWorld.in (TS W) 3) (fq.jm (.cons (b:=TN.body) (by kernel_rfl) (TP W) .nil)) (m:=3) ik gg il
def L20:Nat->Option fE:=pP [(0,adR)]
abbrev Ol:List Ty:=[.ae aI,.ae aP,.ae i64,.ae aj,.ae aj,.ae aC,.ae aO,i64,.ae aD,.ae aK,.ae aH,i64]
abbrev BP:List Ty:=[.ae tC,.bool]
def e20:List (Nat×cQ):=[(70,s10),(75,s59),(76,s60)]
theorem ZY{V:ByteArray->Bool}{aq:aB}(W:WorldC V aq):dh aq (e20):=(.cons (BJ W) (.cons (ZU W) (.cons (Gl W.toWorld) .nil)))
def t20(x:ak Ol):Lf.T (List Pl):=je (Ps [pM,.n .i64]) [] (Ps [.tu (Ps [.ow tC,.bo])]) L20 Tryz.x27 3 (dH (e20) 3) (aA Ol x)
def k20(x:ak Ol):Bool:=jS BP (t20 x)
def m20(x:ak Ol):ak BP:=e9 BP (t20 x)
def s20:cQ:=iy (Ps [pM,.n .i64]) [] (Ps [.tu (Ps [.ow tC,.bo])]) Ol BP fun x=>.ck (k20 x) (.ok (m20 x))
theorem ZZ{V:ByteArray->Bool}{aq:aB}(W:WorldC V aq):(s20).Ok 27 aq:=
 eX (W.toWorld.in (ZY W) 3) (W.toWorld.st 27 _ rfl) rfl (fq.jm (.cons (b:=TQ.body) (by kernel_rfl) (TT W) .nil)) (m:=3) rfl (fun _=>rfl) (fun _=>rfl)
abbrev ra:List Ty:=[i64,.ae aI,.ae aP,.ae i64,.ae aj,.ae aj,.ae aC,.ae aO,i64,.ae aD,.ae aK,.ae aH,.ae aD,i64,i64,.ae i64,i64,i64]
abbrev pX:List Ty:=[i64,.ae aI,.ae aP,.ae i64,.ae aj,.ae aj,.ae aC,.ae aO,i64,.ae aD,.ae aK,.ae aH,.ae aD,i64,i64]
abbrev rI:List Ty:=[.bool]
def TU:jW:=⟨2,fI Tryz.x74.code 2,[1,2,12,13,14,29,30,31],(Ps [.n .i64,H8,.im aD,.n .i64,.n .i64,.im i64,.n .i64,.n .i64]),[⟨.lL,[1,2,12,13,14],Ps [.n .i64,H8,.im aD,.n .i64,.n .i64]⟩,⟨.rt,[4],Ps [.bo]⟩]⟩
def adT:List (Nat×cQ):=[]
theorem TW{V:ByteArray->Bool}{aq:aB}(W:WorldC V aq):dh aq (adT):=.nil
def Gu:List Pl->Lf.T Rs:=TU.step (fun _=>none) (dH (adT) 3) 3
def adU:fE:=vw TU (Gu) ra pX rI
theorem TX{V:ByteArray->Bool}{aq:aB}(W:WorldC V aq):ed Rx.w (adU) (fun n d=>gG (aq n d) n (.bl 2 (.lp TU.body))):=jx (W.toWorld.in (TW W) 3) (aE _) (m:=3) ra pX rI
def ajq:Nat->Option fE:=pP [(2,adU)]
abbrev ql:List Ty:=[i64,.ae aI,.ae aP,.ae i64,.ae aj,.ae aj,.ae aC,.ae aO,i64,.ae aD,.ae aK,.ae aH,.ae aD,i64,i64]
abbrev nA:List Ty:=[.ae aI,.ae aP,.ae i64,.ae aj,.ae aj,.ae aC,.ae aO,i64,.ae aD,.ae aK,.ae aH]
abbrev nB:List Ty:=[.bool]
def TY:jW:=⟨0,fI Tryz.x74.code 0,[1,2,12,13,14],(Ps [.n .i64,H8,.im aD,.n .i64,.n .i64]),[⟨.lL,[2],Ps [H8]⟩,⟨.rt,[4],Ps [.bo]⟩]⟩
def adV:List (Nat×cQ):=[(72,s56)]
theorem TZ{V:ByteArray->Bool}{aq:aB}(W:WorldC V aq):dh aq (adV):=(.cons (Gi W.toWorld) .nil)
def Gv:List Pl->Lf.T Rs:=TY.step ajq (dH (adV) 3) 3
def adW:fE:=vw TY (Gv) ql nA nB
theorem T3{V:ByteArray->Bool}{aq:aB}(W:WorldC V aq):ed Rx.w (adW) (fun n d=>gG (aq n d) n (.bl 0 (.lp TY.body))):=jx (W.toWorld.in (TZ W) 3) (fq.jm (.cons (b:=TU.body) (by kernel_rfl) (TX W) .nil)) (m:=3) ql nA nB
abbrev sA:List Ty:=[.ae aI,.ae aP,.ae i64,.ae aj,.ae aj,.ae aC,.ae aO,i64,.ae aD,.ae aK,.ae aH,.ae aH,i64,i64]
abbrev rJ:List Ty:=[]
abbrev pY:List Ty:=[.bool]
def T4:jW:=⟨4,fI Tryz.x74.code 4,[2,41,42,43],(Ps [H8,.im aH,.n .i64,.n .i64]),[⟨.lL,[],.nil⟩,⟨.rt,[4],Ps [.bo]⟩]⟩
def adX:List (Nat×cQ):=[(72,s56)]
theorem T5{V:ByteArray->Bool}{aq:aB}(W:WorldC V aq):dh aq (adX):=(.cons (Gi W.toWorld) .nil)
def JQ:List Pl->Lf.T Rs:=T4.step (fun _=>none) (dH (adX) 3) 3
def adY:fE:=vw T4 (JQ) sA rJ pY
theorem T6{V:ByteArray->Bool}{aq:aB}(W:WorldC V aq):ed Rx.w (adY) (fun n d=>gG (aq n d) n (.bl 4 (.lp T4.body))):=jx (W.toWorld.in (T5 W) 3) (aE _) (m:=3) sA rJ pY
def L58:Nat->Option fE:=pP [(0,adW),(4,adY)]
abbrev Om:List Ty:=[.ae aI,.ae aP,.ae i64,.ae aj,.ae aj,.ae aC,.ae aO,i64,.ae aD,.ae aK,.ae aH,i64]
abbrev D4:List Ty:=[.bool]
def e58:List (Nat×cQ):=[]
theorem Z0{V:ByteArray->Bool}{aq:aB}(W:WorldC V aq):dh aq (e58):=.nil
def t58(x:ak Om):Lf.T (List Pl):=je (Ps [pM,.n .i64]) [] (Ps [.bo]) L58 Tryz.x74 3 (dH (e58) 3) (aA Om x)
def k58(x:ak Om):Bool:=jS D4 (t58 x)
def m58(x:ak Om):ak D4:=e9 D4 (t58 x)
def s58:cQ:=iy (Ps [pM,.n .i64]) [] (Ps [.bo]) Om D4 fun x=>.ck (k58 x) (.ok (m58 x))
theorem Z1{V:ByteArray->Bool}{aq:aB}(W:WorldC V aq):(s58).Ok 74 aq:=
 eX (W.toWorld.in (Z0 W) 3) (W.toWorld.st 74 _ rfl) rfl (fq.jm (.cons (b:=TY.body) (by kernel_rfl) (T3 W) (.cons (b:=T4.body) (by kernel_rfl) (T6 W) .nil))) (m:=3) rfl (fun _=>rfl) (fun _=>rfl)
end Go.Proofs.Vd


noncomputable section
namespace Go.Proofs
abbrev Nx:=ByteArray×Int×Int
def kv(s:ByteArray)(ns:List ByteArray):Bool:= @decide (s∈ns) (Classical.propDecidable _)
def ajt(cs:List Int)(xs:List Nx)(k:Nat):Bool:= !(kv (xs.getD k (ByteArray.empty,0,0)).1 ((xs.take k).map Prod.fst))&& !decide (cs.getD (xs.getD k (ByteArray.empty,0,0)).2.1.toNat 0<=(xs.getD k (ByteArray.empty,0,0)).2.2)
def ad0(cs:List Int)(xs:List Nx):Bool:=(List.range xs.length).all (ajt cs xs)
end Go.Proofs

noncomputable section
namespace Go.Proofs.Vd
open Go.Ab Go.Ab.Lf
set_option maxRecDepth 100000
def Z2(t:List (den aI))(im:List (den aP))(fs:List Int)(st:Int):Bool:=bif decide (st= -1)then true else
 bif dN t (dP im fs st)then(bif decide (((ca t (dP im fs st)).1.length:Int)=0)then decide (((ca t (dP im fs st)).2.length:Int)=0)else false)else false
def Z3(ex:List (den aO)):Bool:=decide (ex.length=0)
def On(x:ak VY):Bool:=cb (fun e=>decide (0<=e.2.1)&&decide (e.2.1<=3)) x.2.2.2.2.2.2.1&&((decide (x.2.2.2.2.2.2.2.1<9223372036854775808)&&decide (x.2.1.length<=1099511627776))&&decide (x.2.2.2.2.2.2.1.length<=1099511627776))&&Z3 x.2.2.2.2.2.2.1&&gT x.1
def mNm(x:ak VY):Bool:=bif ad0 [x.2.2.2.2.2.2.2.2.2.2.2.1,(x.2.2.2.1.length:Int),(x.2.2.2.2.1.length:Int),(x.2.2.2.2.2.1.length:Int)] x.2.2.2.2.2.2.1 then Z2 x.1 x.2.1 x.2.2.1 x.2.2.2.2.2.2.2.1 else false
def s57:cQ:=iy (Ps [pM,.n .i64]) [] (Ps [.bo]) VY [.bool] fun x=>.ck (On x) (.ok (mNm x,()))
structure WorldN(V:ByteArray->Bool)(aq:aB):Prop extends WorldC V aq where
 nm:s57.Ok 73 aq
abbrev oS:List Ty:=[i64,.ae aI,.ae aP,.ae i64,.ae aj,.ae aj,.ae aC,.ae aO,i64,.ae aD,.ae aK,.ae aH,i64,i64]
abbrev mg:List Ty:=[i64,.ae aI,.ae aP,.ae i64,.ae aj,.ae aj,.ae aC,.ae aO,i64,.ae aD,.ae aK,.ae aH]
abbrev nC:List Ty:=[.bool]
def T7:jW:=⟨0,fI Tryz.x26.code 0,[3,1,18,19],(Ps [.n .i64,H8,.n .i64,.n .i64]),[⟨.lL,[3,1],Ps [.n .i64,H8]⟩,⟨.rt,[2],Ps [.bo]⟩]⟩
def ad2:List (Nat×cQ):=[(70,s10)]
theorem T8{V:ByteArray->Bool}{aq:aB}(W:WorldN V aq):dh aq (ad2):=(.cons (BJ W.toWorldC) .nil)
def D5:List Pl->Lf.T Rs:=T7.step (fun _=>none) (dH (ad2) 3) 3
def ad3:fE:=vw T7 (D5) oS mg nC
theorem T9{V:ByteArray->Bool}{aq:aB}(W:WorldN V aq):ed Rx.w (ad3) (fun n d=>gG (aq n d) n (.bl 0 (.lp T7.body))):=jx (W.toWorld.in (T8 W) 3) (aE _) (m:=3) oS mg nC
abbrev rb:List Ty:=[i64,.ae aI,.ae aP,.ae i64,.ae aj,.ae aj,.ae aC,.ae aO,i64,.ae aD,.ae aK,.ae aH,.ae aj,i64,i64]
abbrev nD:List Ty:=[i64,.ae aI,.ae aP,.ae i64,.ae aj,.ae aj,.ae aC,.ae aO,i64,.ae aD,.ae aK,.ae aH]
abbrev pZ:List Ty:=[.bool]
def Ua:jW:=⟨2,fI Tryz.x26.code 2,[3,1,46,47,48],(Ps [.n .i64,H8,.im aj,.n .i64,.n .i64]),[⟨.lL,[3,1],Ps [.n .i64,H8]⟩,⟨.rt,[2],Ps [.bo]⟩]⟩
def ad4:List (Nat×cQ):=[]
theorem Ub{V:ByteArray->Bool}{aq:aB}(W:WorldN V aq):dh aq (ad4):=.nil
def Gw:List Pl->Lf.T Rs:=Ua.step (fun _=>none) (dH (ad4) 3) 3
def ad5:fE:=vw Ua (Gw) rb nD pZ
theorem Uc{V:ByteArray->Bool}{aq:aB}(W:WorldN V aq):ed Rx.w (ad5) (fun n d=>gG (aq n d) n (.bl 2 (.lp Ua.body))):=jx (W.toWorld.in (Ub W) 3) (aE _) (m:=3) rb nD pZ
abbrev rh:List Ty:=[i64,.ae aI,.ae aP,.ae i64,.ae aj,.ae aj,.ae aC,.ae aO,i64,.ae aD,.ae aK,.ae aH,.ae aC,i64,i64]
abbrev nE:List Ty:=[i64,.ae aI,.ae aP,.ae i64,.ae aj,.ae aj,.ae aC,.ae aO,i64,.ae aD,.ae aK,.ae aH]
abbrev p8:List Ty:=[.bool]
def Ud:jW:=⟨4,fI Tryz.x26.code 4,[3,1,76,77,78],(Ps [.n .i64,H8,.im aC,.n .i64,.n .i64]),[⟨.lL,[3,1],Ps [.n .i64,H8]⟩,⟨.rt,[2],Ps [.bo]⟩]⟩
def ad6:List (Nat×cQ):=[(72,s56)]
theorem Ue{V:ByteArray->Bool}{aq:aB}(W:WorldN V aq):dh aq (ad6):=(.cons (Gi W.toWorld) .nil)
def Gx:List Pl->Lf.T Rs:=Ud.step (fun _=>none) (dH (ad6) 3) 3
def ad7:fE:=vw Ud (Gx) rh nE p8
theorem Uf{V:ByteArray->Bool}{aq:aB}(W:WorldN V aq):ed Rx.w (ad7) (fun n d=>gG (aq n d) n (.bl 4 (.lp Ud.body))):=jx (W.toWorld.in (Ue W) 3) (aE _) (m:=3) rh nE p8
def L19:Nat->Option fE:=pP [(0,ad3),(2,ad5),(4,ad7)]
abbrev Oo:List Ty:=[.ae aI,.ae aP,.ae i64,.ae aj,.ae aj,.ae aC,.ae aO,i64,.ae aD,.ae aK,.ae aH]
abbrev wE:List Ty:=[.bool]
def e19:List (Nat×cQ):=[(71,ZW),(73,s57),(74,s58)]
theorem Z4{V:ByteArray->Bool}{aq:aB}(W:WorldN V aq):dh aq (e19):=(.cons (ZX W.toWorldC) (.cons W.nm (.cons (Z1 W.toWorldC) .nil)))
def t19(x:ak Oo):Lf.T (List Pl):=je (Ps [pM]) [] (Ps [.bo]) L19 Tryz.x26 3 (dH (e19) 3) (aA Oo x)
def k19(x:ak Oo):Bool:=jS wE (t19 x)
def m19(x:ak Oo):ak wE:=e9 wE (t19 x)
def s19:cQ:=iy (Ps [pM]) [] (Ps [.bo]) Oo wE fun x=>.ck (k19 x) (.ok (m19 x))
theorem Z5{V:ByteArray->Bool}{aq:aB}(W:WorldN V aq):(s19).Ok 26 aq:=
 eX (W.toWorld.in (Z4 W) 3) (W.toWorld.st 26 _ rfl) rfl (fq.jm (.cons (b:=T7.body) (by kernel_rfl) (T9 W) (.cons (b:=Ua.body) (by kernel_rfl) (Uc W) (.cons (b:=Ud.body) (by kernel_rfl) (Uf W) .nil)))) (m:=3) rfl (fun _=>rfl) (fun _=>rfl)
abbrev BQ:List Ty:=[.ae aI,.ae aP,.ae i64,.ae aj,.ae aj,.ae aC,.ae aO,i64,.ae aD,.ae aK,.ae aH,i64,i64]
abbrev vF:List Ty:=[]
abbrev s9:List Ty:=[i64]
def l8x:jW:=⟨0,fI Tryz.x9.code 0,[1,21,22],(Ps [H8,.n .i64,.n .i64]),[⟨.lL,[],.nil⟩,⟨.rt,[2],Ps [.n .i64]⟩]⟩
def e8x:List (Nat×cQ):=[(27,s20)]
theorem Z6{V:ByteArray->Bool}{aq:aB}(W:WorldN V aq):dh aq (e8x):=(.cons (ZZ W.toWorldC) .nil)
def f8x:List Pl->Lf.T Rs:=l8x.step (fun _=>none) (dH (e8x) 3) 3
def c8x:fE:=vw l8x (f8x) BQ vF s9
theorem Z7{V:ByteArray->Bool}{aq:aB}(W:WorldN V aq):ed Rx.w (c8x) (fun n d=>gG (aq n d) n (.bl 0 (.lp l8x.body))):=jx (W.toWorld.in (Z6 W) 3) (aE _) (m:=3) BQ vF s9
def L8:Nat->Option fE:=pP [(0,c8x)]
abbrev ti8:List Ty:=[.ae aI,.ae aP,.ae i64,.ae aj,.ae aj,.ae aC,.ae aO,i64,.ae aD,.ae aK,.ae aH]
abbrev Ug:List Ty:=[i64]
def e8(V:ByteArray->Bool):List (Nat×cQ):=[(25,s18 V),(26,s19)]
theorem aea{V:ByteArray->Bool}{aq:aB}(W:WorldN V aq):dh aq (e8 V):=(.cons (Ze W.toWorldV) (.cons (Z5 W) .nil))
def t8(V:ByteArray->Bool)(x:ak ti8):Lf.T (List Pl):=je (Ps [pM]) [] (Ps [.n .i64]) L8 Tryz.x9 3 (dH (e8 V) 3) (aA ti8 x)
def k8(V:ByteArray->Bool)(x:ak ti8):Bool:=jS Ug (t8 V x)
def m8(V:ByteArray->Bool)(x:ak ti8):ak Ug:=e9 Ug (t8 V x)
def s8(V:ByteArray->Bool):cQ:=iy (Ps [pM]) [] (Ps [.n .i64]) ti8 Ug fun x=>.ck (k8 V x) (.ok (m8 V x))
theorem aeb{V:ByteArray->Bool}{aq:aB}(W:WorldN V aq):(s8 V).Ok 9 aq:=
 eX (W.toWorld.in (aea W) 3) (W.toWorld.st 9 _ rfl) rfl (fq.jm (.cons (b:=l8x.body) (by kernel_rfl) (Z7 W) .nil)) (m:=3) rfl (fun _=>rfl) (fun _=>rfl)
end Go.Proofs.Vd

noncomputable section
namespace Go.Proofs.Vd
open Go.Ab Go.Ab.Lf
set_option maxRecDepth 100000
abbrev W3:=List Int×List (den cw)×Bool
abbrev wk(y:ak tM)(lo:List Int)(w:W3):ak w9:=(y.1,y.2.1,y.2.2.1,y.2.2.2.1,y.2.2.2.2.1,y.2.2.2.2.2.1,y.2.2.2.2.2.2.1,y.2.2.2.2.2.2.2.1,y.2.2.2.2.2.2.2.2.1,y.2.2.2.2.2.2.2.2.2.1,y.2.2.2.2.2.2.2.2.2.2.1,lo,w.1,w.2.1,w.2.2,())
abbrev p9(y:ak tM)(lo:List Int)(w:W3)(i:den tI):ak Gp:=(y.1,y.2.1,y.2.2.1,y.2.2.2.1,y.2.2.2.2.1,y.2.2.2.2.2.1,y.2.2.2.2.2.2.1,y.2.2.2.2.2.2.2.1,y.2.2.2.2.2.2.2.2.1,y.2.2.2.2.2.2.2.2.2.1,y.2.2.2.2.2.2.2.2.2.2.1,lo,w.1,w.2.1,w.2.2,i.1,i.2.1,i.2.2.1,i.2.2.2.1,i.2.2.2.2.1,i.2.2.2.2.2,())
abbrev Qj(y:ak tM)(lo:List Int)(w:W3)(l:List Int):ak JM:=(y.1,y.2.1,y.2.2.1,y.2.2.2.1,y.2.2.2.2.1,y.2.2.2.2.2.1,y.2.2.2.2.2.2.1,y.2.2.2.2.2.2.2.1,y.2.2.2.2.2.2.2.2.1,y.2.2.2.2.2.2.2.2.2.1,y.2.2.2.2.2.2.2.2.2.2.1,lo,w.1,w.2.1,w.2.2,l,())
abbrev Qk(y:ak tM)(lo:List Int)(w:W3)(n:Int):ak JO:=(y.1,y.2.1,y.2.2.1,y.2.2.2.1,y.2.2.2.2.1,y.2.2.2.2.2.1,y.2.2.2.2.2.2.1,y.2.2.2.2.2.2.2.1,y.2.2.2.2.2.2.2.2.1,y.2.2.2.2.2.2.2.2.2.1,y.2.2.2.2.2.2.2.2.2.2.1,lo,w.1,w.2.1,w.2.2,n,())
end Go.Proofs.Vd

noncomputable section
namespace Go.Proofs.Vd
open Go.Ab Go.Ab.Lf
set_option maxRecDepth 100000
theorem ajw(y:ak tM)(lo:List Int)(w:W3)(n:Int)(B:den cw)(hB:B=w.2.1.getD (bO .i64 (w.2.1.length:Int) 1).toNat (ao cw))(bl:List (den cw))(X9:bl=(w.2.1.drop 0).take ((bO .i64 (w.2.1.length:Int) 1).toNat - 0))
 (S:List Int×Bool)(hS:S=rY B.2.2.2.1 w.2.1 B.2.2.2.1.length w.1 w.2.2)(b1:Bool)(hb:b1=(S.2|| !decide ((S.1.length:Int)=B.2.1))):
 (t75 (Qk y lo w n)).val=aS (bg (bO .i64 (w.2.1.length:Int) 1) (w.2.1.length:Int)) (aS (decide (B.2.2.2.1.length<=1099511627776)&&okW w.1 w.2.1) (aS (eL 0 (bO .i64 (w.2.1.length:Int) 1) (w.2.1.length:Int))
  (bif b1 then aS (roomy 72 (bl.length+1)) (some (aA BO (wk y lo (S.1,app bl [B],b1))))else
   bif decide (n=5)then aS (decide (bl.length+1<=549755813888)) (aS (decide (S.1.length+B.2.2.1.length<=1099511627776)) (some (aA BO (wk y lo (S.1++B.2.2.1,ff S.1 bl 5 B.2.2.1 B.2.2.2.1,b1)))))else
   bif !decide (B.1=4)then aS (decide (S.1.length+B.2.2.2.1.length<=1099511627776)) (some (aA BO (wk y lo (S.1++B.2.2.2.1,bl,b1|| !true))))else
    aS (decide (B.2.2.1.length<=1099511627776)) (aS (decide (S.1.length+B.2.2.2.1.length<=1099511627776)) (some (aA BO (wk y lo (S.1++B.2.2.2.1,bl,b1|| !decide (B.2.2.1=B.2.2.2.1))))))))):=by
 subst hB;subst X9;subst hS;subst hb
 kernel_rfl
abbrev wkA(y:ak tM)(lo:List Int)(w:W3)(l uT:List Int)(n:Int):ak wb:=(y.1,y.2.1,y.2.2.1,y.2.2.2.1,y.2.2.2.2.1,y.2.2.2.2.2.1,y.2.2.2.2.2.2.1,y.2.2.2.2.2.2.2.1,y.2.2.2.2.2.2.2.2.1,y.2.2.2.2.2.2.2.2.2.1,y.2.2.2.2.2.2.2.2.2.2.1,lo,w.1,w.2.1,w.2.2,l,uT,n,())
theorem V0(y:ak tM)(lo:List Int)(w:W3)(L uT:List Int)(i:Int):(Og (aA wb (wkA y lo w L uT i))).val=
 bif decide (0<=i)then aS (bg i (L.length:Int)) (aS (okW w.1 w.2.1) (aS (roomy 8 (uT.length+1)) (some (Rs.next (aA wb (wkA y lo ((fe w.1 w.2.1 w.2.2 (L.getD i.toNat (ao i64))).2.1,w.2.1,(fe w.1 w.2.1 w.2.2 (L.getD i.toNat (ao i64))).2.2) L (app uT [(fe w.1 w.2.1 w.2.2 (L.getD i.toNat (ao i64))).1]) (bO .i64 i 1)))))))else some (Rs.out 0 (aA pW (Qj y lo w uT))):=by kernel_rfl
def Oq{β:Type}(K:List Int->Option β):Nat->Nat->Int->List Int->Option β
 |0,_,_,_=>none
 |f+1,i,j,x=>bif decide ((i:Int)<j)then aS (bg j (x.length:Int)) (aS (bg (i:Int) (x.length:Int)) (aS (bg (i:Int) (x.length:Int)) (aS (bg j ((x.set i (x.getD j.toNat (ao i64))).length:Int)) (Oq K f (i+1) (bO .i64 j 1) ((x.set i (x.getD j.toNat (ao i64))).set j.toNat (x.getD i (ao i64)))))))else K x
theorem ajx(y:ak tM)(lo:List Int)(w:W3)(L:List Int)(z:ak pW)(hz:z=gH Og wb pW (wkA y lo w L [] (bO .i64 (L.length:Int) 1))):(t85 (Qj y lo w L)).val=
 aS (oB Og wb pW (wkA y lo w L [] (bO .i64 (L.length:Int) 1))) (Oq (fun x=>aS (decide (z.2.2.2.2.2.2.2.2.2.2.2.2.1.length+x.length<=1099511627776)) (some (aA D0 (z.1,z.2.1,z.2.2.1,z.2.2.2.1,z.2.2.2.2.1,z.2.2.2.2.2.1,z.2.2.2.2.2.2.1,z.2.2.2.2.2.2.2.1,z.2.2.2.2.2.2.2.2.1,z.2.2.2.2.2.2.2.2.2.1,z.2.2.2.2.2.2.2.2.2.2.1,z.2.2.2.2.2.2.2.2.2.2.2.1,z.2.2.2.2.2.2.2.2.2.2.2.2.1++x,z.2.2.2.2.2.2.2.2.2.2.2.2.2.1,z.2.2.2.2.2.2.2.2.2.2.2.2.2.2.1,())))) 18 0 (bO .i64 (z.2.2.2.2.2.2.2.2.2.2.2.2.2.2.2.1.length:Int) 1) z.2.2.2.2.2.2.2.2.2.2.2.2.2.2.2.1):=by
 subst hz
 kernel_rfl
abbrev bY(w:W3)(t:Int):W3:=((fe w.1 w.2.1 w.2.2 t).2.1,w.2.1,(fe w.1 w.2.1 w.2.2 t).2.2)
abbrev fL(w:W3)(L:List Int):W3:=((rY L w.2.1 L.length w.1 w.2.2).1,w.2.1,(rY L w.2.1 L.length w.1 w.2.2).2)
abbrev tc(w:W3):W3:=(w.1.take (dy w.2.1).2.1.toNat,w.2.1.set (w.2.1.length - 1) (uN (dy w.2.1)),w.2.2)
abbrev wF(w:W3)(l:Int):W3:=(w.1,w.2.1,bif decide ((w.2.1.length:Int)<=l)then true else w.2.2)
abbrev mh(w:W3)(L:List Int):W3:=(w.1++L,w.2.1,w.2.2)
abbrev fY(w:W3)(c:Bool):W3:=(w.1,w.2.1,w.2.2|| !c)
abbrev cW(w:W3):Bool:=okW w.1 w.2.1
abbrev cT(w:W3)(L:List Int):Bool:=decide (L.length<=1099511627776)&&okW w.1 w.2.1
abbrev cG(w:W3)(L:List Int):Bool:=decide (w.1.length+L.length<=1099511627776)
abbrev cL(w:W3)(l:Int):Bool:=decide (0<=l)&&decide (w.2.1.length<=1099511627776)
theorem ajy(y:ak tM)(lo:List Int)(w:W3)(i:den tI):(t86 (p9 y lo w i)).val=
 (let gl:=y.2.2.2.2.2.1
 let R:=fun(t:Int) (ok:Bool)=>bif (bif !decide (i.1=32)then !decide (i.1=35)else false)then aS (cW w) (bif (bif !decide (i.1=33)then !decide (i.1=36)else false)then aS (cG (bY (fY w ok) t) [t]) (some (aA uP (wk y lo (mh (bY (fY w ok) t) [t]))))else some (aA uP (wk y lo (bY (fY w ok) t))))
  else bif (bif !decide (i.1=33)then !decide (i.1=36)else false)then aS (cG w [t]) (some (aA uP (wk y lo (mh (fY w ok) [t]))))else some (aA uP (wk y lo (fY w ok)))
 let G:=aS (bg i.2.1 (gl.length:Int)&&bif decide (i.1=35)then true else bg i.2.1 (gl.length:Int)) (R (bif decide (i.1=35)then(gl.getD i.2.1.toNat (ao aC)).1 else(gl.getD i.2.1.toNat (ao aC)).1) (bif decide (i.1=35)then true else(gl.getD i.2.1.toNat (ao aC)).2.1))
 bif (bif decide (i.1<=34)then decide (i.2.1<(lo.length:Int))else false)then aS (bg i.2.1 (lo.length:Int)) (bif (bif decide (34<i.1)then decide (i.2.1<(gl.length:Int))else false)then G else R (lo.getD i.2.1.toNat (ao i64)) true)
  else bif (bif decide (34<i.1)then decide (i.2.1<(gl.length:Int))else false)then G else R 0 false):=by kernel_rfl
abbrev wkJ(y:ak tM)(lo:List Int)(w:W3)(last l:List Int)(n i:Int):ak uQ:=(y.1,y.2.1,y.2.2.1,y.2.2.2.1,y.2.2.2.2.1,y.2.2.2.2.2.1,y.2.2.2.2.2.2.1,y.2.2.2.2.2.2.2.1,y.2.2.2.2.2.2.2.2.1,y.2.2.2.2.2.2.2.2.2.1,y.2.2.2.2.2.2.2.2.2.2.1,lo,w.1,w.2.1,w.2.2,last,l,n,i,())
theorem V1(y:ak tM)(lo:List Int)(w:W3)(last L:List Int)(n i:Int)(l:Int)(hl:l=L.getD i.toNat (ao i64))(u:W3)(hu:u=fY (wF w l) (decide (((iM w.2.1 l).length:Int)=(last.length:Int))))(z:ak D0)(hz:z=m85 (Qj y lo u (iM w.2.1 l))):(JN (aA uQ (wkJ y lo w last L n i))).val=
 bif decide (i<n)then aS (bg i (L.length:Int)) (aS (cL w l) (aS (k85 (Qj y lo u (iM w.2.1 l))) (some (Rs.next (aA uQ (z.1,z.2.1,z.2.2.1,z.2.2.2.1,z.2.2.2.2.1,z.2.2.2.2.2.1,z.2.2.2.2.2.2.1,z.2.2.2.2.2.2.2.1,z.2.2.2.2.2.2.2.2.1,z.2.2.2.2.2.2.2.2.2.1,z.2.2.2.2.2.2.2.2.2.2.1,z.2.2.2.2.2.2.2.2.2.2.2.1,z.2.2.2.2.2.2.2.2.2.2.2.2.1,z.2.2.2.2.2.2.2.2.2.2.2.2.2.1,z.2.2.2.2.2.2.2.2.2.2.2.2.2.2.1,last,L,n,cf .i64 i 1,()))))))
 else some (Rs.out 0 (aA nz (Qj y lo w last))):=by
 subst hz;subst hu;subst hl
 kernel_rfl
theorem aee(y:ak tM)(lo:List Int)(w:W3)(i:den tI)(u:W3)(hu:u=wF (bY w 127) i.2.1)(T:List Int)(hT:T=iM w.2.1 i.2.1)(z:ak nz)(hz:z=gH JN uQ nz (wkJ y lo u T i.2.2.2.2.2 (i.2.2.2.2.2.length:Int) 0)):(t77 (p9 y lo w i)).val=
 (let D:=fun v:W3=>aS (cW v) (some (aA yL (wk y lo (tc v))))
 bif decide (i.1=0)then D w else
 bif decide (i.1=12)then aS (cL w i.2.1) (aS (cT (wF w i.2.1) T) (D (fL (wF w i.2.1) T)))else
 bif decide (i.1=13)then aS (cW w) (aS (cL (bY w 127) i.2.1) (aS (cT u T) (aS (cG (fL u T) T) (some (aA yL (wk y lo (mh (fL u T) T)))))))else
 bif decide (i.1=14)then aS (cW w) (aS (cL (bY w 127) i.2.1) (aS (oB JN uQ nz (wkJ y lo u T i.2.2.2.2.2 (i.2.2.2.2.2.length:Int) 0)) (
  let v:W3:=(z.2.2.2.2.2.2.2.2.2.2.2.2.1,z.2.2.2.2.2.2.2.2.2.2.2.2.2.1,z.2.2.2.2.2.2.2.2.2.2.2.2.2.2.1)
  let S:=fL v z.2.2.2.2.2.2.2.2.2.2.2.2.2.2.2.1
  aS (cT v z.2.2.2.2.2.2.2.2.2.2.2.2.2.2.2.1) (aS (cW S) (some (aA yL (z.1,z.2.1,z.2.2.1,z.2.2.2.1,z.2.2.2.2.1,z.2.2.2.2.2.1,z.2.2.2.2.2.2.1,z.2.2.2.2.2.2.2.1,z.2.2.2.2.2.2.2.2.1,z.2.2.2.2.2.2.2.2.2.1,z.2.2.2.2.2.2.2.2.2.2.1,z.2.2.2.2.2.2.2.2.2.2.2.1,(tc S).1,(tc S).2.1,(tc S).2.2,())))))))else
 bif decide (i.1=15)then aS (bg 0 (w.2.1.length:Int)) (let O:=(w.2.1.getD 0 (ao cw)).2.2.2.1;aS (cT w O) (D (fL w O)))else
 aS (k86 (p9 y lo w i)) (some (aA yL (m86 (p9 y lo w i))))):=by
 subst hz;subst hu;subst hT
 kernel_rfl
end Go.Proofs.Vd
