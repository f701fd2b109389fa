import Derived.Test.YtbplobpobnagkaaGreatDoorVdW
import Derived.Test.YtbplobpobnagkaaGreatDoorLfJ
noncomputable section
namespace Go.Proofs.Vd
open Go.Ab Go.Ab.Lf
set_option maxRecDepth 100000
abbrev Tx:List Ty:=[.ae i64,.ae i64,.ae aH,.ae aS,.ae i64,.ae ak,.ae ak,.ae aC,.ae aR,i64,.ae aG,.ae aL,.ae aJ,.ae i64,.ae i64,.ae cI,.bool]
def fU(t:List (den aH))(l:Int):den aH:=bif decide (0<=l)then cr t l else bif decide (l= -64)then([],[])else([],[bw .i64 l 128])
def kX(t:List (den aH))(l:Int)(bad:Bool):Bool:=bif decide (0<=l)then bad|| !(dM t l)else bad
def e74:List (Nat×cR):=[(85,s21),(95,Wl)]
theorem ZR{V:ByteArray->Bool}{aq:aB}(W:WorldC V aq):db aq e74:=.cons (GD W) (.cons (tE W.toWorld) .nil)
def s74:cR:=hU (Ps [jK 0,.n .i64]) [14] (Ps [.ag (Ps [.ow i64,.ow i64]),jK 14]) JX Tx fun x=>match x with
 |(t,im,fs,tb,me,gl,ex,st,el,co,da,lo,dq,bl,bad,l,_)=>.ck (gT t) (.ok ((fU t l).1,(fU t l).2,t,im,fs,tb,me,gl,ex,st,el,co,da,lo,dq,bl,kX t l bad,()))
theorem ZS(t:List (den aH))(im:List (den aS))(fs:List Int)(tb me:List (den ak))(gl:List (den aC))(ex:List (den aR))(st:Int)(el:List (den aG))(co:List (den aL))(da:List (den aJ))(lo dq:List Int)(bl:List (den cI))(bad:Bool)(l:Int):(iN (Ps [jK 0,.n .i64]) [14] (Ps [.ag (Ps [.ow i64,.ow i64]),jK 14]) (fun _=>none) Tryz.x93 3 (dH e74 3) (aA JX (t,im,fs,tb,me,gl,ex,st,el,co,da,lo,dq,bl,bad,l,()))).val=
 bif decide (0<=l)then aM (gT t)<|some (aA Tx ((cr t l).1,(cr t l).2,t,im,fs,tb,me,gl,ex,st,el,co,da,lo,dq,bl,bad|| !(dM t l),()))else bif decide (l= -64)then some (aA Tx ([],[],t,im,fs,tb,me,gl,ex,st,el,co,da,lo,dq,bl,bad,()))else some (aA Tx ([],[bw .i64 l 128],t,im,fs,tb,me,gl,ex,st,el,co,da,lo,dq,bl,bad,())):=by kernel_rfl
theorem ZT{V:ByteArray->Bool}{aq:aB}(W:WorldC V aq):s74.Ok 93 aq:=by
 refine dF (W.toWorld.in (ZR W) 3) (W.st 93 _ rfl) rfl (aE _) (m:=3) rfl ?_
 rintro⟨t,im,fs,tb,me,gl,ex,st,el,co,da,lo,dq,bl,bad,l,⟨⟩⟩ q h
 obtain⟨h0,h⟩:=Lf.T.ba h
 cases h
 rw[ZS,h0]
 unfold fU kX
 cases decide (0<=l)<;>cases decide (l= -64)<;>rfl
abbrev tOp:List Ty:=[.ae aH,.ae aS,.ae i64,.ae ak,.ae ak,.ae aC,.ae aR,i64,.ae aG,.ae aL,.ae aJ,.ae i64,.ae i64,.ae cI,.bool,i64,.ae i64,.ae i64]
def wF(bl:List (den cI)):Bool:=bif decide ((0:Int)<(bl.length:Int))then(bif (dA bl).2.2.2.2.2 then !(dA bl).2.2.2.2.1 else false)else true
def fe(dq:List Int)(bl:List (den cI))(op:Int)(i o:List Int):List (den cI):=bl++[(op,(dq.length:Int),i,o,false,wF bl)]
def s60:cR:=hU (Ps [jK 0,.n .i64,.ag (Ps [.im i64,.im i64])]) [14] (Ps [.tu .nil,jK 14]) tOp xz fun x=>match x with
 |(t,im,fs,tb,me,gl,ex,st,el,co,da,lo,dq,bl,bad,op,i,o,_)=>.ck (decide (bl.length+1<=549755813888)) (.ok (t,im,fs,tb,me,gl,ex,st,el,co,da,lo,dq,fe dq bl op i o,bad,()))
theorem ZU(t:List (den aH))(im:List (den aS))(fs:List Int)(tb me:List (den ak))(gl:List (den aC))(ex:List (den aR))(st:Int)(el:List (den aG))(co:List (den aL))(da:List (den aJ))(lo dq:List Int)(bl:List (den cI))(bad:Bool)(op:Int)(i o:List Int):(iN (Ps [jK 0,.n .i64,.ag (Ps [.im i64,.im i64])]) [14] (Ps [.tu .nil,jK 14]) (fun _=>none) Tryz.x76 3 (dH [] 3) (aA tOp (t,im,fs,tb,me,gl,ex,st,el,co,da,lo,dq,bl,bad,op,i,o,()))).val=
 bif decide ((0:Int)<(bl.length:Int))then bif aU (bQ .i64 (bl.length:Int) 1) (bl.length:Int)then bif (bl.getD (bQ .i64 (bl.length:Int) 1).toNat (ao cI)).2.2.2.2.2 then bif aU (bQ .i64 (bl.length:Int) 1) (bl.length:Int)then
  bif roomy 72 (bl.length+1)then some (aA xz (t,im,fs,tb,me,gl,ex,st,el,co,da,lo,dq,app bl [(op,(dq.length:Int),i,o,false,!(bl.getD (bQ .i64 (bl.length:Int) 1).toNat (ao cI)).2.2.2.2.1)],bad,()))else none else none
  else bif roomy 72 (bl.length+1)then some (aA xz (t,im,fs,tb,me,gl,ex,st,el,co,da,lo,dq,app bl [(op,(dq.length:Int),i,o,false,false)],bad,()))else none else none
 else bif roomy 72 (bl.length+1)then some (aA xz (t,im,fs,tb,me,gl,ex,st,el,co,da,lo,dq,app bl [(op,(dq.length:Int),i,o,false,true)],bad,()))else none:=by kernel_rfl
theorem GF{aq:aB}(W:World aq):s60.Ok 76 aq:=by
 refine dF (W.in .nil 3) (W.st 76 _ rfl) rfl (aE _) (m:=3) rfl ?_
 rintro⟨t,im,fs,tb,me,gl,ex,st,el,co,da,lo,dq,bl,bad,op,i,o,⟨⟩⟩ q h
 obtain⟨h1,h2⟩:=Lf.T.ba h
 cases h2
 have h1:bl.length+1<=549755813888:=of_decide_eq_true h1
 have hr:roomy 72 (bl.length+1)=true:=by
  rw[mC]
  constructor<;>omega
 rw[ZU,hr]
 simp only[bp]
 show _=some (aA xz (t,im,fs,tb,me,gl,ex,st,el,co,da,lo,dq,fe dq bl op i o,bad,()))
 unfold fe wF
 by_cases h0:0<bl.length
 ·have hb:aU ((bl.length - 1:Nat):Int) (bl.length:Int)=true:=bX (by omega)
  rw[BU h0 (by omega),hb,decide_eq_true (show(0:Int)<(bl.length:Int) by omega),Int.toNat_natCast]
  rw[show bl.getD (bl.length - 1) (ao cI)=dA bl from rfl]
  cases(dA bl).2.2.2.2.2<;>simp only[cond_true,cond_false]
 ·rw[decide_eq_false (show ¬ (0:Int)<(bl.length:Int) by omega)]
  simp only[cond_true,cond_false]
end Go.Proofs.Vd

noncomputable section
namespace Go.Proofs.Vd
open Go.Ab Go.Ab.Lf
set_option maxRecDepth 100000
abbrev tLb:List Ty:=[.ae i64,.ae aH,.ae aS,.ae i64,.ae ak,.ae ak,.ae aC,.ae aR,i64,.ae aG,.ae aL,.ae aJ,.ae i64,.ae i64,.ae cI,.bool]
def s84:cR:=hU (Ps [jK 0,.n .i64]) [14] (Ps [.im i64,jK 14]) JX tLb fun x=>match x with
 |(t,im,fs,tb,me,gl,ex,st,el,co,da,lo,dq,bl,bad,l,_)=>.ck (decide (0<=l)&&decide (bl.length<=1099511627776)) (.ok (iK bl l,t,im,fs,tb,me,gl,ex,st,el,co,da,lo,dq,bl,bif decide ((bl.length:Int)<=l)then true else bad,()))
theorem ZV(t:List (den aH))(im:List (den aS))(fs:List Int)(tb me:List (den ak))(gl:List (den aC))(ex:List (den aR))(st:Int)(el:List (den aG))(co:List (den aL))(da:List (den aJ))(lo dq:List Int)(bl:List (den cI))(bad:Bool)(l:Int):(iN (Ps [jK 0,.n .i64]) [14] (Ps [.im i64,jK 14]) (fun _=>none) Tryz.YI 3 (dH [] 3) (aA JX (t,im,fs,tb,me,gl,ex,st,el,co,da,lo,dq,bl,bad,l,()))).val=
 bif decide ((bl.length:Int)<=l)then some (aA tLb ([],t,im,fs,tb,me,gl,ex,st,el,co,da,lo,dq,bl,true,()))else bif aU (bQ .i64 (bQ .i64 (Int.ofNat bl.length) 1) l) (Int.ofNat bl.length)then
  bif decide ((bl.getD (bQ .i64 (bQ .i64 (Int.ofNat bl.length) 1) l).toNat (ao cI)).1=3)then some (aA tLb ((bl.getD (bQ .i64 (bQ .i64 (Int.ofNat bl.length) 1) l).toNat (ao cI)).2.2.1,t,im,fs,tb,me,gl,ex,st,el,co,da,lo,dq,bl,bad,()))
  else some (aA tLb ((bl.getD (bQ .i64 (bQ .i64 (Int.ofNat bl.length) 1) l).toNat (ao cI)).2.2.2.1,t,im,fs,tb,me,gl,ex,st,el,co,da,lo,dq,bl,bad,()))else none:=by kernel_rfl
theorem Wp{l:Int}{n:Nat}(h0:0<=l)(h1: ¬ (n:Int)<=l)(hn:n<=1099511627776):aU (bQ .i64 (bQ .i64 (Int.ofNat n) 1) l) (Int.ofNat n)=true:=by
 have e1:bQ .i64 (Int.ofNat n) 1=(n:Int) - 1:=by
  show eZ .i64 ((n:Int) - 1)=_
  exact wrap_i64 (by omega) (by omega)
 have e2:bQ .i64 ((n:Int) - 1) l=(n:Int) - 1 - l:=by
  show eZ .i64 ((n:Int) - 1 - l)=_
  exact wrap_i64 (by omega) (by omega)
 rw[e1,e2]
 exact iE.2 ⟨by omega,by show(n:Int) - 1 - l<(n:Int);omega⟩
theorem Oj{aq:aB}(W:World aq):s84.Ok 105 aq:=by
 refine dF (W.in .nil 3) (W.st 105 _ rfl) rfl (aE _) (m:=3) rfl ?_
 rintro⟨t,im,fs,tb,me,gl,ex,st,el,co,da,lo,dq,bl,bad,l,⟨⟩⟩ q h
 obtain⟨h1,h2⟩:=Lf.T.ba h
 cases h2
 simp only[Bool.and_eq_true,decide_eq_true_eq]at h1
 rw[ZV]
 show _=some (aA tLb (iK bl l,t,im,fs,tb,me,gl,ex,st,el,co,da,lo,dq,bl,bif decide ((bl.length:Int)<=l)then true else bad,()))
 unfold iK
 by_cases hl:(bl.length:Int)<=l
 ·rw[decide_eq_true hl]
  simp only[cond_true]
 ·rw[decide_eq_false hl,Wp h1.1 hl h1.2]
  simp only[cond_true,cond_false]
  cases decide ((bl.getD (bQ .i64 (bQ .i64 (Int.ofNat bl.length) 1) l).toNat (ao cI)).1=3)<;>simp only[cond_true,cond_false]
abbrev t82:List Ty:=[.ae i64,.ae i64,i64,i64]
def ZW:jX:=⟨0,fE Tryz.SY.code 0,[0,1,12,13],Ps [.im i64,.im i64,.n .i64,.n .i64],[⟨.lL,[],.nil⟩,⟨.rt,[4],Ps [.bo]⟩]⟩
theorem zc(a b:List Int)(n i:Int):(ZW.step (fun _=>none) (dH [] 3) 3 (aA t82 (a,b,n,i,()))).val=
 bif decide (i<n)then bif (aU i (Int.ofNat a.length)&&aU i (Int.ofNat b.length))then bif !decide (a.getD i.toNat (ao i64)=b.getD i.toNat (ao i64))then some (Rs.out 1 (aA [.bool] (false,())))else some (Rs.next (aA t82 (a,b,n,bw .i64 i 1,())))else none else some (Rs.out 0 (aA [] ())):=by kernel_rfl
theorem Ih(a b:List Int)(n:Nat)(hn:n<=1099511627776): ∀ (k:Nat) (j:Nat),j+k=n->a.length=n->b.length=n->(∀ i,i<j->a.getD i (ao i64)=b.getD i (ao i64))->
 gG (ZW.step (fun _=>none) (dH [] 3) 3) (aA t82 (a,b,(n:Int),(j:Int),())) (bif decide (a=b)then 0 else 1) (bif decide (a=b)then aA [] ()else aA [.bool] (false,()))
 |0,j,hj,ha,hb,h=>by
  have hab:a=b:=by
   apply List.ext_getElem (ha.trans hb.symm)
   intro i h1 h2
   have:=h i (by omega)
   rw[List.getD_eq_getElem?_getD,List.getD_eq_getElem?_getD,List.getElem?_eq_getElem h1,List.getElem?_eq_getElem h2]at this
   exact this
  rw[decide_eq_true hab]
  refine .last ?_
  rw[zc,dn (by omega)]
  rfl
 |k+1,j,hj,ha,hb,h=>by
  have hx:(aU (j:Int) (Int.ofNat a.length)&&aU (j:Int) (Int.ofNat b.length))=true:=by
   rw[bX (by omega),bX (by omega)];rfl
  by_cases hq:a.getD j (ao i64)=b.getD j (ao i64)
  ·refine .more ?_ (Ih a b n hn k (j+1) (by omega) ha hb (fun i hi=>by
    by_cases e:i=j
    ·subst e;exact hq
    ·exact h i (by omega)))
   rw[zc,dX (by omega),hx,Int.toNat_natCast,decide_eq_true hq,kE (by omega)]
   rfl
  ·have hab: ¬ a=b:=fun e=>hq (by rw[e])
   rw[decide_eq_false hab]
   refine .last ?_
   rw[zc,dX (by omega),hx,Int.toNat_natCast,decide_eq_false hq]
   rfl
def g82:aj t82->T (Nat×List Pl):=fun x=>.ck ((decide (x.2.2.1=(x.1.length:Int))&&decide (x.2.2.2.1=0))&&(decide (x.2.1.length=x.1.length)&&decide (x.1.length<=1099511627776))) (.br (decide (x.1=x.2.1)) (.ok (0,aA [] ())) (.ok (1,aA [.bool] (false,()))))
theorem ZX(x:aj t82)(k:Nat)(q:List Pl)(h:(g82 x).val=some (k,q)):gG (ZW.step (fun _=>none) (dH [] 3) 3) (aA t82 x) k q:=by
 obtain⟨a,b,n,i,⟨⟩⟩:=x
 obtain⟨h1,h2⟩:=Lf.T.ba h
 simp only[Bool.and_eq_true,decide_eq_true_eq]at h1
 obtain⟨⟨b1,b2⟩,b3,b4⟩:=h1
 subst b1;subst b2
 have:=Ih a b a.length b4 a.length 0 (by omega) rfl b3 (fun i hi=>absurd hi (Nat.not_lt_zero i))
 rw[Lf.T.dW]at h2
 cases hd:decide (a=b)with
 |true=>
  have Jo:decide ((a,b,(a.length:Int),(0:Int),()).1=(a,b,(a.length:Int),(0:Int),()).2.1)=true:=hd
  rw[hd]at this
  simp only[hd,cond_true]at h2
  cases h2
  exact this
 |false=>
  rw[hd]at this
  simp only[hd,cond_false]at h2
  cases h2
  exact this
def L82:Nat->Option fA:=pX [(0,pW ZW t82 g82)]
def s82:cR:=hU (Ps [.im i64,.im i64]) [] (Ps [.bo]) [.ae i64,.ae i64] [.bool] fun x=>.ck (decide (x.1.length<=1099511627776)) (.ok (decide (x.1=x.2.1),()))
theorem ZY(a b:List Int):(iN (Ps [.im i64,.im i64]) [] (Ps [.bo]) L82 Tryz.SY 3 (dH [] 3) (aA [.ae i64,.ae i64] (a,b,()))).val=
 bif !decide ((a.length:Int)=(b.length:Int))then some (aA [.bool] (false,()))else bif (decide ((a.length:Int)=(a.length:Int))&&decide ((0:Int)=0))&&(decide (b.length=a.length)&&decide (a.length<=1099511627776))then
  bif decide (a=b)then some (aA [.bool] (true,()))else some (aA [.bool] (false,()))else none:=by kernel_rfl
theorem ZZ{aq:aB}(W:World aq):s82.Ok 103 aq:=by
 have C:=W.in .nil 3
 have hl:dZ Rx.w (pW ZW t82 g82) (fun n d=>gD (aq n d) n (.bl 0 (.lp ZW.body))):=iG C (aE _) (m:=3) ZX
 refine dF C (W.st 103 _ rfl) rfl (L:=L82) (fq.jl (.cons (b:=ZW.body) (by kernel_rfl) hl .nil)) (m:=3) rfl ?_
 rintro⟨a,b,⟨⟩⟩ q h
 obtain⟨h1,h2⟩:=Lf.T.ba h
 cases h2
 have h1:a.length<=1099511627776:=of_decide_eq_true h1
 rw[ZY]
 show _=some (aA [.bool] (decide (a=b),()))
 by_cases hl:a.length=b.length
 ·rw[decide_eq_true (show(a.length:Int)=(b.length:Int) by omega),decide_eq_true hl.symm,decide_eq_true h1]
  simp only[decide_true,Bool.and_self,Bool.not_true,cond_false,cond_true]
  cases decide (a=b)<;>simp only[cond_true,cond_false]
 ·rw[decide_eq_false (show ¬ (a.length:Int)=(b.length:Int) by omega),decide_eq_false (show ¬ a=b from fun e=>hl (by rw[e]))]
  simp only[Bool.not_false,cond_true]
end Go.Proofs.Vd

noncomputable section
namespace Go.Ab.Lf
def Ol(to:List Ty)(t:T (List Pl)):Bool:=
 T.rec (motive:=fun _=>Bool) false (fun l=>(toT to l).isSome) (fun _ _ _ a b=>a&&b) (fun _ _ a=>a) t
def GG(t:T (List Pl)):List Bool:=T.rec (motive:=fun _=>List Bool) [] (fun _=>[]) (fun _ _ _ a b=>app a b) (fun c _ a=>c::a) t
theorem xA{to:List Ty}: ∀ {t:T (List Pl)},Ol to t=true->(∀ c,c∈GG t->c=true)->jr to t=true
 | .bad,h,_=>by cases h
 | .ok l,h,_=>xx (t:=.ok l) h
 | .br c a b,h,k=>by
  have h:(Ol to a&&Ol to b)=true:=h
  have k: ∀ d,d∈app (GG a) (GG b)->d=true:=k
  rw[bp]at k
  obtain⟨h1,h2⟩:=Bool.and_eq_true_iff.1 h
  have q1:=xA h1 fun d hd=>k d (List.mem_append_left _ hd)
  have q2:=xA h2 fun d hd=>k d (List.mem_append_right _ hd)
  unfold jr at*
  rw[T.dW]
  cases c
  ·exact q2
  ·exact q1
 | .ck c a,h,k=>by
  have h:Ol to a=true:=h
  have k: ∀ d,d∈c::GG a->d=true:=k
  have q1:=xA h fun d hd=>k d (List.mem_cons_of_mem _ hd)
  have hc:c=true:=k c (List.mem_cons_self ..)
  subst hc
  unfold jr at*
  rw[T.j7]
  exact q1
theorem ad2{call:eJ}{aq:aB}(C:oE call aq){f:FuncId}{b:dB}(hb:mT aq f b)(qC:Nat.ble b.ntmps 512=true){L:Nat->Option fA}(hL:jl Rx.w aq L b.code){m:Nat}{P:jW}{ptr:List Nat}{Q:jW}{ti to:List Ty}{out:aj ti->aj to}{g:aj ti->Bool}
 (h0:cu (fun g=> !(Nat.beq g 0)) ptr=true)(h1: ∀ x,Ol to (iN P ptr Q L b m call (aA ti x))=true)(hc: ∀ x,g x=true-> ∀ c,c∈GG (iN P ptr Q L b m call (aA ti x))->c=true)(h2: ∀ x,out x=eA to (iN P ptr Q L b m call (aA ti x))):(hU P ptr Q ti to fun x=>.ck (g x) (.ok (out x))).Ok f aq:=by
 refine dF C hb qC hL (m:=m) h0 fun x y h=>?_
 obtain⟨k1,k2⟩:=T.ba h
 cases k2
 rw[h2]
 exact rj (xA (h1 x) (hc x k1))
end Go.Ab.Lf
namespace Go.Proofs.Vd
open Go.Ab Go.Ab.Lf
set_option maxRecDepth 100000
abbrev tFi:List Ty:=[.ae aH,.ae aS,.ae i64,.ae ak,.ae ak,.ae aC,.ae aR,i64,.ae aG,.ae aL,.ae aJ,.ae i64,.ae i64,.ae cI,.bool,i64,i64,i64,u64,u64,.ae i64,i64,i64,.bool,.ae i64,.ae i64]
abbrev ad3:jW:=.ag (Ps [.n .i64,.n .i64,.bo,.im i64,.im i64])
def e70:List (Nat×cR):=[(95,Wl),(102,s81)]
theorem Z0{aq:aB}(W:World aq):db aq e70:=.cons (tE W) (.cons (NK W) .nil)
def t70(x:aj tFi):Lf.T (List Pl):=iN (Ps [jK 0,pI,ad3]) [14] (Ps [.tu .nil,jK 14]) (fun _=>none) Tryz.x89 20 (dH e70 20) (aA tFi x)
def Tz(x:aj tFi):aj xz:=eA xz (t70 x)
def TA(x:aj tFi):Bool:=match x with
 |(t,im,fs,tb,me,gl,ex,st,el,co,da,lo,dq,bl,bad,_,_,_,_,_,_,_,jf,_,_,_,_)=>decide (0<=jf)
def s70:cR:=hU (Ps [jK 0,pI,ad3]) [14] (Ps [.tu .nil,jK 14]) tFi xz fun x=>.ck (TA x) (.ok (Tz x))
theorem Z1{aq:aB}(W:World aq):s70.Ok 89 aq:=by
 refine ad2 (W.in (Z0 W) 20) (W.st 89 _ rfl) rfl (aE _) (m:=20) rfl ?_ ?_ (fun _=>rfl)
 ·rintro⟨t,im,fs,tb,me,gl,ex,st,el,co,da,lo,dq,bl,bad,o,a,b,l1,l2,l,f,jf,pl,i2,o2,⟨⟩⟩
  kernel_rfl
 ·rintro⟨t,im,fs,tb,me,gl,ex,st,el,co,da,lo,dq,bl,bad,o,a,b,l1,l2,l,f,jf,pl,i2,o2,⟨⟩⟩ h c hc
  have e:GG (t70 (t,im,fs,tb,me,gl,ex,st,el,co,da,lo,dq,bl,bad,o,a,b,l1,l2,l,f,jf,pl,i2,o2,()))=List.replicate 6 (decide (0<=jf)):=by kernel_rfl
  have hc:c∈GG (t70 (t,im,fs,tb,me,gl,ex,st,el,co,da,lo,dq,bl,bad,o,a,b,l1,l2,l,f,jf,pl,i2,o2,())):=hc
  rw[e]at hc
  exact(List.eq_of_mem_replicate hc).trans h
end Go.Proofs.Vd

noncomputable section
namespace Go.Proofs.Vd
open Go.Ab Go.Ab.Lf
set_option maxRecDepth 100000
def Wx(n:Nat)(F:oQ)(bs:List Int)(p:Bool):Prop:=bs.length<=n/\ ∀ s:St,s.1.length+n<=1099511627776-> ∀ (α:Type) (K:St->Option α),F α s K=K (s.1++bs,s.2|| !p)
section
variable {n m:Nat}{F G:oQ}{bs cs:List Int}{p q:Bool}
theorem Wx.le(h:Wx n F bs p)(hm:n<=m):Wx m F bs p:=⟨Nat.le_trans h.1 hm,fun s hs=>h.2 s (by omega)⟩
theorem Wx.seq(h1:Wx n F bs p)(h2:Wx m G cs q):Wx (n+m) (fun α s K=>F α s fun s=>G α s K) (bs++cs) (p&&q):=by
 refine⟨?_,fun s hs α K=>?_⟩
 ·have:=h1.1
  have:=h2.1
  simp only[List.length_append]
  omega
 ·show F α s _=_
  have l1:=h1.1
  rw[h1.2 s (by omega)]
  show G α (s.1++bs,s.2|| !p) K=_
  rw[h2.2 (s.1++bs,s.2|| !p) (by simp only[List.length_append];omega)]
  have e:(s.2|| !p|| !q)=(s.2|| !(p&&q)):=by cases s.2<;>cases p<;>cases q<;>rfl
  simp only[List.append_assoc,e]
theorem Wx.bif{c:Bool}(h1:Wx n F bs p)(h2:Wx n G cs q):Wx n (fun α s K=>bif c then F α s K else G α s K) (bif c then bs else cs) (bif c then p else q):=by
 cases c
 ·exact h2
 ·exact h1
theorem Wx.eq(h:Wx n F bs p)(e1:bs=cs)(e2:p=q):Wx n F cs q:=by subst e1;subst e2;exact h
theorem Wx.mw(h:Wx n F bs p){s:St}(hs:s.1.length+n<=1099511627776):mW F s=(s.1++bs,s.2|| !p):=by
 unfold mW
 rw[h.2 s hs]
 rfl
end
theorem iL(c:Bool):Wx 0 (jv c) [] c:=⟨Nat.le_refl _,fun s _ α K=>by simp[jv]⟩
theorem eE(l:List Int):Wx l.length (iJ l) l true:=⟨Nat.le_refl _,fun s hs α K=>by unfold iJ aM;rw[decide_eq_true hs];simp⟩
def nb(n:Int):List Int:=ju (bq .u64 n)
def iV(n:Int):Bool:=decide (0<=n)&&decide (n<4294967296)
def qF(t:Int):Bool:=decide (t=127)||(decide (t=126)||decide (t=123))
def AO(l:List Int):List Int:=l.foldr (fun n r=>nb n++r) []
def Qm(l:List Int):List Int:=l.map (bq .u8)
theorem rD(n:Int):(nb n).length<=10:=kb _
theorem Ii: ∀ l:List Int,(AO l).length<=10*l.length
 | []=>Nat.le_refl _
 |x::l=>by
  have h1:=rD x
  have h2:=Ii l
  show(nb x++AO l).length<=_
  simp only[List.length_append,List.length_cons]
  omega
theorem rE(l:List Int): ∀ s:St,cK s l=(s.1++AO l,s.2|| !(l.all iV)):=by
 induction l with
 |nil=>intro s;simp[cK,AO]
 |cons x l ih=>
  intro s
  show cK (u0 s x) l=_
  rw[ih]
  have e:(s.2|| !iV x|| !(l.all iV))=(s.2|| !((x::l).all iV)):=by
   simp only[List.all_cons]
   cases s.2<;>cases iV x<;>cases l.all iV<;>rfl
  show((s.1++nb x)++AO l,s.2|| !iV x|| !(l.all iV))=_
  rw[e,List.append_assoc]
  rfl
theorem AP(l:List Int): ∀ s:St,fu s l=(s.1++Qm l,s.2|| !(l.all qF)):=by
 induction l with
 |nil=>intro s;simp[fu,Qm]
 |cons x l ih=>
  intro s
  show fu (p8 s x) l=_
  rw[ih]
  have e:(s.2|| !qF x|| !(l.all qF))=(s.2|| !((x::l).all qF)):=by
   simp only[List.all_cons]
   cases s.2<;>cases qF x<;>cases l.all qF<;>rfl
  show((s.1++[bq .u8 x])++Qm l,s.2|| !qF x|| !(l.all qF))=_
  rw[e,List.append_assoc]
  rfl
theorem eM(l:List Int):Wx (10*l.length) (ic l) (AO l) (l.all iV):=⟨Ii l,fun s hs α K=>by unfold ic aM;rw[decide_eq_true hs,rE];rfl⟩
theorem oW(l:List Int):Wx l.length (tC l) (Qm l) (l.all qF):=⟨by unfold Qm;simp,fun s hs α K=>by unfold tC aM;rw[decide_eq_true hs,AP];rfl⟩
theorem B7(l:List Int):Wx l.length (zV l) l true:=⟨Nat.le_refl _,fun s hs α K=>by unfold zV aM;rw[bJ (by omega) hs,bp];simp⟩
theorem oY{ok:Bool}{n:Nat}{F:oQ}{bs:List Int}{p:Bool}(h:Wx n F bs p)(ho:ok=true):Wx n (wT ok n F) bs p:=⟨h.1,fun s hs α K=>by unfold wT aM;rw[ho,decide_eq_true hs,h.mw hs];rfl⟩
theorem zd(c:List (den tI))(h:qw c=true):Wx (qL c) (KK (c,())) (p9 c) (decide (oP c=0)):=by
 have h':=h
 simp only[qw,Bool.and_eq_true,decide_eq_true_eq]at h'
 have hl:=D4 c h'.1
 exact⟨hl,fun s hs α K=>by show aM (qw c) (aM (roomy 1 (s.1.length+(p9 c).length)) _)=_;unfold aM;rw[h,bJ (by omega) (by omega)];simp only[bp];rfl⟩
structure AQ{α:Type}(A:Item α) where
 bs:α->List Int
 p:α->Bool
 wx: ∀ x,A.ok x=true->Wx (A.wt x) (A.G x) (bs x) (p x)
def u9{α:Type}{A:Item α}(B:AQ A)(l:List α):List Int:=l.foldr (fun x r=>B.bs x++r) []
theorem ze{α:Type}{A:Item α}(B:AQ A): ∀ (l:List α),cu A.ok l=true->(u9 B l).length<=nr A.wt l
 | [],_=>Nat.le_refl _
 |x::l,h=>by
  obtain⟨h1,h2⟩:=jP h
  have:=(B.wx x h1).1
  have:=ze B l h2
  show(B.bs x++u9 B l).length<=_
  rw[oU]
  simp only[List.length_append]
  omega
theorem Ij{α:Type}{A:Item α}(B:AQ A): ∀ (l:List α),cu A.ok l=true-> ∀ s:St,s.1.length+nr A.wt l<=1099511627776->tD A.G s l=(s.1++u9 B l,s.2|| !(l.all B.p))
 | [],_,s,_=>by simp[tD,u9]
 |x::l,h,s,hs=>by
  obtain⟨h1,h2⟩:=jP h
  rw[oU]at hs
  have e:=(B.wx x h1).mw (s:=s) (by omega)
  have hl:=(B.wx x h1).1
  show tD A.G (mW (A.G x) s) l=_
  rw[e,Ij B l h2 _ (by simp only[List.length_append];omega)]
  have e2:(s.2|| !B.p x|| !(l.all B.p))=(s.2|| !((x::l).all B.p)):=by
   simp only[List.all_cons]
   cases s.2<;>cases B.p x<;>cases l.all B.p<;>rfl
  show((s.1++B.bs x)++u9 B l,s.2|| !B.p x|| !(l.all B.p))=_
  rw[e2,List.append_assoc]
  rfl
theorem Om(id:Int)(b:List Int)(k:Bool):Wx (11+b.length) (Qk (id,b,k,())) (id::(nb (b.length:Int)++b)) (!k&&iV (b.length:Int)):=by
 refine(((iL (!k)).seq ((eE [id]).seq ((eM [(b.length:Int)]).seq (B7 b)))).le (m:=11+b.length) (by simp only[List.length_cons,List.length_nil];omega)).eq ?_ ?_
 ·show []++([id]++((nb _++[])++b))=_
  simp
 ·simp
theorem TB(id:Int)(b:List Int)(k:Bool):wW (id,b,k,())=11+b.length:=by
 show 0+(1+(10+b.length))=_
 omega
theorem ajK(id:Int)(b:List Int)(k:Bool)(s:St)(h:s.1.length+(11+b.length)<=1099511627776)(α:Type)(K:St->Option α):
 wT true (wW (id,b,k,())) (Qk (id,b,k,())) α s K=K (s.1++(id::(nb (b.length:Int)++b)),s.2|| !(!k&&iV (b.length:Int))):=by
 rw[TB]
 exact(oY (Om id b k) rfl).2 s h α K
def pd{α:Type}{A:Item α}(B:AQ A)(id:Int)(l:List α):List Int:=bif decide ((l.length:Int)=0)then []else id::(nb ((nb (l.length:Int)++u9 B l).length:Int)++(nb (l.length:Int)++u9 B l))
def qG{α:Type}{A:Item α}(B:AQ A)(most:Int)(l:List α):Bool:=decide ((l.length:Int)<=most)&&bif decide ((l.length:Int)=0)then true else
 ((iV (l.length:Int)&&l.all B.p)&&iV ((nb (l.length:Int)++u9 B l).length:Int))
theorem ad4{t:Ty}{A:Item (den t)}(B:AQ A)(id most:Int)(l:List (den t))(h:cu A.ok l=true):Wx (21+nr A.wt l) (FS A (id,most,l,())) (pd B id l) (qG B most l):=by
 have hr:=ze B l h
 have hn:=rD (l.length:Int)
 refine⟨?_,fun s hs α K=>?_⟩
 ·unfold pd
  cases decide ((l.length:Int)=0)with
  |true=>exact Nat.zero_le _
  |false=>
   have:=rD ((nb (l.length:Int)++u9 B l).length:Int)
   simp only[cond_false,List.length_cons,List.length_append]at this ⊢
   omega
 ·show jv _ α s (fun s=>bif decide ((l.length:Int)=0)then K s else _)=_
  unfold jv
  show(bif decide ((l.length:Int)=0)then K (s.1,s.2|| !decide ((l.length:Int)<=most))else aM (decide (([]:List Int).length+10*[(l.length:Int)].length<=1099511627776)) (aM ((decide ((l.length:Int)=(l.length:Int))&&decide ((0:Int)=0))&&(cu A.ok l&&decide ((cK ([],s.2|| !decide ((l.length:Int)<=most)) [(l.length:Int)]).1.length+nr A.wt l<=1099511627776)))
   (wT true (wW (id,(tD A.G (cK ([],s.2|| !decide ((l.length:Int)<=most)) [(l.length:Int)]) l).1,(tD A.G (cK ([],s.2|| !decide ((l.length:Int)<=most)) [(l.length:Int)]) l).2,())) (Qk (id,(tD A.G (cK ([],s.2|| !decide ((l.length:Int)<=most)) [(l.length:Int)]) l).1,(tD A.G (cK ([],s.2|| !decide ((l.length:Int)<=most)) [(l.length:Int)]) l).2,())) α (s.1,s.2|| !decide ((l.length:Int)<=most)) K)))=_
  unfold pd qG
  generalize hm:decide ((l.length:Int)<=most)=c
  cases h0:decide ((l.length:Int)=0)with
  |true=>simp
  |false=>
   have e1:cK ([],s.2|| !c) [(l.length:Int)]=(nb (l.length:Int),s.2|| !c|| !(iV (l.length:Int))):=by
    rw[rE]
    show([]++(nb _++[]),_)=_
    simp
   have e2:=Ij B l h (nb (l.length:Int),s.2|| !c|| !(iV (l.length:Int))) (Nat.le_trans (Nat.add_le_add_right hn _) (by omega))
   rw[e1,e2,h]
   have c2:(nb (l.length:Int)).length+nr A.wt l<=1099511627776:=Nat.le_trans (Nat.add_le_add_right hn _) (by omega)
   have c3:(nb (l.length:Int)++u9 B l).length<=10+nr A.wt l:=by rw[List.length_append];omega
   have k1:((decide ((l.length:Int)=(l.length:Int))&&decide ((0:Int)=0))&&(true&&decide ((nb (l.length:Int),s.2|| !c|| !(iV (l.length:Int))).1.length+nr A.wt l<=1099511627776)))=true:=by
    rw[Bool.and_eq_true,Bool.and_eq_true,Bool.and_eq_true]
    exact⟨⟨decide_eq_true rfl,decide_eq_true rfl⟩,rfl,decide_eq_true c2⟩
   have c0:decide (([]:List Int).length+10*[(l.length:Int)].length<=1099511627776)=true:=decide_eq_true (by simp only[List.length_cons,List.length_nil];omega)
   rw[k1,c0,ajK id _ _ (s.1,s.2|| !c) (Nat.le_trans (Nat.add_le_add_left (Nat.add_le_add_left c3 11) s.1.length) (by omega))]
   unfold aM
   rw[cond_true,cond_true,cond_false,cond_false]
   congr 2
   generalize iV (l.length:Int)=u1
   generalize iV ((nb (l.length:Int)++u9 B l).length:Int)=u2
   generalize l.all B.p=u3
   cases s.2<;>cases c<;>cases u1<;>cases u2<;>cases u3<;>rfl
end Go.Proofs.Vd

noncomputable section
namespace Go.Proofs.Vd
open Go.Ab Go.Ab.Lf
set_option maxRecDepth 100000
def b36(s:ByteArray):List Int:=[]++(AO [(s.size:Int)]++Wd s)
def Z2(V:ByteArray->Bool)(s:ByteArray):Bool:=V s&&([(s.size:Int)].all iV&&true)
theorem B8(V:ByteArray->Bool)(s:ByteArray)(hg:AM s=true):Wx (u6 (s,())) (NT V (s,())) (b36 s) (Z2 V s):=by
 have e:NT V (s,())=fun α t K=>jv (V s) α t fun t=>ic [(s.size:Int)] α t fun t=>zV (Wd s) α t K:=by
  unfold NT
  rw[show AM (s,()).1=true from hg]
  rfl
 rw[e]
 refine((iL (V s)).seq ((eM [(s.size:Int)]).seq (B7 (Wd s)))).le ?_
 rw[Ic]
 show _<=10+s.size
 simp only[List.length_cons,List.length_nil]
 omega
def b41(x:den ak):List Int:=[]++bif decide (x.2= -1)then [0]++AO [x.1]else [1]++AO [x.1,x.2]
def p41(mo:Int)(x:den ak):Bool:=decide (x.1<=mo)&&bif decide (x.2= -1)then true&&[x.1].all iV else true&&[x.1,x.2].all iV
theorem On(mo:Int)(x:den ak):Wx 21 (F41 (x.1,x.2,mo,())) (b41 x) (p41 mo x):=
 ((iL _).seq (.bif (((eE [0]).seq (eM [x.1])).le (m:=21) (by simp)) ((eE [1]).seq (eM [x.1,x.2])))).le (by simp)
def Z3:AQ Wg:=⟨fun x=>bif decide ((x.1.length:Int)<=32)then []++([96]++(AO [(x.1.length:Int)]++(Qm x.1++(AO [(x.2.length:Int)]++Qm x.2))))else []++([96]++(AO [(x.1.length:Int)]++(Qm x.1++(AO [(x.2.length:Int)]++Qm x.2)))),
 fun x=>bif decide ((x.1.length:Int)<=32)then decide ((x.2.length:Int)<=32)&&(true&&([(x.1.length:Int)].all iV&&(x.1.all qF&&([(x.2.length:Int)].all iV&&x.2.all qF))))else false&&(true&&([(x.1.length:Int)].all iV&&(x.1.all qF&&([(x.2.length:Int)].all iV&&x.2.all qF)))),
 fun x _=>.bif ((iL _).seq ((eE [96]).seq ((eM [(x.1.length:Int)]).seq ((oW x.1).seq ((eM [(x.2.length:Int)]).seq (oW x.2))))))
  ((iL _).seq ((eE [96]).seq ((eM [(x.1.length:Int)]).seq ((oW x.1).seq ((eM [(x.2.length:Int)]).seq (oW x.2))))))⟩
def Z4(V:ByteArray->Bool):AQ (Zr V):=⟨fun x=>b36 x.1++(b36 x.2.1++([0]++AO [x.2.2])),fun x=>Z2 V x.1&&(Z2 V x.2.1&&(true&&[x.2.2].all iV)),
 fun x h=>(oY (B8 V x.1 (Bool.and_eq_true _ _▸h).1) (Bool.and_eq_true _ _▸h).1).seq ((oY (B8 V x.2.1 (Bool.and_eq_true _ _▸h).2) (Bool.and_eq_true _ _▸h).2).seq ((eE [0]).seq (eM [x.2.2])))⟩
def Z5:AQ Wf:=⟨fun x=>AO [x],fun x=>[x].all iV,fun x _=>eM [x]⟩
def Z6:AQ Wh:=⟨fun x=>[112]++b41 x,fun x=>true&&p41 1024 x,fun x _=>(eE [112]).seq (oY (On 1024 x) rfl)⟩
def Z7:AQ Wi:=⟨b41,p41 16,fun x _=>oY (On 16 x) rfl⟩
def JY:AQ Gw:=⟨fun x=>Qm [x.1]++bif x.2.1 then [1]++p9 x.2.2 else [0]++p9 x.2.2,fun x=>[x.1].all qF&&bif x.2.1 then true&&decide (oP x.2.2=0)else true&&decide (oP x.2.2=0),
 fun x h=>(oW [x.1]).seq (.bif ((eE [1]).seq (oY (zd x.2.2 h) h)) ((eE [0]).seq (oY (zd x.2.2 h) h)))⟩
def Z8(V:ByteArray->Bool):AQ (Zs V):=⟨fun x=>bif decide (0<=x.2.1)then []++(b36 x.1++([bq .u8 x.2.1]++AO [x.2.2]))else []++(b36 x.1++([bq .u8 x.2.1]++AO [x.2.2])),
 fun x=>bif decide (0<=x.2.1)then decide (x.2.1<=3)&&(Z2 V x.1&&(true&&[x.2.2].all iV))else false&&(Z2 V x.1&&(true&&[x.2.2].all iV)),
 fun x h=>.bif ((iL _).seq ((oY (B8 V x.1 h) h).seq ((eE [_]).seq (eM [x.2.2])))) ((iL _).seq ((oY (B8 V x.1 h) h).seq ((eE [_]).seq (eM [x.2.2]))))⟩
def TC:AQ Ti:=⟨fun x=>[]++([0]++(p9 x.1++(AO [(x.2.length:Int)]++AO x.2))),fun x=>decide ((x.2.length:Int)<=1024)&&(true&&(decide (oP x.1=0)&&([(x.2.length:Int)].all iV&&x.2.all iV))),
 fun x h=>(iL _).seq ((eE [0]).seq ((oY (zd x.1 h) h).seq ((eM [(x.2.length:Int)]).seq (eM x.2))))⟩
def TD:AQ Tj:=⟨fun x=>[0]++(p9 x.1++(AO [(x.2.length:Int)]++x.2)),fun x=>true&&(decide (oP x.1=0)&&([(x.2.length:Int)].all iV&&true)),
 fun x h=>(eE [0]).seq ((oY (zd x.1 h) h).seq ((eM [(x.2.length:Int)]).seq (eE x.2)))⟩
def Ed(L:List Int):Nat->Nat->List Int
 |0,_=>[]
 |k+1,i=>if i<L.length then nb (gW L (i:Int):Int)++([bq .u8 (L.getD i (ao i64))]++Ed L k (i+gW L (i:Int)))else []
def GH(L:List Int):Nat->Nat->Bool
 |0,_=>true
 |k+1,i=>if i<L.length then iV (gW L (i:Int):Int)&&(qF (L.getD i (ao i64))&&GH L k (i+gW L (i:Int)))else true
theorem zf(L:List Int): ∀ (k:Nat) (s:St) (i:Nat),rB L k s i=(s.1++Ed L k i,s.2|| !(GH L k i))
 |0,s,i=>by simp[rB,Ed,GH]
 |k+1,s,i=>by
  unfold rB Ed GH
  by_cases h:i<L.length
  ·rw[if_pos h,if_pos h,if_pos h,zf L k,AP,rE]
   have e:(s.2|| !([(gW L (i:Int):Int)].all iV)|| !([L.getD i (ao i64)].all qF)|| !(GH L k (i+gW L (i:Int))))=(s.2|| !(iV (gW L (i:Int):Int)&&(qF (L.getD i (ao i64))&&GH L k (i+gW L (i:Int))))):=by
    simp only[List.all_cons,List.all_nil,Bool.and_true]
    cases s.2<;>cases iV (gW L (i:Int):Int)<;>cases qF (L.getD i (ao i64))<;>cases GH L k (i+gW L (i:Int))<;>rfl
   show((s.1++(nb _++[]))++[bq .u8 (L.getD i (ao i64))]++Ed L k (i+gW L (i:Int)),_)=_
   simp only[e,List.append_assoc,List.append_nil]
  ·rw[if_neg h,if_neg h,if_neg h]
   simp
def zX(x:den aL):List Int:=nb (ee x.1 0)++(Ed x.1 x.1.length 0++p9 x.2)
def Qn(x:den aL):Bool:=iV (ee x.1 0)&&(GH x.1 x.1.length 0&&decide (oP x.2=0))
theorem Z9(x:den aL)(h:qw x.2=true):Wx (Gz (x.1,x.2,())) (F52 (x.1,x.2,())) (nb ((zX x).length:Int)++zX x) (decide ((x.1.length:Int)<=512)&&(Qn x&&iV ((zX x).length:Int))):=by
 obtain⟨L,c⟩:=x
 have hw:=(zd c h)
 have hn:=rD (ee L 0)
 have h1: ∀ (L0:L.length<=1099511627776) (hs:10+11*L.length<=1099511627776),(Ed L L.length 0).length<=11*L.length:=by
  intro L0 hs
  have:=D9 ([],false) L L0 (by show 0+_<=_;omega)
  unfold wZ at this
  rw[zf]at this
  simpa using this
 have key: ∀ s:St,s.1.length+Gz (L,c,())<=1099511627776->(Ed L L.length 0).length<=11*L.length:=by
  intro s hs
  have hs:s.1.length+(20+11*L.length+qL c)<=1099511627776:=hs
  exact h1 (by omega) (by omega)
 have lc:(Ed L L.length 0).length<=11*L.length:=by
  have: ∀ (k i:Nat),L.length<=i+k->i<=L.length->(Ed L k i).length<=11*(L.length - i):=by
   intro k
   induction k with
   |zero=>intro i _ _;exact Nat.zero_le _
   |succ k ih=>
    intro i a b
    unfold Ed
    split
    ·rename_i hi
     obtain⟨r1,r2⟩:=B4 L i hi
     have:=ih (i+gW L (i:Int)) (by omega) r2
     have:=rD (gW L (i:Int):Int)
     simp only[List.length_append,List.length_cons,List.length_nil]
     omega
    ·exact Nat.zero_le _
  simpa using this L.length 0 (by omega) (by omega)
 have cl:(zX (L,c)).length<=10+11*L.length+qL c:=by
  have:=hw.1
  unfold zX
  simp only[List.length_append]
  omega
 refine⟨?_,fun s hs α K=>?_⟩
 ·have:=rD ((zX (L,c)).length:Int)
  show _<=20+11*L.length+qL c
  simp only[List.length_append]
  omega
 ·have Yl:s.1.length+(20+11*L.length+qL c)<=1099511627776:=hs
  have hL:L.length<=1099511627776:=by omega
  have e1:cK ([],false) [ee L 0]=(nb (ee L 0),!(iV (ee L 0))):=by
   rw[rE]
   show([]++(nb _++[]),_)=_
   simp
  have e2:wZ (nb (ee L 0),!(iV (ee L 0))) L=(nb (ee L 0)++Ed L L.length 0,!(iV (ee L 0))|| !(GH L L.length 0)):=by
   unfold wZ
   rw[zf]
  have c1:(nb (ee L 0)).length+11*L.length<=1099511627776:=by omega
  have c2:(nb (ee L 0)++Ed L L.length 0).length+qL c<=1099511627776:=by simp only[List.length_append];omega
  have e4:(nb (ee L 0)++Ed L L.length 0)++p9 c=zX (L,c):=by
   unfold zX
   rw[List.append_assoc]
  have e5:((!(iV (ee L 0))|| !(GH L L.length 0))|| !(decide (oP c=0)))= !(Qn (L,c)):=by
   unfold Qn
   generalize iV (ee L 0)=u1
   generalize GH L L.length 0=u2
   generalize decide (oP c=0)=u3
   cases u1<;>cases u2<;>cases u3<;>rfl
  have e3: ∀ (α:Type) (K:St->Option α),wT (qw c) (qL c) (KK (c,())) α (nb (ee L 0)++Ed L L.length 0,!(iV (ee L 0))|| !(GH L L.length 0)) K=K (zX (L,c),!(Qn (L,c))):=fun α K=>by
   rw[(oY hw h).2 (nb (ee L 0)++Ed L L.length 0,!(iV (ee L 0))|| !(GH L L.length 0)) c2]
   exact congrArg K (Prod.ext e4 e5)
  have c0:decide (([]:List Int).length+10*[ee L 0].length<=1099511627776)=true:=decide_eq_true (by simp only[List.length_cons,List.length_nil];omega)
  have k1:((decide ((L.length:Int)=(L.length:Int))&&decide ((0:Int)=0))&&decide (L.length<=1099511627776))=true:=by
   rw[Bool.and_eq_true,Bool.and_eq_true]
   exact⟨⟨decide_eq_true rfl,decide_eq_true rfl⟩,decide_eq_true hL⟩
  have k2:((decide ((0:Int)=0)&&decide (L.length<=1099511627776))&&decide ((nb (ee L 0)).length+11*L.length<=1099511627776))=true:=by
   rw[Bool.and_eq_true,Bool.and_eq_true]
   exact⟨⟨decide_eq_true rfl,decide_eq_true hL⟩,decide_eq_true c1⟩
  have e6:=((iL (!(!(Qn (L,c))))).seq ((eM [((zX (L,c)).length:Int)]).seq (B7 (zX (L,c))))).2 (s.1,s.2|| !decide ((L.length:Int)<=512)) (by
   show s.1.length+_<=_
   simp only[List.length_cons,List.length_nil]
   omega) α K
  show aM ((decide ((L.length:Int)=(L.length:Int))&&decide ((0:Int)=0))&&decide (L.length<=1099511627776)) (aM (decide (([]:List Int).length+10*[ee L 0].length<=1099511627776)) (aM ((decide ((0:Int)=0)&&decide (L.length<=1099511627776))&&decide ((cK ([],false) [ee L 0]).1.length+11*L.length<=1099511627776)) (wT (qw c) (qL c) (KK (c,())) α (wZ (cK ([],false) [ee L 0]) L) fun q=>jv (!q.2) α (s.1,s.2|| !decide ((L.length:Int)<=512)) fun s=>ic [(q.1.length:Int)] α s fun s=>zV q.1 α s K)))=_
  rw[e1,e2,e3,k1,k2,c0]
  unfold aM
  rw[cond_true,cond_true,cond_true]
  refine Eq.trans e6 ?_
  congr 2
  ·show s.1++([]++((nb _++[])++zX (L,c)))=_
   simp
  ·show((s.2|| !decide ((L.length:Int)<=512))|| !(!(!(Qn (L,c)))&&((iV _&&true)&&true)))=_
   generalize decide ((L.length:Int)<=512)=u1
   generalize iV ((zX (L,c)).length:Int)=u2
   cases s.2<;>cases u1<;>cases Qn (L,c)<;>cases u2<;>rfl
def JZ:AQ Tp:=⟨fun x=>nb ((zX x).length:Int)++zX x,fun x=>decide ((x.1.length:Int)<=512)&&(Qn x&&iV ((zX x).length:Int)),fun x h=>Z9 x h⟩
def Z'(V:ByteArray->Bool)(y:aj tM):List Int:=pd Z3 1 y.1++(pd (Z4 V) 2 y.2.1++(pd Z5 3 y.2.2.1++(pd Z6 4 y.2.2.2.1++(pd Z7 5 y.2.2.2.2.1++(pd JY 6 y.2.2.2.2.2.1++pd (Z8 V) 7 y.2.2.2.2.2.2.1)))))
def Oo(y:aj tM):List Int:=pd TC 9 y.2.2.2.2.2.2.2.2.1++(pd JZ 10 y.2.2.2.2.2.2.2.2.2.1++pd TD 11 y.2.2.2.2.2.2.2.2.2.2.1)
def stB(n:Int):List Int:=bif decide (0<=n)then 8::(nb ((nb n).length:Int)++nb n)else []
def aaa(V:ByteArray->Bool)(y:aj tM):Bool:=qG Z3 256 y.1&&(qG (Z4 V) 512 y.2.1&&(qG Z5 512 y.2.2.1&&(qG Z6 512 y.2.2.2.1&&(qG Z7 512 y.2.2.2.2.1&&(qG JY 512 y.2.2.2.2.2.1&&qG (Z8 V) 512 y.2.2.2.2.2.2.1)))))
def aab(y:aj tM):Bool:=qG TC 512 y.2.2.2.2.2.2.2.2.1&&(qG JZ 512 y.2.2.2.2.2.2.2.2.2.1&&qG TD 512 y.2.2.2.2.2.2.2.2.2.2.1)
def stP(n:Int):Bool:=decide (-1<=n)&&bif decide (0<=n)then iV n&&iV ((nb n).length:Int)else true
def Qo(V:ByteArray->Bool)(y:aj tM):Bool:=decide ((y.2.2.1.length:Int)=(y.2.2.2.2.2.2.2.2.2.1.length:Int))&&(aaa V y&&(stP y.2.2.2.2.2.2.2.1&&aab y))
def Qp(V:ByteArray->Bool)(y:aj tM):List Int:=Z' V y++(stB y.2.2.2.2.2.2.2.1++Oo y)
theorem J0(n:Int):Wx 21 (Oh n) (8::(nb ((nb n).length:Int)++nb n)) (iV n&&iV ((nb n).length:Int)):=by
 have hn:=rD n
 have h:=Om 8 (nb n) (!(iV n))
 refine⟨Nat.le_trans h.1 (by omega),fun s hs α K=>?_⟩
 have e1:cK ([],false) [n]=(nb n,!(iV n)):=by
  rw[rE]
  show([]++(nb _++[]),_)=_
  simp
 show aM (decide (([]:List Int).length+10*[n].length<=1099511627776)) (wT true (wW (8,(cK ([],false) [n]).1,(cK ([],false) [n]).2,())) (Qk (8,(cK ([],false) [n]).1,(cK ([],false) [n]).2,())) α s K)=_
 rw[e1]
 have c:s.1.length+wW (8,nb n,!(iV n),())<=1099511627776:=by
  show s.1.length+(0+(1+(10+(nb n).length)))<=_
  omega
 show wT true (wW (8,nb n,!(iV n),())) (Qk (8,nb n,!(iV n),())) α s K=_
 unfold wT
 rw[decide_eq_true c,h.mw (by omega)]
 show K _=_
 congr 2
 generalize iV n=u1
 generalize iV ((nb n).length:Int)=u2
 cases s.2<;>cases u1<;>cases u2<;>rfl
theorem kL{t:Ty}{A:Item (den t)}(B:AQ A)(id most:Int)(l:List (den t))(h:cu A.ok l=true):Wx (21+nr A.wt l) (w7 A id most l) (pd B id l) (qG B most l):=oY (ad4 B id most l h) h
theorem Ik(y:aj tM)(h1:cu Ti.ok y.2.2.2.2.2.2.2.2.1=true)(h2:cu Tp.ok y.2.2.2.2.2.2.2.2.2.1=true)(h3:cu Tj.ok y.2.2.2.2.2.2.2.2.2.2.1=true):Wx (Ea y) (Tt y) (Oo y) (aab y):=
 (kL TC 9 512 _ h1).seq ((kL JZ 10 512 _ h2).seq (kL TD 11 512 _ h3))
theorem aac(V:ByteArray->Bool)(y:aj tM)(h:Wj V y=true):Wx (Eb V y) (F18 V y) (Qp V y) (Qo V y):=by
 unfold Wj at h
 simp only[Bool.and_eq_true]at h
 obtain⟨h1,h2,h3,h4,h5,h6,h7,h8,h9,Tv⟩:=h
 have k9:=Wx.bif (c:=decide (0<=y.2.2.2.2.2.2.2.1)) ((J0 y.2.2.2.2.2.2.2.1).seq (Ik y h8 h9 Tv)) ((Ik y h8 h9 Tv).le (m:=21+Ea y) (Nat.le_add_left _ _))
 have k8:=(iL (decide (-1<=y.2.2.2.2.2.2.2.1))).seq k9
 have k7:=(kL (Z8 V) 7 512 _ h7).seq k8
 have k6:=(kL JY 6 512 _ h6).seq k7
 have k5:=(kL Z7 5 512 _ h5).seq k6
 have k4:=(kL Z6 4 512 _ h4).seq k5
 have k3:=(kL Z5 3 512 _ h3).seq k4
 have k2:=(kL (Z4 V) 2 512 _ h2).seq k3
 have k1:=(kL Z3 1 256 _ h1).seq k2
 have k0:=(iL (decide ((y.2.2.1.length:Int)=(y.2.2.2.2.2.2.2.2.2.1.length:Int)))).seq k1
 refine Wx.eq (F:=F18 V y) k0 ?_ ?_
 ·unfold Qp Z' stB
  generalize decide (0<=y.2.2.2.2.2.2.2.1)=u
  cases u<;>simp only[cond_true,cond_false,List.nil_append,List.append_assoc]
 ·unfold Qo aaa stP
  generalize decide (0<=y.2.2.2.2.2.2.2.1)=u
  cases u<;>simp only[cond_true,cond_false,Bool.and_assoc,Bool.true_and,Bool.and_true]
theorem Il{V:ByteArray->Bool}{y:aj tM}(h:GA V y=true):zW V y=(s0.1++Qp V y,!(Qo V y)):=by
 unfold GA at h
 simp only[Bool.and_eq_true,decide_eq_true_eq]at h
 unfold zW
 rw[(aac V y h.1).mw (s:=s0) h.2]
 rfl
end Go.Proofs.Vd

noncomputable section
namespace Go.Proofs.Vd
open Go.Ab Go.Ab.Lf
set_option maxRecDepth 100000
abbrev Oq:List Ty:=[.ae aH,.ae aS,.ae i64,.ae ak,.ae ak,.ae aC,.ae aR,i64,.ae aG,.ae aL,.ae aJ,.ae i64,.ae i64,.ae cI,.bool,i64,i64,i64,u64,u64,.ae i64]
abbrev vb:List Ty:=[.ae aH,.ae aS,.ae i64,.ae ak,.ae ak,.ae aC,.ae aR,i64,.ae aG,.ae aL,.ae aJ,.ae i64,.ae i64,.ae cI,.bool]
def e86:List (Nat×cR):=[(91,s72),(92,s73),(95,Wl)]
theorem aad{V:ByteArray->Bool}{aq:aB}(W:WorldC V aq):db aq (e86):=(.cons (za W.toWorld) (.cons (y0 W.toWorld) (.cons (tE W.toWorld) .nil)))
def t86(x:aj Oq):Lf.T (List Pl):=iN (Ps [jK 0,pI]) [14] (Ps [.tu .nil,jK 14]) (fun _=>none) Tryz.YJ 3 (dH (e86) 3) (aA Oq x)
def k86(x:aj Oq):Bool:=jr vb (t86 x)
def m86(x:aj Oq):aj vb:=eA vb (t86 x)
def s86:cR:=hU (Ps [jK 0,pI]) [14] (Ps [.tu .nil,jK 14]) Oq vb fun x=>.ck (k86 x) (.ok (m86 x))
theorem aae{V:ByteArray->Bool}{aq:aB}(W:WorldC V aq):(s86).Ok 107 aq:=
 eg (W.toWorld.in (aad W) 3) (W.toWorld.st 107 _ rfl) rfl (aE _) (m:=3) rfl (fun _=>rfl) (fun _=>rfl)
abbrev wG:List Ty:=[.ae aH,.ae aS,.ae i64,.ae ak,.ae ak,.ae aC,.ae aR,i64,.ae aG,.ae aL,.ae aJ,.ae i64,.ae i64,.ae cI,.bool,.ae i64,.ae i64,i64]
abbrev p':List Ty:=[.ae aH,.ae aS,.ae i64,.ae ak,.ae ak,.ae aC,.ae aR,i64,.ae aG,.ae aL,.ae aJ,.ae i64,.ae i64,.ae cI,.bool,.ae i64]
def TE:jX:=⟨0,fE Tryz.SZ.code 0,[0,1,4,5],(Ps [jK 14,.im i64,.ow i64,.n .i64]),[⟨.lL,[0,4],Ps [jK 14,.ow i64]⟩]⟩
def ad7:List (Nat×cR):=[(92,s73)]
theorem TF{V:ByteArray->Bool}{aq:aB}(W:WorldC V aq):db aq (ad7):=(.cons (y0 W.toWorld) .nil)
def Ou:List Pl->Lf.T Rs:=TE.step (fun _=>none) (dH (ad7) 3) 3
def ad8:fA:=rm TE (Ou) wG p'
theorem TG{V:ByteArray->Bool}{aq:aB}(W:WorldC V aq):dZ Rx.w (ad8) (fun n d=>gD (aq n d) n (.bl 0 (.lp TE.body))):=gb (W.toWorld.in (TF W) 3) (aE _) (m:=3) wG p'
def L85:Nat->Option fA:=pX [(0,ad8)]
abbrev J1:List Ty:=[.ae aH,.ae aS,.ae i64,.ae ak,.ae ak,.ae aC,.ae aR,i64,.ae aG,.ae aL,.ae aJ,.ae i64,.ae i64,.ae cI,.bool,.ae i64]
abbrev Ee:List Ty:=[.ae aH,.ae aS,.ae i64,.ae ak,.ae ak,.ae aC,.ae aR,i64,.ae aG,.ae aL,.ae aJ,.ae i64,.ae i64,.ae cI,.bool]
def e85:List (Nat×cR):=[(91,s72)]
theorem aaf{V:ByteArray->Bool}{aq:aB}(W:WorldC V aq):db aq (e85):=(.cons (za W.toWorld) .nil)
def t85(x:aj J1):Lf.T (List Pl):=iN (Ps [jK 0,.im i64]) [14] (Ps [.tu .nil,jK 14]) L85 Tryz.SZ 18 (dH (e85) 18) (aA J1 x)
def k85(x:aj J1):Bool:=jr Ee (t85 x)
def m85(x:aj J1):aj Ee:=eA Ee (t85 x)
def s85:cR:=hU (Ps [jK 0,.im i64]) [14] (Ps [.tu .nil,jK 14]) J1 Ee fun x=>.ck (k85 x) (.ok (m85 x))
theorem aag{V:ByteArray->Bool}{aq:aB}(W:WorldC V aq):(s85).Ok 106 aq:=
 eg (W.toWorld.in (aaf W) 18) (W.toWorld.st 106 _ rfl) rfl (fq.jl (.cons (b:=TE.body) (by kernel_rfl) (TG W) .nil)) (m:=18) rfl (fun _=>rfl) (fun _=>rfl)
abbrev vc:List Ty:=[.ae aH,.ae aS,.ae i64,.ae ak,.ae ak,.ae aC,.ae aR,i64,.ae aG,.ae aL,.ae aJ,.ae i64,.ae i64,.ae cI,.bool,.ae i64,.ae i64,i64,i64]
abbrev nC:List Ty:=[.ae aH,.ae aS,.ae i64,.ae ak,.ae ak,.ae aC,.ae aR,i64,.ae aG,.ae aL,.ae aJ,.ae i64,.ae i64,.ae cI,.bool,.ae i64]
def TH:jX:=⟨1,fE Tryz.x96.code 1,[0,5,51,52,53],(Ps [jK 14,.im i64,.im i64,.n .i64,.n .i64]),[⟨.lL,[0,5],Ps [jK 14,.im i64]⟩]⟩
def ad':List (Nat×cR):=[(95,Wl),(105,s84),(106,s85)]
theorem TI{V:ByteArray->Bool}{aq:aB}(W:WorldC V aq):db aq (ad'):=(.cons (tE W.toWorld) (.cons (Oj W.toWorld) (.cons (aag W) .nil)))
def J2:List Pl->Lf.T Rs:=TH.step (fun _=>none) (dH (ad') 3) 3
def aea:fA:=rm TH (J2) vc nC
theorem TJ{V:ByteArray->Bool}{aq:aB}(W:WorldC V aq):dZ Rx.w (aea) (fun n d=>gD (aq n d) n (.bl 1 (.lp TH.body))):=gb (W.toWorld.in (TI W) 3) (aE _) (m:=3) vc nC
def L77:Nat->Option fA:=pX [(1,aea)]
abbrev Ov:List Ty:=[.ae aH,.ae aS,.ae i64,.ae ak,.ae ak,.ae aC,.ae aR,i64,.ae aG,.ae aL,.ae aJ,.ae i64,.ae i64,.ae cI,.bool,i64,i64,i64,u64,u64,.ae i64]
abbrev zg:List Ty:=[.ae aH,.ae aS,.ae i64,.ae ak,.ae ak,.ae aC,.ae aR,i64,.ae aG,.ae aL,.ae aJ,.ae i64,.ae i64,.ae cI,.bool]
def e77:List (Nat×cR):=[(90,s71),(91,s72),(92,s73),(104,s83),(105,s84),(107,s86)]
theorem aah{V:ByteArray->Bool}{aq:aB}(W:WorldC V aq):db aq (e77):=(.cons (GC W.toWorld) (.cons (za W.toWorld) (.cons (y0 W.toWorld) (.cons (ZM W.toWorld) (.cons (Oj W.toWorld) (.cons (aae W) .nil))))))
def t77(x:aj Ov):Lf.T (List Pl):=iN (Ps [jK 0,pI]) [14] (Ps [.tu .nil,jK 14]) L77 Tryz.x96 3 (dH (e77) 3) (aA Ov x)
def k77(x:aj Ov):Bool:=jr zg (t77 x)
def m77(x:aj Ov):aj zg:=eA zg (t77 x)
def s77:cR:=hU (Ps [jK 0,pI]) [14] (Ps [.tu .nil,jK 14]) Ov zg fun x=>.ck (k77 x) (.ok (m77 x))
theorem aai{V:ByteArray->Bool}{aq:aB}(W:WorldC V aq):(s77).Ok 96 aq:=
 eg (W.toWorld.in (aah W) 3) (W.toWorld.st 96 _ rfl) rfl (fq.jl (.cons (b:=TH.body) (by kernel_rfl) (TJ W) .nil)) (m:=3) rfl (fun _=>rfl) (fun _=>rfl)
abbrev J3:List Ty:=[.ae aH,.ae aS,.ae i64,.ae ak,.ae ak,.ae aC,.ae aR,i64,.ae aG,.ae aL,.ae aJ,.ae i64,.ae i64,.ae cI,.bool,i64]
abbrev B9:List Ty:=[.ae aH,.ae aS,.ae i64,.ae ak,.ae ak,.ae aC,.ae aR,i64,.ae aG,.ae aL,.ae aJ,.ae i64,.ae i64,.ae cI,.bool]
def e75:List (Nat×cR):=[(76,s60),(90,s71),(91,s72),(95,Wl),(103,s82)]
theorem aaj{V:ByteArray->Bool}{aq:aB}(W:WorldC V aq):db aq (e75):=(.cons (GF W.toWorld) (.cons (GC W.toWorld) (.cons (za W.toWorld) (.cons (tE W.toWorld) (.cons (ZZ W.toWorld) .nil)))))
def t75(x:aj J3):Lf.T (List Pl):=iN (Ps [jK 0,.n .i64]) [14] (Ps [.tu .nil,jK 14]) (fun _=>none) Tryz.x94 3 (dH (e75) 3) (aA J3 x)
def k75(x:aj J3):Bool:=jr B9 (t75 x)
def m75(x:aj J3):aj B9:=eA B9 (t75 x)
def s75:cR:=hU (Ps [jK 0,.n .i64]) [14] (Ps [.tu .nil,jK 14]) J3 B9 fun x=>.ck (k75 x) (.ok (m75 x))
theorem aak{V:ByteArray->Bool}{aq:aB}(W:WorldC V aq):(s75).Ok 94 aq:=
 eg (W.toWorld.in (aaj W) 3) (W.toWorld.st 94 _ rfl) rfl (aE _) (m:=3) rfl (fun _=>rfl) (fun _=>rfl)
abbrev GJ:List Ty:=[.ae aH,.ae aS,.ae i64,.ae ak,.ae ak,.ae aC,.ae aR,i64,.ae aG,.ae aL,.ae aJ,.ae i64,.ae i64,.ae cI,.bool,i64,i64,i64,u64,u64,.ae i64]
abbrev l8:List Ty:=[.ae aH,.ae aS,.ae i64,.ae ak,.ae ak,.ae aC,.ae aR,i64,.ae aG,.ae aL,.ae aJ,.ae i64,.ae i64,.ae cI,.bool]
def e62:List (Nat×cR):=[(70,s10),(88,s11),(85,s21),(76,s60),(89,s70),(90,s71),(91,s72),(92,s73),(93,s74),(94,s75),(95,Wl),(96,s77)]
theorem aal{V:ByteArray->Bool}{aq:aB}(W:WorldC V aq):db aq (e62):=(.cons (B6 W) (.cons (NJ W.toWorld) (.cons (GD W) (.cons (GF W.toWorld) (.cons (Z1 W.toWorld) (.cons (GC W.toWorld) (.cons (za W.toWorld) (.cons (y0 W.toWorld) (.cons (ZT W) (.cons (aak W) (.cons (tE W.toWorld) (.cons (aai W) .nil))))))))))))
def t62(x:aj GJ):Lf.T (List Pl):=iN (Ps [jK 0,pI]) [14] (Ps [.tu .nil,jK 14]) (fun _=>none) Tryz.x78 3 (dH (e62) 3) (aA GJ x)
def k62(x:aj GJ):Bool:=jr l8 (t62 x)
def AR(x:aj GJ):aj l8:=eA l8 (t62 x)
def s62:cR:=hU (Ps [jK 0,pI]) [14] (Ps [.tu .nil,jK 14]) GJ l8 fun x=>.ck (k62 x) (.ok (AR x))
theorem aan{V:ByteArray->Bool}{aq:aB}(W:WorldC V aq):(s62).Ok 78 aq:=
 eg (W.toWorld.in (aal W) 3) (W.toWorld.st 78 _ rfl) rfl (aE _) (m:=3) rfl (fun _=>rfl) (fun _=>rfl)
end Go.Proofs.Vd

noncomputable section
namespace Go.Proofs.Vd
open Go.Ab Go.Ab.Lf
set_option maxRecDepth 100000
abbrev ve:List Ty:=[.ae (.ae i64),i64,.ae (.ae i64),i64,i64]
abbrev mb:List Ty:=[.ae (.ae i64),i64]
def TK:jX:=⟨0,fE Tryz.x75.code 0,[0,3,9,10,11],(Ps [.im (.ae i64),.n .i64,.im (.ae i64),.n .i64,.n .i64]),[⟨.lL,[0,3],Ps [.im (.ae i64),.n .i64]⟩]⟩
def aeg:List (Nat×cR):=[]
theorem TL{V:ByteArray->Bool}{aq:aB}(W:WorldC V aq):db aq (aeg):=.nil
def GK:List Pl->Lf.T Rs:=TK.step (fun _=>none) (dH (aeg) 3) 3
def aeh:fA:=rm TK (GK) ve mb
theorem TM{V:ByteArray->Bool}{aq:aB}(W:WorldC V aq):dZ Rx.w (aeh) (fun n d=>gD (aq n d) n (.bl 0 (.lp TK.body))):=gb (W.toWorld.in (TL W) 3) (aE _) (m:=3) ve mb
abbrev sP:List Ty:=[.ae i64,.ae (.ae i64),i64,i64]
abbrev mc:List Ty:=[.ae i64]
def TN:jX:=⟨2,fE Tryz.x75.code 2,[6,25,26,27],(Ps [.ow i64,.im (.ae i64),.n .i64,.n .i64]),[⟨.lL,[6],Ps [.ow i64]⟩]⟩
def aei:List (Nat×cR):=[]
theorem TO{V:ByteArray->Bool}{aq:aB}(W:WorldC V aq):db aq (aei):=.nil
def Ef:List Pl->Lf.T Rs:=TN.step (fun _=>none) (dH (aei) 3) 3
def aej:fA:=rm TN (Ef) sP mc
theorem TP{V:ByteArray->Bool}{aq:aB}(W:WorldC V aq):dZ Rx.w (aej) (fun n d=>gD (aq n d) n (.bl 2 (.lp TN.body))):=gb (W.toWorld.in (TO W) 3) (aE _) (m:=3) sP mc
def L59:Nat->Option fA:=pX [(0,aeh),(2,aej)]
abbrev Ow:List Ty:=[.ae (.ae i64)]
abbrev GL:List Ty:=[.ae i64]
def e59:List (Nat×cR):=[]
theorem aao{V:ByteArray->Bool}{aq:aB}(W:WorldC V aq):db aq (e59):=.nil
def t59(x:aj Ow):Lf.T (List Pl):=iN (Ps [.im (.ae i64)]) [] (Ps [.ow i64]) L59 Tryz.x75 3 (dH (e59) 3) (aA Ow x)
def k59(x:aj Ow):Bool:=jr GL (t59 x)
def m59(x:aj Ow):aj GL:=eA GL (t59 x)
def s59:cR:=hU (Ps [.im (.ae i64)]) [] (Ps [.ow i64]) Ow GL fun x=>.ck (k59 x) (.ok (m59 x))
theorem aap{V:ByteArray->Bool}{aq:aB}(W:WorldC V aq):(s59).Ok 75 aq:=
 eg (W.toWorld.in (aao W) 3) (W.toWorld.st 75 _ rfl) rfl (fq.jl (.cons (b:=TK.body) (by kernel_rfl) (TM W) (.cons (b:=TN.body) (by kernel_rfl) (TP W) .nil))) (m:=3) rfl (fun _=>rfl) (fun _=>rfl)
abbrev vf:List Ty:=[.ae (.ae ak),i64,.ae (.ae ak),i64,i64]
abbrev mf:List Ty:=[.ae (.ae ak),i64]
def TQ:jX:=⟨0,fE Tryz.x71.code 0,[0,3,9,10,11],(Ps [.im (.ae ak),.n .i64,.im (.ae ak),.n .i64,.n .i64]),[⟨.lL,[0,3],Ps [.im (.ae ak),.n .i64]⟩]⟩
def aem:List (Nat×cR):=[]
theorem TS{V:ByteArray->Bool}{aq:aB}(W:WorldC V aq):db aq (aem):=.nil
def GM:List Pl->Lf.T Rs:=TQ.step (fun _=>none) (dH (aem) 3) 3
def aen:fA:=rm TQ (GM) vf mf
theorem TT{V:ByteArray->Bool}{aq:aB}(W:WorldC V aq):dZ Rx.w (aen) (fun n d=>gD (aq n d) n (.bl 0 (.lp TQ.body))):=gb (W.toWorld.in (TS W) 3) (aE _) (m:=3) vf mf
abbrev sQ:List Ty:=[.ae ak,.ae (.ae ak),i64,i64]
abbrev mg:List Ty:=[.ae ak]
def TU:jX:=⟨2,fE Tryz.x71.code 2,[6,25,26,27],(Ps [.ow ak,.im (.ae ak),.n .i64,.n .i64]),[⟨.lL,[6],Ps [.ow ak]⟩]⟩
def aeo:List (Nat×cR):=[]
theorem TW{V:ByteArray->Bool}{aq:aB}(W:WorldC V aq):db aq (aeo):=.nil
def Eg:List Pl->Lf.T Rs:=TU.step (fun _=>none) (dH (aeo) 3) 3
def aep:fA:=rm TU (Eg) sQ mg
theorem TX{V:ByteArray->Bool}{aq:aB}(W:WorldC V aq):dZ Rx.w (aep) (fun n d=>gD (aq n d) n (.bl 2 (.lp TU.body))):=gb (W.toWorld.in (TW W) 3) (aE _) (m:=3) sQ mg
def L55:Nat->Option fA:=pX [(0,aen),(2,aep)]
abbrev Oy:List Ty:=[.ae (.ae ak)]
abbrev GN:List Ty:=[.ae ak]
def e55:List (Nat×cR):=[]
theorem aaq{V:ByteArray->Bool}{aq:aB}(W:WorldC V aq):db aq (e55):=.nil
def t55(x:aj Oy):Lf.T (List Pl):=iN (Ps [.im (.ae ak)]) [] (Ps [.ow ak]) L55 Tryz.x71 3 (dH (e55) 3) (aA Oy x)
def k55(x:aj Oy):Bool:=jr GN (t55 x)
def m55(x:aj Oy):aj GN:=eA GN (t55 x)
def s55:cR:=hU (Ps [.im (.ae ak)]) [] (Ps [.ow ak]) Oy GN fun x=>.ck (k55 x) (.ok (m55 x))
theorem aas{V:ByteArray->Bool}{aq:aB}(W:WorldC V aq):(s55).Ok 71 aq:=
 eg (W.toWorld.in (aaq W) 3) (W.toWorld.st 71 _ rfl) rfl (fq.jl (.cons (b:=TQ.body) (by kernel_rfl) (TT W) (.cons (b:=TU.body) (by kernel_rfl) (TX W) .nil))) (m:=3) rfl (fun _=>rfl) (fun _=>rfl)
abbrev tU:Ty:=.pair .bool (.pair i64 i64)
abbrev Im:jW:=.pt 0 (Ps [.im aH,.im aS,.im i64,.im ak,.im ak,.im aC,.im aR,.n .i64,.im aG,.im aL,.im aJ])
abbrev sR:List Ty:=[.ae aH,.ae aS,.ae i64,.ae ak,.ae ak,.ae aC,.ae aR,i64,.ae aG,.ae aL,.ae aJ,.ae i64,.ae i64,.ae cI,.bool,.ae tU,i64,i64,i64,i64,u64,u64,.ae i64,.ae tI,i64,i64,i64,i64,i64]
abbrev mh:List Ty:=[.ae aH,.ae aS,.ae i64,.ae ak,.ae ak,.ae aC,.ae aR,i64,.ae aG,.ae aL,.ae aJ,.ae i64,.ae i64,.ae cI,.bool,.ae tU,i64,i64,i64,i64,u64,u64,.ae i64,.ae tI,i64,i64,i64]
def TY:jX:=⟨2,fE Tryz.x27.code 2,[8,9,11,12,57,58,59,10,80,81,82],(Ps [jK 0,.ow tU,.n .i64,pBI,.im tI,.n .i64,.n .i64,.n .i64,.oo 12 1,.n .i64,.n .i64]),[⟨.lL,[8,9,11,12,57,58,59,10],Ps [jK 0,.ow tU,.n .i64,pBI,.im tI,.n .i64,.n .i64,.n .i64]⟩]⟩
def aer:List (Nat×cR):=[]
theorem TZ{V:ByteArray->Bool}{aq:aB}(W:WorldC V aq):db aq (aer):=.nil
def J4:List Pl->Lf.T Rs:=TY.step (fun _=>none) (dH (aer) 3) 3
def aes:fA:=rm TY (J4) sR mh
theorem T3{V:ByteArray->Bool}{aq:aB}(W:WorldC V aq):dZ Rx.w (aes) (fun n d=>gD (aq n d) n (.bl 2 (.lp TY.body))):=gb (W.toWorld.in (TZ W) 3) (aE _) (m:=3) sR mh
def ajS:Nat->Option fA:=pX [(2,aes)]
abbrev ig:List Ty:=[.ae aH,.ae aS,.ae i64,.ae ak,.ae ak,.ae aC,.ae aR,i64,.ae aG,.ae aL,.ae aJ,.ae i64,.ae i64,.ae cI,.bool,.ae tU,.ae tI,i64,i64]
abbrev gf:List Ty:=[.ae tU]
abbrev ij:List Ty:=[.ae tU,.bool]
def T4:jX:=⟨0,fE Tryz.x27.code 0,[8,9,57,58,59],(Ps [jK 0,.ow tU,.im tI,.n .i64,.n .i64]),[⟨.lL,[9],Ps [.ow tU]⟩,⟨.rt,[4,5],Ps [.ow tU,.bo]⟩]⟩
def aet:List (Nat×cR):=[(78,s62)]
theorem T5{V:ByteArray->Bool}{aq:aB}(W:WorldC V aq):db aq (aet):=(.cons (aan W) .nil)
def tF:List Pl->Lf.T Rs:=T4.step ajS (dH (aet) 3) 3
def aeu:fA:=tA T4 (tF) ig gf ij
theorem T6{V:ByteArray->Bool}{aq:aB}(W:WorldC V aq):dZ Rx.w (aeu) (fun n d=>gD (aq n d) n (.bl 0 (.lp T4.body))):=hY (W.toWorld.in (T5 W) 3) (fq.jl (.cons (b:=TY.body) (by kernel_rfl) (T3 W) .nil)) (m:=3) ig gf ij
def L20:Nat->Option fA:=pX [(0,aeu)]
abbrev Oz:List Ty:=[.ae aH,.ae aS,.ae i64,.ae ak,.ae ak,.ae aC,.ae aR,i64,.ae aG,.ae aL,.ae aJ,i64]
abbrev Ca:List Ty:=[.ae tU,.bool]
def e20:List (Nat×cR):=[(70,s10),(75,s59),(76,s60)]
theorem aau{V:ByteArray->Bool}{aq:aB}(W:WorldC V aq):db aq (e20):=(.cons (B6 W) (.cons (aap W) (.cons (GF W.toWorld) .nil)))
def t20(x:aj Oz):Lf.T (List Pl):=iN (Ps [pM,.n .i64]) [] (Ps [.tu (Ps [.ow tU,.bo])]) L20 Tryz.x27 3 (dH (e20) 3) (aA Oz x)
def k20(x:aj Oz):Bool:=jr Ca (t20 x)
def m20(x:aj Oz):aj Ca:=eA Ca (t20 x)
def s20:cR:=hU (Ps [pM,.n .i64]) [] (Ps [.tu (Ps [.ow tU,.bo])]) Oz Ca fun x=>.ck (k20 x) (.ok (m20 x))
theorem aav{V:ByteArray->Bool}{aq:aB}(W:WorldC V aq):(s20).Ok 27 aq:=
 eg (W.toWorld.in (aau W) 3) (W.toWorld.st 27 _ rfl) rfl (fq.jl (.cons (b:=T4.body) (by kernel_rfl) (T6 W) .nil)) (m:=3) rfl (fun _=>rfl) (fun _=>rfl)
abbrev rF:List Ty:=[i64,.ae aH,.ae aS,.ae i64,.ae ak,.ae ak,.ae aC,.ae aR,i64,.ae aG,.ae aL,.ae aJ,.ae aG,i64,i64,.ae i64,i64,i64]
abbrev qa:List Ty:=[i64,.ae aH,.ae aS,.ae i64,.ae ak,.ae ak,.ae aC,.ae aR,i64,.ae aG,.ae aL,.ae aJ,.ae aG,i64,i64]
abbrev r7:List Ty:=[.bool]
def T7:jX:=⟨2,fE Tryz.x74.code 2,[1,2,12,13,14,29,30,31],(Ps [.n .i64,Im,.im aG,.n .i64,.n .i64,.im i64,.n .i64,.n .i64]),[⟨.lL,[1,2,12,13,14],Ps [.n .i64,Im,.im aG,.n .i64,.n .i64]⟩,⟨.rt,[4],Ps [.bo]⟩]⟩
def aew:List (Nat×cR):=[]
theorem T8{V:ByteArray->Bool}{aq:aB}(W:WorldC V aq):db aq (aew):=.nil
def GO:List Pl->Lf.T Rs:=T7.step (fun _=>none) (dH (aew) 3) 3
def aex:fA:=tA T7 (GO) rF qa r7
theorem T9{V:ByteArray->Bool}{aq:aB}(W:WorldC V aq):dZ Rx.w (aex) (fun n d=>gD (aq n d) n (.bl 2 (.lp T7.body))):=hY (W.toWorld.in (T8 W) 3) (aE _) (m:=3) rF qa r7
def ajU:Nat->Option fA:=pX [(2,aex)]
abbrev qx:List Ty:=[i64,.ae aH,.ae aS,.ae i64,.ae ak,.ae ak,.ae aC,.ae aR,i64,.ae aG,.ae aL,.ae aJ,.ae aG,i64,i64]
abbrev nD:List Ty:=[.ae aH,.ae aS,.ae i64,.ae ak,.ae ak,.ae aC,.ae aR,i64,.ae aG,.ae aL,.ae aJ]
abbrev nE:List Ty:=[.bool]
def Ua:jX:=⟨0,fE Tryz.x74.code 0,[1,2,12,13,14],(Ps [.n .i64,Im,.im aG,.n .i64,.n .i64]),[⟨.lL,[2],Ps [Im]⟩,⟨.rt,[4],Ps [.bo]⟩]⟩
def aey:List (Nat×cR):=[(72,s56)]
theorem Ub{V:ByteArray->Bool}{aq:aB}(W:WorldC V aq):db aq (aey):=(.cons (GB W.toWorld) .nil)
def GP:List Pl->Lf.T Rs:=Ua.step ajU (dH (aey) 3) 3
def aez:fA:=tA Ua (GP) qx nD nE
theorem Uc{V:ByteArray->Bool}{aq:aB}(W:WorldC V aq):dZ Rx.w (aez) (fun n d=>gD (aq n d) n (.bl 0 (.lp Ua.body))):=hY (W.toWorld.in (Ub W) 3) (fq.jl (.cons (b:=T7.body) (by kernel_rfl) (T9 W) .nil)) (m:=3) qx nD nE
abbrev sU:List Ty:=[.ae aH,.ae aS,.ae i64,.ae ak,.ae ak,.ae aC,.ae aR,i64,.ae aG,.ae aL,.ae aJ,.ae aJ,i64,i64]
abbrev r8:List Ty:=[]
abbrev qb:List Ty:=[.bool]
def Ud:jX:=⟨4,fE Tryz.x74.code 4,[2,41,42,43],(Ps [Im,.im aJ,.n .i64,.n .i64]),[⟨.lL,[],.nil⟩,⟨.rt,[4],Ps [.bo]⟩]⟩
def aeA:List (Nat×cR):=[(72,s56)]
theorem Ue{V:ByteArray->Bool}{aq:aB}(W:WorldC V aq):db aq (aeA):=(.cons (GB W.toWorld) .nil)
def J5:List Pl->Lf.T Rs:=Ud.step (fun _=>none) (dH (aeA) 3) 3
def aeB:fA:=tA Ud (J5) sU r8 qb
theorem Uf{V:ByteArray->Bool}{aq:aB}(W:WorldC V aq):dZ Rx.w (aeB) (fun n d=>gD (aq n d) n (.bl 4 (.lp Ud.body))):=hY (W.toWorld.in (Ue W) 3) (aE _) (m:=3) sU r8 qb
def L58:Nat->Option fA:=pX [(0,aez),(4,aeB)]
abbrev OA:List Ty:=[.ae aH,.ae aS,.ae i64,.ae ak,.ae ak,.ae aC,.ae aR,i64,.ae aG,.ae aL,.ae aJ,i64]
abbrev Eh:List Ty:=[.bool]
def e58:List (Nat×cR):=[]
theorem aaw{V:ByteArray->Bool}{aq:aB}(W:WorldC V aq):db aq (e58):=.nil
def t58(x:aj OA):Lf.T (List Pl):=iN (Ps [pM,.n .i64]) [] (Ps [.bo]) L58 Tryz.x74 3 (dH (e58) 3) (aA OA x)
def k58(x:aj OA):Bool:=jr Eh (t58 x)
def m58(x:aj OA):aj Eh:=eA Eh (t58 x)
def s58:cR:=hU (Ps [pM,.n .i64]) [] (Ps [.bo]) OA Eh fun x=>.ck (k58 x) (.ok (m58 x))
theorem aax{V:ByteArray->Bool}{aq:aB}(W:WorldC V aq):(s58).Ok 74 aq:=
 eg (W.toWorld.in (aaw W) 3) (W.toWorld.st 74 _ rfl) rfl (fq.jl (.cons (b:=Ua.body) (by kernel_rfl) (Uc W) (.cons (b:=Ud.body) (by kernel_rfl) (Uf W) .nil))) (m:=3) rfl (fun _=>rfl) (fun _=>rfl)
end Go.Proofs.Vd


noncomputable section
namespace Go.Proofs
abbrev Nx:=ByteArray×Int×Int
def kC(s:ByteArray)(ns:List ByteArray):Bool:= @decide (s∈ns) (Classical.propDecidable _)
def ajX(cs:List Int)(xs:List Nx)(k:Nat):Bool:= !(kC (xs.getD k (ByteArray.empty,0,0)).1 ((xs.take k).map Prod.fst))&& !decide (cs.getD (xs.getD k (ByteArray.empty,0,0)).2.1.toNat 0<=(xs.getD k (ByteArray.empty,0,0)).2.2)
def aeD(cs:List Int)(xs:List Nx):Bool:=(List.range xs.length).all (ajX cs xs)
end Go.Proofs

noncomputable section
namespace Go.Proofs.Vd
open Go.Ab Go.Ab.Lf
set_option maxRecDepth 100000
def aay(t:List (den aH))(im:List (den aS))(fs:List Int)(st:Int):Bool:=bif decide (st= -1)then true else
 bif dM t (dO im fs st)then(bif decide (((cr t (dO im fs st)).1.length:Int)=0)then decide (((cr t (dO im fs st)).2.length:Int)=0)else false)else false
def gNx(ex:List (den aR)):Bool:=decide (ex.length=0)
def OB(x:aj Wo):Bool:=cu (fun e=>decide (0<=e.2.1)&&decide (e.2.1<=3)) x.2.2.2.2.2.2.1&&((decide (x.2.2.2.2.2.2.2.1<9223372036854775808)&&decide (x.2.1.length<=1099511627776))&&decide (x.2.2.2.2.2.2.1.length<=1099511627776))&&gNx x.2.2.2.2.2.2.1&&gT x.1
def mNm(x:aj Wo):Bool:=bif aeD [x.2.2.2.2.2.2.2.2.2.2.2.1,(x.2.2.2.1.length:Int),(x.2.2.2.2.1.length:Int),(x.2.2.2.2.2.1.length:Int)] x.2.2.2.2.2.2.1 then aay x.1 x.2.1 x.2.2.1 x.2.2.2.2.2.2.2.1 else false
def s57:cR:=hU (Ps [pM,.n .i64]) [] (Ps [.bo]) Wo [.bool] fun x=>.ck (OB x) (.ok (mNm x,()))
structure WorldN(V:ByteArray->Bool)(aq:aB):Prop extends WorldC V aq where
 nm:s57.Ok 73 aq
abbrev pe:List Ty:=[i64,.ae aH,.ae aS,.ae i64,.ae ak,.ae ak,.ae aC,.ae aR,i64,.ae aG,.ae aL,.ae aJ,i64,i64]
abbrev mm:List Ty:=[i64,.ae aH,.ae aS,.ae i64,.ae ak,.ae ak,.ae aC,.ae aR,i64,.ae aG,.ae aL,.ae aJ]
abbrev nF:List Ty:=[.bool]
def Ug:jX:=⟨0,fE Tryz.x26.code 0,[3,1,18,19],(Ps [.n .i64,Im,.n .i64,.n .i64]),[⟨.lL,[3,1],Ps [.n .i64,Im]⟩,⟨.rt,[2],Ps [.bo]⟩]⟩
def aeE:List (Nat×cR):=[(70,s10)]
theorem Uh{V:ByteArray->Bool}{aq:aB}(W:WorldN V aq):db aq (aeE):=(.cons (B6 W.toWorldC) .nil)
def Ei:List Pl->Lf.T Rs:=Ug.step (fun _=>none) (dH (aeE) 3) 3
def aeF:fA:=tA Ug (Ei) pe mm nF
theorem Ui{V:ByteArray->Bool}{aq:aB}(W:WorldN V aq):dZ Rx.w (aeF) (fun n d=>gD (aq n d) n (.bl 0 (.lp Ug.body))):=hY (W.toWorld.in (Uh W) 3) (aE _) (m:=3) pe mm nF
abbrev rG:List Ty:=[i64,.ae aH,.ae aS,.ae i64,.ae ak,.ae ak,.ae aC,.ae aR,i64,.ae aG,.ae aL,.ae aJ,.ae ak,i64,i64]
abbrev nG:List Ty:=[i64,.ae aH,.ae aS,.ae i64,.ae ak,.ae ak,.ae aC,.ae aR,i64,.ae aG,.ae aL,.ae aJ]
abbrev qc:List Ty:=[.bool]
def Uj:jX:=⟨2,fE Tryz.x26.code 2,[3,1,46,47,48],(Ps [.n .i64,Im,.im ak,.n .i64,.n .i64]),[⟨.lL,[3,1],Ps [.n .i64,Im]⟩,⟨.rt,[2],Ps [.bo]⟩]⟩
def aeG:List (Nat×cR):=[]
theorem Uk{V:ByteArray->Bool}{aq:aB}(W:WorldN V aq):db aq (aeG):=.nil
def GQ:List Pl->Lf.T Rs:=Uj.step (fun _=>none) (dH (aeG) 3) 3
def aeH:fA:=tA Uj (GQ) rG nG qc
theorem Ul{V:ByteArray->Bool}{aq:aB}(W:WorldN V aq):dZ Rx.w (aeH) (fun n d=>gD (aq n d) n (.bl 2 (.lp Uj.body))):=hY (W.toWorld.in (Uk W) 3) (aE _) (m:=3) rG nG qc
abbrev rH:List Ty:=[i64,.ae aH,.ae aS,.ae i64,.ae ak,.ae ak,.ae aC,.ae aR,i64,.ae aG,.ae aL,.ae aJ,.ae aC,i64,i64]
abbrev nH:List Ty:=[i64,.ae aH,.ae aS,.ae i64,.ae ak,.ae ak,.ae aC,.ae aR,i64,.ae aG,.ae aL,.ae aJ]
abbrev qd:List Ty:=[.bool]
def Um:jX:=⟨4,fE Tryz.x26.code 4,[3,1,76,77,78],(Ps [.n .i64,Im,.im aC,.n .i64,.n .i64]),[⟨.lL,[3,1],Ps [.n .i64,Im]⟩,⟨.rt,[2],Ps [.bo]⟩]⟩
def aeI:List (Nat×cR):=[(72,s56)]
theorem Un{V:ByteArray->Bool}{aq:aB}(W:WorldN V aq):db aq (aeI):=(.cons (GB W.toWorld) .nil)
def GR:List Pl->Lf.T Rs:=Um.step (fun _=>none) (dH (aeI) 3) 3
def aeJ:fA:=tA Um (GR) rH nH qd
theorem Uo{V:ByteArray->Bool}{aq:aB}(W:WorldN V aq):dZ Rx.w (aeJ) (fun n d=>gD (aq n d) n (.bl 4 (.lp Um.body))):=hY (W.toWorld.in (Un W) 3) (aE _) (m:=3) rH nH qd
def L19:Nat->Option fA:=pX [(0,aeF),(2,aeH),(4,aeJ)]
abbrev OC:List Ty:=[.ae aH,.ae aS,.ae i64,.ae ak,.ae ak,.ae aC,.ae aR,i64,.ae aG,.ae aL,.ae aJ]
abbrev w8:List Ty:=[.bool]
def e19:List (Nat×cR):=[(71,s55),(73,s57),(74,s58)]
theorem aaA{V:ByteArray->Bool}{aq:aB}(W:WorldN V aq):db aq (e19):=(.cons (aas W.toWorldC) (.cons W.nm (.cons (aax W.toWorldC) .nil)))
def t19(x:aj OC):Lf.T (List Pl):=iN (Ps [pM]) [] (Ps [.bo]) L19 Tryz.x26 3 (dH (e19) 3) (aA OC x)
def k19(x:aj OC):Bool:=jr w8 (t19 x)
def m19(x:aj OC):aj w8:=eA w8 (t19 x)
def s19:cR:=hU (Ps [pM]) [] (Ps [.bo]) OC w8 fun x=>.ck (k19 x) (.ok (m19 x))
theorem aaB{V:ByteArray->Bool}{aq:aB}(W:WorldN V aq):(s19).Ok 26 aq:=
 eg (W.toWorld.in (aaA W) 3) (W.toWorld.st 26 _ rfl) rfl (fq.jl (.cons (b:=Ug.body) (by kernel_rfl) (Ui W) (.cons (b:=Uj.body) (by kernel_rfl) (Ul W) (.cons (b:=Um.body) (by kernel_rfl) (Uo W) .nil)))) (m:=3) rfl (fun _=>rfl) (fun _=>rfl)
abbrev Cb:List Ty:=[.ae aH,.ae aS,.ae i64,.ae ak,.ae ak,.ae aC,.ae aR,i64,.ae aG,.ae aL,.ae aJ,i64,i64]
abbrev v7:List Ty:=[]
abbrev tG:List Ty:=[i64]
def l8x:jX:=⟨0,fE Tryz.x9.code 0,[1,21,22],(Ps [Im,.n .i64,.n .i64]),[⟨.lL,[],.nil⟩,⟨.rt,[2],Ps [.n .i64]⟩]⟩
def e8x:List (Nat×cR):=[(27,s20)]
theorem aaC{V:ByteArray->Bool}{aq:aB}(W:WorldN V aq):db aq (e8x):=(.cons (aav W.toWorldC) .nil)
def f8x:List Pl->Lf.T Rs:=l8x.step (fun _=>none) (dH (e8x) 3) 3
def c8x:fA:=tA l8x (f8x) Cb v7 tG
theorem aaD{V:ByteArray->Bool}{aq:aB}(W:WorldN V aq):dZ Rx.w (c8x) (fun n d=>gD (aq n d) n (.bl 0 (.lp l8x.body))):=hY (W.toWorld.in (aaC W) 3) (aE _) (m:=3) Cb v7 tG
def L8:Nat->Option fA:=pX [(0,c8x)]
abbrev ti8:List Ty:=[.ae aH,.ae aS,.ae i64,.ae ak,.ae ak,.ae aC,.ae aR,i64,.ae aG,.ae aL,.ae aJ]
abbrev Up:List Ty:=[i64]
def e8(V:ByteArray->Bool):List (Nat×cR):=[(25,s18 V),(26,s19)]
theorem aeN{V:ByteArray->Bool}{aq:aB}(W:WorldN V aq):db aq (e8 V):=(.cons (ZE W.toWorldV) (.cons (aaB W) .nil))
def t8(V:ByteArray->Bool)(x:aj ti8):Lf.T (List Pl):=iN (Ps [pM]) [] (Ps [.n .i64]) L8 Tryz.x9 3 (dH (e8 V) 3) (aA ti8 x)
def k8(V:ByteArray->Bool)(x:aj ti8):Bool:=jr Up (t8 V x)
def m8(V:ByteArray->Bool)(x:aj ti8):aj Up:=eA Up (t8 V x)
def s8(V:ByteArray->Bool):cR:=hU (Ps [pM]) [] (Ps [.n .i64]) ti8 Up fun x=>.ck (k8 V x) (.ok (m8 V x))
theorem aeO{V:ByteArray->Bool}{aq:aB}(W:WorldN V aq):(s8 V).Ok 9 aq:=
 eg (W.toWorld.in (aeN W) 3) (W.toWorld.st 9 _ rfl) rfl (fq.jl (.cons (b:=l8x.body) (by kernel_rfl) (aaD W) .nil)) (m:=3) rfl (fun _=>rfl) (fun _=>rfl)
end Go.Proofs.Vd

noncomputable section
namespace Go.Proofs.Vd
open Go.Ab Go.Ab.Lf
set_option maxRecDepth 100000
abbrev W3:=List Int×List (den cI)×Bool
abbrev wk(y:aj tM)(lo:List Int)(w:W3):aj xz:=(y.1,y.2.1,y.2.2.1,y.2.2.2.1,y.2.2.2.2.1,y.2.2.2.2.2.1,y.2.2.2.2.2.2.1,y.2.2.2.2.2.2.2.1,y.2.2.2.2.2.2.2.2.1,y.2.2.2.2.2.2.2.2.2.1,y.2.2.2.2.2.2.2.2.2.2.1,lo,w.1,w.2.1,w.2.2,())
abbrev qe(y:aj tM)(lo:List Int)(w:W3)(i:den tI):aj GJ:=(y.1,y.2.1,y.2.2.1,y.2.2.2.1,y.2.2.2.2.1,y.2.2.2.2.2.1,y.2.2.2.2.2.2.1,y.2.2.2.2.2.2.2.1,y.2.2.2.2.2.2.2.2.1,y.2.2.2.2.2.2.2.2.2.1,y.2.2.2.2.2.2.2.2.2.2.1,lo,w.1,w.2.1,w.2.2,i.1,i.2.1,i.2.2.1,i.2.2.2.1,i.2.2.2.2.1,i.2.2.2.2.2,())
abbrev Qq(y:aj tM)(lo:List Int)(w:W3)(l:List Int):aj J1:=(y.1,y.2.1,y.2.2.1,y.2.2.2.1,y.2.2.2.2.1,y.2.2.2.2.2.1,y.2.2.2.2.2.2.1,y.2.2.2.2.2.2.2.1,y.2.2.2.2.2.2.2.2.1,y.2.2.2.2.2.2.2.2.2.1,y.2.2.2.2.2.2.2.2.2.2.1,lo,w.1,w.2.1,w.2.2,l,())
abbrev Qr(y:aj tM)(lo:List Int)(w:W3)(n:Int):aj J3:=(y.1,y.2.1,y.2.2.1,y.2.2.2.1,y.2.2.2.2.1,y.2.2.2.2.2.1,y.2.2.2.2.2.2.1,y.2.2.2.2.2.2.2.1,y.2.2.2.2.2.2.2.2.1,y.2.2.2.2.2.2.2.2.2.1,y.2.2.2.2.2.2.2.2.2.2.1,lo,w.1,w.2.1,w.2.2,n,())
end Go.Proofs.Vd

noncomputable section
namespace Go.Proofs.Vd
open Go.Ab Go.Ab.Lf
set_option maxRecDepth 100000
theorem aj0(y:aj tM)(lo:List Int)(w:W3)(n:Int)(B:den cI)(hB:B=w.2.1.getD (bQ .i64 (w.2.1.length:Int) 1).toNat (ao cI))(bl:List (den cI))(Yz:bl=(w.2.1.drop 0).take ((bQ .i64 (w.2.1.length:Int) 1).toNat - 0))
 (S:List Int×Bool)(hS:S=sD B.2.2.2.1 w.2.1 B.2.2.2.1.length w.1 w.2.2)(b1:Bool)(hb:b1=(S.2|| !decide ((S.1.length:Int)=B.2.1))):
 (t75 (Qr y lo w n)).val=aM (aU (bQ .i64 (w.2.1.length:Int) 1) (w.2.1.length:Int)) (aM (decide (B.2.2.2.1.length<=1099511627776)&&okW w.1 w.2.1) (aM (eK 0 (bQ .i64 (w.2.1.length:Int) 1) (w.2.1.length:Int))
  (bif b1 then aM (roomy 72 (bl.length+1)) (some (aA B9 (wk y lo (S.1,app bl [B],b1))))else
   bif decide (n=5)then aM (decide (bl.length+1<=549755813888)) (aM (decide (S.1.length+B.2.2.1.length<=1099511627776)) (some (aA B9 (wk y lo (S.1++B.2.2.1,fe S.1 bl 5 B.2.2.1 B.2.2.2.1,b1)))))else
   bif !decide (B.1=4)then aM (decide (S.1.length+B.2.2.2.1.length<=1099511627776)) (some (aA B9 (wk y lo (S.1++B.2.2.2.1,bl,b1|| !true))))else
    aM (decide (B.2.2.1.length<=1099511627776)) (aM (decide (S.1.length+B.2.2.2.1.length<=1099511627776)) (some (aA B9 (wk y lo (S.1++B.2.2.2.1,bl,b1|| !decide (B.2.2.1=B.2.2.2.1))))))))):=by
 subst hB;subst Yz;subst hS;subst hb
 kernel_rfl
abbrev wkA(y:aj tM)(lo:List Int)(w:W3)(l vg:List Int)(n:Int):aj wG:=(y.1,y.2.1,y.2.2.1,y.2.2.2.1,y.2.2.2.2.1,y.2.2.2.2.2.1,y.2.2.2.2.2.2.1,y.2.2.2.2.2.2.2.1,y.2.2.2.2.2.2.2.2.1,y.2.2.2.2.2.2.2.2.2.1,y.2.2.2.2.2.2.2.2.2.2.1,lo,w.1,w.2.1,w.2.2,l,vg,n,())
theorem Wq(y:aj tM)(lo:List Int)(w:W3)(L vg:List Int)(i:Int):(Ou (aA wG (wkA y lo w L vg i))).val=
 bif decide (0<=i)then aM (aU i (L.length:Int)) (aM (okW w.1 w.2.1) (aM (roomy 8 (vg.length+1)) (some (Rs.next (aA wG (wkA y lo ((e9 w.1 w.2.1 w.2.2 (L.getD i.toNat (ao i64))).2.1,w.2.1,(e9 w.1 w.2.1 w.2.2 (L.getD i.toNat (ao i64))).2.2) L (app vg [(e9 w.1 w.2.1 w.2.2 (L.getD i.toNat (ao i64))).1]) (bQ .i64 i 1)))))))else some (Rs.out 0 (aA p' (Qq y lo w vg))):=by kernel_rfl
def OD{β:Type}(K:List Int->Option β):Nat->Nat->Int->List Int->Option β
 |0,_,_,_=>none
 |f+1,i,j,x=>bif decide ((i:Int)<j)then aM (aU j (x.length:Int)) (aM (aU (i:Int) (x.length:Int)) (aM (aU (i:Int) (x.length:Int)) (aM (aU j ((x.set i (x.getD j.toNat (ao i64))).length:Int)) (OD K f (i+1) (bQ .i64 j 1) ((x.set i (x.getD j.toNat (ao i64))).set j.toNat (x.getD i (ao i64)))))))else K x
theorem aj1(y:aj tM)(lo:List Int)(w:W3)(L:List Int)(z:aj p')(hz:z=gM Ou wG p' (wkA y lo w L [] (bQ .i64 (L.length:Int) 1))):(t85 (Qq y lo w L)).val=
 aM (rk Ou wG p' (wkA y lo w L [] (bQ .i64 (L.length:Int) 1))) (OD (fun x=>aM (decide (z.2.2.2.2.2.2.2.2.2.2.2.2.1.length+x.length<=1099511627776)) (some (aA Ee (z.1,z.2.1,z.2.2.1,z.2.2.2.1,z.2.2.2.2.1,z.2.2.2.2.2.1,z.2.2.2.2.2.2.1,z.2.2.2.2.2.2.2.1,z.2.2.2.2.2.2.2.2.1,z.2.2.2.2.2.2.2.2.2.1,z.2.2.2.2.2.2.2.2.2.2.1,z.2.2.2.2.2.2.2.2.2.2.2.1,z.2.2.2.2.2.2.2.2.2.2.2.2.1++x,z.2.2.2.2.2.2.2.2.2.2.2.2.2.1,z.2.2.2.2.2.2.2.2.2.2.2.2.2.2.1,())))) 18 0 (bQ .i64 (z.2.2.2.2.2.2.2.2.2.2.2.2.2.2.2.1.length:Int) 1) z.2.2.2.2.2.2.2.2.2.2.2.2.2.2.2.1):=by
 subst hz
 kernel_rfl
abbrev ca(w:W3)(t:Int):W3:=((e9 w.1 w.2.1 w.2.2 t).2.1,w.2.1,(e9 w.1 w.2.1 w.2.2 t).2.2)
abbrev fH(w:W3)(L:List Int):W3:=((sD L w.2.1 L.length w.1 w.2.2).1,w.2.1,(sD L w.2.1 L.length w.1 w.2.2).2)
abbrev tH(w:W3):W3:=(w.1.take (dA w.2.1).2.1.toNat,w.2.1.set (w.2.1.length - 1) (u7 (dA w.2.1)),w.2.2)
abbrev w9(w:W3)(l:Int):W3:=(w.1,w.2.1,bif decide ((w.2.1.length:Int)<=l)then true else w.2.2)
abbrev mq(w:W3)(L:List Int):W3:=(w.1++L,w.2.1,w.2.2)
abbrev fV(w:W3)(c:Bool):W3:=(w.1,w.2.1,w.2.2|| !c)
abbrev cW(w:W3):Bool:=okW w.1 w.2.1
abbrev cT(w:W3)(L:List Int):Bool:=decide (L.length<=1099511627776)&&okW w.1 w.2.1
abbrev cG(w:W3)(L:List Int):Bool:=decide (w.1.length+L.length<=1099511627776)
abbrev cL(w:W3)(l:Int):Bool:=decide (0<=l)&&decide (w.2.1.length<=1099511627776)
theorem aj2(y:aj tM)(lo:List Int)(w:W3)(i:den tI):(t86 (qe y lo w i)).val=
 (let gl:=y.2.2.2.2.2.1
 let R:=fun(t:Int) (ok:Bool)=>bif (bif !decide (i.1=32)then !decide (i.1=35)else false)then aM (cW w) (bif (bif !decide (i.1=33)then !decide (i.1=36)else false)then aM (cG (ca (fV w ok) t) [t]) (some (aA vb (wk y lo (mq (ca (fV w ok) t) [t]))))else some (aA vb (wk y lo (ca (fV w ok) t))))
  else bif (bif !decide (i.1=33)then !decide (i.1=36)else false)then aM (cG w [t]) (some (aA vb (wk y lo (mq (fV w ok) [t]))))else some (aA vb (wk y lo (fV w ok)))
 let G:=aM (aU i.2.1 (gl.length:Int)&&bif decide (i.1=35)then true else aU i.2.1 (gl.length:Int)) (R (bif decide (i.1=35)then(gl.getD i.2.1.toNat (ao aC)).1 else(gl.getD i.2.1.toNat (ao aC)).1) (bif decide (i.1=35)then true else(gl.getD i.2.1.toNat (ao aC)).2.1))
 bif (bif decide (i.1<=34)then decide (i.2.1<(lo.length:Int))else false)then aM (aU i.2.1 (lo.length:Int)) (bif (bif decide (34<i.1)then decide (i.2.1<(gl.length:Int))else false)then G else R (lo.getD i.2.1.toNat (ao i64)) true)
  else bif (bif decide (34<i.1)then decide (i.2.1<(gl.length:Int))else false)then G else R 0 false):=by kernel_rfl
abbrev wkJ(y:aj tM)(lo:List Int)(w:W3)(last l:List Int)(n i:Int):aj vc:=(y.1,y.2.1,y.2.2.1,y.2.2.2.1,y.2.2.2.2.1,y.2.2.2.2.2.1,y.2.2.2.2.2.2.1,y.2.2.2.2.2.2.2.1,y.2.2.2.2.2.2.2.2.1,y.2.2.2.2.2.2.2.2.2.1,y.2.2.2.2.2.2.2.2.2.2.1,lo,w.1,w.2.1,w.2.2,last,l,n,i,())
theorem Ws(y:aj tM)(lo:List Int)(w:W3)(last L:List Int)(n i:Int)(l:Int)(hl:l=L.getD i.toNat (ao i64))(u:W3)(hu:u=fV (w9 w l) (decide (((iK w.2.1 l).length:Int)=(last.length:Int))))(z:aj Ee)(hz:z=m85 (Qq y lo u (iK w.2.1 l))):(J2 (aA vc (wkJ y lo w last L n i))).val=
 bif decide (i<n)then aM (aU i (L.length:Int)) (aM (cL w l) (aM (k85 (Qq y lo u (iK w.2.1 l))) (some (Rs.next (aA vc (z.1,z.2.1,z.2.2.1,z.2.2.2.1,z.2.2.2.2.1,z.2.2.2.2.2.1,z.2.2.2.2.2.2.1,z.2.2.2.2.2.2.2.1,z.2.2.2.2.2.2.2.2.1,z.2.2.2.2.2.2.2.2.2.1,z.2.2.2.2.2.2.2.2.2.2.1,z.2.2.2.2.2.2.2.2.2.2.2.1,z.2.2.2.2.2.2.2.2.2.2.2.2.1,z.2.2.2.2.2.2.2.2.2.2.2.2.2.1,z.2.2.2.2.2.2.2.2.2.2.2.2.2.2.1,last,L,n,bw .i64 i 1,()))))))
 else some (Rs.out 0 (aA nC (Qq y lo w last))):=by
 subst hz;subst hu;subst hl
 kernel_rfl
theorem aeR(y:aj tM)(lo:List Int)(w:W3)(i:den tI)(u:W3)(hu:u=w9 (ca w 127) i.2.1)(T:List Int)(hT:T=iK w.2.1 i.2.1)(z:aj nC)(hz:z=gM J2 vc nC (wkJ y lo u T i.2.2.2.2.2 (i.2.2.2.2.2.length:Int) 0)):(t77 (qe y lo w i)).val=
 (let D:=fun v:W3=>aM (cW v) (some (aA zg (wk y lo (tH v))))
 bif decide (i.1=0)then D w else
 bif decide (i.1=12)then aM (cL w i.2.1) (aM (cT (w9 w i.2.1) T) (D (fH (w9 w i.2.1) T)))else
 bif decide (i.1=13)then aM (cW w) (aM (cL (ca w 127) i.2.1) (aM (cT u T) (aM (cG (fH u T) T) (some (aA zg (wk y lo (mq (fH u T) T)))))))else
 bif decide (i.1=14)then aM (cW w) (aM (cL (ca w 127) i.2.1) (aM (rk J2 vc nC (wkJ y lo u T i.2.2.2.2.2 (i.2.2.2.2.2.length:Int) 0)) (
  let v:W3:=(z.2.2.2.2.2.2.2.2.2.2.2.2.1,z.2.2.2.2.2.2.2.2.2.2.2.2.2.1,z.2.2.2.2.2.2.2.2.2.2.2.2.2.2.1)
  let S:=fH v z.2.2.2.2.2.2.2.2.2.2.2.2.2.2.2.1
  aM (cT v z.2.2.2.2.2.2.2.2.2.2.2.2.2.2.2.1) (aM (cW S) (some (aA zg (z.1,z.2.1,z.2.2.1,z.2.2.2.1,z.2.2.2.2.1,z.2.2.2.2.2.1,z.2.2.2.2.2.2.1,z.2.2.2.2.2.2.2.1,z.2.2.2.2.2.2.2.2.1,z.2.2.2.2.2.2.2.2.2.1,z.2.2.2.2.2.2.2.2.2.2.1,z.2.2.2.2.2.2.2.2.2.2.2.1,(tH S).1,(tH S).2.1,(tH S).2.2,())))))))else
 bif decide (i.1=15)then aM (aU 0 (w.2.1.length:Int)) (let O:=(w.2.1.getD 0 (ao cI)).2.2.2.1;aM (cT w O) (D (fH w O)))else
 aM (k86 (qe y lo w i)) (some (aA zg (m86 (qe y lo w i))))):=by
 subst hz;subst hu;subst hT
 kernel_rfl
end Go.Proofs.Vd
