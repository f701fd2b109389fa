import Derived.Test.YtbplobpobnagkaaGreatDoorVdW
import Derived.Test.YtbplobpobnagkaaGreatDoorLfJ
noncomputable section
namespace Go.Proofs.Vd
open Go.Ab Go.Ab.Lf
set_option maxRecDepth 100000
abbrev Tp:List Ty:=[.ae i64,.ae i64,.ae aI,.ae aQ,.ae i64,.ae ak,.ae ak,.ae aC,.ae aP,i64,.ae aG,.ae aK,.ae aD,.ae i64,.ae i64,.ae cw,.bool]
def fV(t:List (den aI))(l:Int):den aI:=bif decide (0<=l)then cb t l else bif decide (l= -64)then([],[])else([],[cr .i64 l 128])
def kU(t:List (den aI))(l:Int)(bad:Bool):Bool:=bif decide (0<=l)then bad|| !(dP t l)else bad
def e74:List (Nat×cQ):=[(85,s21),(95,VY)]
theorem Zx{V:ByteArray->Bool}{ao:aA}(W:WorldC V ao):dc ao e74:=.cons (Gh W) (.cons (sX W.toWorld) .nil)
def s74:cQ:=iw (Ps [jG 0,.n .i64]) [14] (Ps [.ag (Ps [.ow i64,.ow i64]),jG 14]) JJ Tp fun x=>match x with
 |(t,im,fs,tb,me,gl,ex,st,el,co,da,lo,dj,bl,bad,l,_)=>.ck (gT t) (.ok ((fV t l).1,(fV t l).2,t,im,fs,tb,me,gl,ex,st,el,co,da,lo,dj,bl,kU t l bad,()))
theorem Zy(t:List (den aI))(im:List (den aQ))(fs:List Int)(tb me:List (den ak))(gl:List (den aC))(ex:List (den aP))(st:Int)(el:List (den aG))(co:List (den aK))(da:List (den aD))(lo dj:List Int)(bl:List (den cw))(bad:Bool)(l:Int):(ja (Ps [jG 0,.n .i64]) [14] (Ps [.ag (Ps [.ow i64,.ow i64]),jG 14]) (fun _=>none) Tryz.x93 3 (dG e74 3) (aB JJ (t,im,fs,tb,me,gl,ex,st,el,co,da,lo,dj,bl,bad,l,()))).val=
 bif decide (0<=l)then aT (gT t)<|some (aB Tp ((cb t l).1,(cb t l).2,t,im,fs,tb,me,gl,ex,st,el,co,da,lo,dj,bl,bad|| !(dP t l),()))else bif decide (l= -64)then some (aB Tp ([],[],t,im,fs,tb,me,gl,ex,st,el,co,da,lo,dj,bl,bad,()))else some (aB Tp ([],[cr .i64 l 128],t,im,fs,tb,me,gl,ex,st,el,co,da,lo,dj,bl,bad,())):=by kernel_rfl
theorem Zz{V:ByteArray->Bool}{ao:aA}(W:WorldC V ao):s74.Ok 93 ao:=by
 refine dD (W.toWorld.in (Zx W) 3) (W.st 93 _ rfl) rfl (aE _) (m:=3) rfl ?_
 rintro⟨t,im,fs,tb,me,gl,ex,st,el,co,da,lo,dj,bl,bad,l,⟨⟩⟩ q h
 obtain⟨h0,h⟩:=Lf.T.aX h
 cases h
 rw[Zy,h0]
 unfold fV kU
 cases decide (0<=l)<;>cases decide (l= -64)<;>rfl
abbrev tOp:List Ty:=[.ae aI,.ae aQ,.ae i64,.ae ak,.ae ak,.ae aC,.ae aP,i64,.ae aG,.ae aK,.ae aD,.ae i64,.ae i64,.ae cw,.bool,i64,.ae i64,.ae i64]
def wa(bl:List (den cw)):Bool:=bif decide ((0:Int)<(bl.length:Int))then(bif (dy bl).2.2.2.2.2 then !(dy bl).2.2.2.2.1 else false)else true
def fe(dj:List Int)(bl:List (den cw))(op:Int)(i o:List Int):List (den cw):=bl++[(op,(dj.length:Int),i,o,false,wa bl)]
def s60:cQ:=iw (Ps [jG 0,.n .i64,.ag (Ps [.im i64,.im i64])]) [14] (Ps [.tu .nil,jG 14]) tOp xh fun x=>match x with
 |(t,im,fs,tb,me,gl,ex,st,el,co,da,lo,dj,bl,bad,op,i,o,_)=>.ck (decide (bl.length+1<=549755813888)) (.ok (t,im,fs,tb,me,gl,ex,st,el,co,da,lo,dj,fe dj bl op i o,bad,()))
theorem ZA(t:List (den aI))(im:List (den aQ))(fs:List Int)(tb me:List (den ak))(gl:List (den aC))(ex:List (den aP))(st:Int)(el:List (den aG))(co:List (den aK))(da:List (den aD))(lo dj:List Int)(bl:List (den cw))(bad:Bool)(op:Int)(i o:List Int):(ja (Ps [jG 0,.n .i64,.ag (Ps [.im i64,.im i64])]) [14] (Ps [.tu .nil,jG 14]) (fun _=>none) Tryz.x76 3 (dG [] 3) (aB tOp (t,im,fs,tb,me,gl,ex,st,el,co,da,lo,dj,bl,bad,op,i,o,()))).val=
 bif decide ((0:Int)<(bl.length:Int))then bif bm (bN .i64 (bl.length:Int) 1) (bl.length:Int)then bif (bl.getD (bN .i64 (bl.length:Int) 1).toNat (aq cw)).2.2.2.2.2 then bif bm (bN .i64 (bl.length:Int) 1) (bl.length:Int)then
  bif roomy 72 (bl.length+1)then some (aB xh (t,im,fs,tb,me,gl,ex,st,el,co,da,lo,dj,app bl [(op,(dj.length:Int),i,o,false,!(bl.getD (bN .i64 (bl.length:Int) 1).toNat (aq cw)).2.2.2.2.1)],bad,()))else none else none
  else bif roomy 72 (bl.length+1)then some (aB xh (t,im,fs,tb,me,gl,ex,st,el,co,da,lo,dj,app bl [(op,(dj.length:Int),i,o,false,false)],bad,()))else none else none
 else bif roomy 72 (bl.length+1)then some (aB xh (t,im,fs,tb,me,gl,ex,st,el,co,da,lo,dj,app bl [(op,(dj.length:Int),i,o,false,true)],bad,()))else none:=by kernel_rfl
theorem Gi{ao:aA}(W:World ao):s60.Ok 76 ao:=by
 refine dD (W.in .nil 3) (W.st 76 _ rfl) rfl (aE _) (m:=3) rfl ?_
 rintro⟨t,im,fs,tb,me,gl,ex,st,el,co,da,lo,dj,bl,bad,op,i,o,⟨⟩⟩ q h
 obtain⟨h1,h2⟩:=Lf.T.aX h
 cases h2
 have h1:bl.length+1<=549755813888:=of_decide_eq_true h1
 have hr:roomy 72 (bl.length+1)=true:=by
  rw[mm]
  constructor<;>omega
 rw[ZA,hr]
 simp only[bp]
 show _=some (aB xh (t,im,fs,tb,me,gl,ex,st,el,co,da,lo,dj,fe dj bl op i o,bad,()))
 unfold fe wa
 by_cases h0:0<bl.length
 ·have hb:bm ((bl.length - 1:Nat):Int) (bl.length:Int)=true:=cN (by omega)
  rw[BB h0 (by omega),hb,decide_eq_true (show(0:Int)<(bl.length:Int) by omega),Int.toNat_natCast]
  rw[show bl.getD (bl.length - 1) (aq cw)=dy bl from rfl]
  cases(dy bl).2.2.2.2.2<;>simp only[cond_true,cond_false]
 ·rw[decide_eq_false (show ¬ (0:Int)<(bl.length:Int) by omega)]
  simp only[cond_true,cond_false]
end Go.Proofs.Vd

noncomputable section
namespace Go.Proofs.Vd
open Go.Ab Go.Ab.Lf
set_option maxRecDepth 100000
abbrev tLb:List Ty:=[.ae i64,.ae aI,.ae aQ,.ae i64,.ae ak,.ae ak,.ae aC,.ae aP,i64,.ae aG,.ae aK,.ae aD,.ae i64,.ae i64,.ae cw,.bool]
def s84:cQ:=iw (Ps [jG 0,.n .i64]) [14] (Ps [.im i64,jG 14]) JJ tLb fun x=>match x with
 |(t,im,fs,tb,me,gl,ex,st,el,co,da,lo,dj,bl,bad,l,_)=>.ck (decide (0<=l)&&decide (bl.length<=1099511627776)) (.ok (iK bl l,t,im,fs,tb,me,gl,ex,st,el,co,da,lo,dj,bl,bif decide ((bl.length:Int)<=l)then true else bad,()))
theorem ZB(t:List (den aI))(im:List (den aQ))(fs:List Int)(tb me:List (den ak))(gl:List (den aC))(ex:List (den aP))(st:Int)(el:List (den aG))(co:List (den aK))(da:List (den aD))(lo dj:List Int)(bl:List (den cw))(bad:Bool)(l:Int):(ja (Ps [jG 0,.n .i64]) [14] (Ps [.im i64,jG 14]) (fun _=>none) Tryz.Yo 3 (dG [] 3) (aB JJ (t,im,fs,tb,me,gl,ex,st,el,co,da,lo,dj,bl,bad,l,()))).val=
 bif decide ((bl.length:Int)<=l)then some (aB tLb ([],t,im,fs,tb,me,gl,ex,st,el,co,da,lo,dj,bl,true,()))else bif bm (bN .i64 (bN .i64 (Int.ofNat bl.length) 1) l) (Int.ofNat bl.length)then
  bif decide ((bl.getD (bN .i64 (bN .i64 (Int.ofNat bl.length) 1) l).toNat (aq cw)).1=3)then some (aB tLb ((bl.getD (bN .i64 (bN .i64 (Int.ofNat bl.length) 1) l).toNat (aq cw)).2.2.1,t,im,fs,tb,me,gl,ex,st,el,co,da,lo,dj,bl,bad,()))
  else some (aB tLb ((bl.getD (bN .i64 (bN .i64 (Int.ofNat bl.length) 1) l).toNat (aq cw)).2.2.2.1,t,im,fs,tb,me,gl,ex,st,el,co,da,lo,dj,bl,bad,()))else none:=by kernel_rfl
theorem V2{l:Int}{n:Nat}(h0:0<=l)(h1: ¬ (n:Int)<=l)(hn:n<=1099511627776):bm (bN .i64 (bN .i64 (Int.ofNat n) 1) l) (Int.ofNat n)=true:=by
 have e1:bN .i64 (Int.ofNat n) 1=(n:Int) - 1:=by
  show eX .i64 ((n:Int) - 1)=_
  exact wrap_i64 (by omega) (by omega)
 have e2:bN .i64 ((n:Int) - 1) l=(n:Int) - 1 - l:=by
  show eX .i64 ((n:Int) - 1 - l)=_
  exact wrap_i64 (by omega) (by omega)
 rw[e1,e2]
 exact iF.2 ⟨by omega,by show(n:Int) - 1 - l<(n:Int);omega⟩
theorem NZ{ao:aA}(W:World ao):s84.Ok 105 ao:=by
 refine dD (W.in .nil 3) (W.st 105 _ rfl) rfl (aE _) (m:=3) rfl ?_
 rintro⟨t,im,fs,tb,me,gl,ex,st,el,co,da,lo,dj,bl,bad,l,⟨⟩⟩ q h
 obtain⟨h1,h2⟩:=Lf.T.aX h
 cases h2
 simp only[Bool.and_eq_true,decide_eq_true_eq]at h1
 rw[ZB]
 show _=some (aB tLb (iK bl l,t,im,fs,tb,me,gl,ex,st,el,co,da,lo,dj,bl,bif decide ((bl.length:Int)<=l)then true else bad,()))
 unfold iK
 by_cases hl:(bl.length:Int)<=l
 ·rw[decide_eq_true hl]
  simp only[cond_true]
 ·rw[decide_eq_false hl,V2 h1.1 hl h1.2]
  simp only[cond_true,cond_false]
  cases decide ((bl.getD (bN .i64 (bN .i64 (Int.ofNat bl.length) 1) l).toNat (aq cw)).1=3)<;>simp only[cond_true,cond_false]
abbrev t82:List Ty:=[.ae i64,.ae i64,i64,i64]
def ZC:j4:=⟨0,fK Tryz.SO.code 0,[0,1,12,13],Ps [.im i64,.im i64,.n .i64,.n .i64],[⟨.lN,[],.nil⟩,⟨.rt,[4],Ps [.bo]⟩]⟩
theorem yR(a b:List Int)(n i:Int):(ZC.step (fun _=>none) (dG [] 3) 3 (aB t82 (a,b,n,i,()))).val=
 bif decide (i<n)then bif (bm i (Int.ofNat a.length)&&bm i (Int.ofNat b.length))then bif !decide (a.getD i.toNat (aq i64)=b.getD i.toNat (aq i64))then some (Rs.out 1 (aB [.bool] (false,())))else some (Rs.next (aB t82 (a,b,n,cr .i64 i 1,())))else none else some (Rs.out 0 (aB [] ())):=by kernel_rfl
theorem HV(a b:List Int)(n:Nat)(hn:n<=1099511627776): ∀ (k:Nat) (j:Nat),j+k=n->a.length=n->b.length=n->(∀ i,i<j->a.getD i (aq i64)=b.getD i (aq i64))->
 gM (ZC.step (fun _=>none) (dG [] 3) 3) (aB t82 (a,b,(n:Int),(j:Int),())) (bif decide (a=b)then 0 else 1) (bif decide (a=b)then aB [] ()else aB [.bool] (false,()))
 |0,j,hj,ha,hb,h=>by
  have hab:a=b:=by
   apply List.ext_getElem (ha.trans hb.symm)
   intro i h1 h2
   have:=h i (by omega)
   rw[List.getD_eq_getElem?_getD,List.getD_eq_getElem?_getD,List.getElem?_eq_getElem h1,List.getElem?_eq_getElem h2]at this
   exact this
  rw[decide_eq_true hab]
  refine .last ?_
  rw[yR,di (by omega)]
  rfl
 |k+1,j,hj,ha,hb,h=>by
  have hx:(bm (j:Int) (Int.ofNat a.length)&&bm (j:Int) (Int.ofNat b.length))=true:=by
   rw[cN (by omega),cN (by omega)];rfl
  by_cases hq:a.getD j (aq i64)=b.getD j (aq i64)
  ·refine .more ?_ (HV a b n hn k (j+1) (by omega) ha hb (fun i hi=>by
    by_cases e:i=j
    ·subst e;exact hq
    ·exact h i (by omega)))
   rw[yR,ed (by omega),hx,Int.toNat_natCast,decide_eq_true hq,kv (by omega)]
   rfl
  ·have hab: ¬ a=b:=fun e=>hq (by rw[e])
   rw[decide_eq_false hab]
   refine .last ?_
   rw[yR,ed (by omega),hx,Int.toNat_natCast,decide_eq_false hq]
   rfl
def g82:aj t82->T (Nat×List Pl):=fun x=>.ck ((decide (x.2.2.1=(x.1.length:Int))&&decide (x.2.2.2.1=0))&&(decide (x.2.1.length=x.1.length)&&decide (x.1.length<=1099511627776))) (.br (decide (x.1=x.2.1)) (.ok (0,aB [] ())) (.ok (1,aB [.bool] (false,()))))
theorem ZD(x:aj t82)(k:Nat)(q:List Pl)(h:(g82 x).val=some (k,q)):gM (ZC.step (fun _=>none) (dG [] 3) 3) (aB t82 x) k q:=by
 obtain⟨a,b,n,i,⟨⟩⟩:=x
 obtain⟨h1,h2⟩:=Lf.T.aX h
 simp only[Bool.and_eq_true,decide_eq_true_eq]at h1
 obtain⟨⟨b1,b2⟩,b3,b4⟩:=h1
 subst b1;subst b2
 have:=HV a b a.length b4 a.length 0 (by omega) rfl b3 (fun i hi=>absurd hi (Nat.not_lt_zero i))
 rw[Lf.T.dZ]at h2
 cases hd:decide (a=b)with
 |true=>
  have I':decide ((a,b,(a.length:Int),(0:Int),()).1=(a,b,(a.length:Int),(0:Int),()).2.1)=true:=hd
  rw[hd]at this
  simp only[hd,cond_true]at h2
  cases h2
  exact this
 |false=>
  rw[hd]at this
  simp only[hd,cond_false]at h2
  cases h2
  exact this
def L82:Nat->Option fD:=qg [(0,pK ZC t82 g82)]
def s82:cQ:=iw (Ps [.im i64,.im i64]) [] (Ps [.bo]) [.ae i64,.ae i64] [.bool] fun x=>.ck (decide (x.1.length<=1099511627776)) (.ok (decide (x.1=x.2.1),()))
theorem ZE(a b:List Int):(ja (Ps [.im i64,.im i64]) [] (Ps [.bo]) L82 Tryz.SO 3 (dG [] 3) (aB [.ae i64,.ae i64] (a,b,()))).val=
 bif !decide ((a.length:Int)=(b.length:Int))then some (aB [.bool] (false,()))else bif (decide ((a.length:Int)=(a.length:Int))&&decide ((0:Int)=0))&&(decide (b.length=a.length)&&decide (a.length<=1099511627776))then
  bif decide (a=b)then some (aB [.bool] (true,()))else some (aB [.bool] (false,()))else none:=by kernel_rfl
theorem ZF{ao:aA}(W:World ao):s82.Ok 103 ao:=by
 have C:=W.in .nil 3
 have hl:ep Rx.w (pK ZC t82 g82) (fun n d=>gy (ao n d) n (.bl 0 (.lp ZC.body))):=iH C (aE _) (m:=3) ZD
 refine dD C (W.st 103 _ rfl) rfl (L:=L82) (fx.jq (.cons (b:=ZC.body) (by kernel_rfl) hl .nil)) (m:=3) rfl ?_
 rintro⟨a,b,⟨⟩⟩ q h
 obtain⟨h1,h2⟩:=Lf.T.aX h
 cases h2
 have h1:a.length<=1099511627776:=of_decide_eq_true h1
 rw[ZE]
 show _=some (aB [.bool] (decide (a=b),()))
 by_cases hl:a.length=b.length
 ·rw[decide_eq_true (show(a.length:Int)=(b.length:Int) by omega),decide_eq_true hl.symm,decide_eq_true h1]
  simp only[decide_true,Bool.and_self,Bool.not_true,cond_false,cond_true]
  cases decide (a=b)<;>simp only[cond_true,cond_false]
 ·rw[decide_eq_false (show ¬ (a.length:Int)=(b.length:Int) by omega),decide_eq_false (show ¬ a=b from fun e=>hl (by rw[e]))]
  simp only[Bool.not_false,cond_true]
end Go.Proofs.Vd

noncomputable section
namespace Go.Ab.Lf
def N2(to:List Ty)(t:T (List Pl)):Bool:=
 T.rec (motive:=fun _=>Bool) false (fun l=>(toT to l).isSome) (fun _ _ _ a b=>a&&b) (fun _ _ a=>a) t
def Gj(t:T (List Pl)):List Bool:=T.rec (motive:=fun _=>List Bool) [] (fun _=>[]) (fun _ _ _ a b=>app a b) (fun c _ a=>c::a) t
theorem xi{to:List Ty}: ∀ {t:T (List Pl)},N2 to t=true->(∀ c,c∈Gj t->c=true)->jP to t=true
 | .bad,h,_=>by cases h
 | .ok l,h,_=>xf (t:=.ok l) h
 | .br c a b,h,k=>by
  have h:(N2 to a&&N2 to b)=true:=h
  have k: ∀ d,d∈app (Gj a) (Gj b)->d=true:=k
  rw[bp]at k
  obtain⟨h1,h2⟩:=Bool.and_eq_true_iff.1 h
  have q1:=xi h1 fun d hd=>k d (List.mem_append_left _ hd)
  have q2:=xi h2 fun d hd=>k d (List.mem_append_right _ hd)
  unfold jP at*
  rw[T.dZ]
  cases c
  ·exact q2
  ·exact q1
 | .ck c a,h,k=>by
  have h:N2 to a=true:=h
  have k: ∀ d,d∈c::Gj a->d=true:=k
  have q1:=xi h fun d hd=>k d (List.mem_cons_of_mem _ hd)
  have hc:c=true:=k c (List.mem_cons_self ..)
  subst hc
  unfold jP at*
  rw[T.j2]
  exact q1
theorem adj{call:eL}{ao:aA}(C:oy call ao){f:FuncId}{b:dC}(hb:mJ ao f b)(qm:Nat.ble b.ntmps 512=true){L:Nat->Option fD}(hL:jq Rx.w ao L b.code){m:Nat}{P:jT}{ptr:List Nat}{Q:jT}{ti to:List Ty}{out:aj ti->aj to}{g:aj ti->Bool}
 (h0:cf (fun g=> !(Nat.beq g 0)) ptr=true)(h1: ∀ x,N2 to (ja P ptr Q L b m call (aB ti x))=true)(hc: ∀ x,g x=true-> ∀ c,c∈Gj (ja P ptr Q L b m call (aB ti x))->c=true)(h2: ∀ x,out x=e7 to (ja P ptr Q L b m call (aB ti x))):(iw P ptr Q ti to fun x=>.ck (g x) (.ok (out x))).Ok f ao:=by
 refine dD C hb qm hL (m:=m) h0 fun x y h=>?_
 obtain⟨k1,k2⟩:=T.aX h
 cases k2
 rw[h2]
 exact qP (xi (h1 x) (hc x k1))
end Go.Ab.Lf
namespace Go.Proofs.Vd
open Go.Ab Go.Ab.Lf
set_option maxRecDepth 100000
abbrev tFi:List Ty:=[.ae aI,.ae aQ,.ae i64,.ae ak,.ae ak,.ae aC,.ae aP,i64,.ae aG,.ae aK,.ae aD,.ae i64,.ae i64,.ae cw,.bool,i64,i64,i64,u64,u64,.ae i64,i64,i64,.bool,.ae i64,.ae i64]
abbrev adk:jT:=.ag (Ps [.n .i64,.n .i64,.bo,.im i64,.im i64])
def e70:List (Nat×cQ):=[(95,VY),(102,s81)]
theorem ZG{ao:aA}(W:World ao):dc ao e70:=.cons (sX W) (.cons (Np W) .nil)
def t70(x:aj tFi):Lf.T (List Pl):=ja (Ps [jG 0,pI,adk]) [14] (Ps [.tu .nil,jG 14]) (fun _=>none) Tryz.x89 20 (dG e70 20) (aB tFi x)
def Ts(x:aj tFi):aj xh:=e7 xh (t70 x)
def Tt(x:aj tFi):Bool:=match x with
 |(t,im,fs,tb,me,gl,ex,st,el,co,da,lo,dj,bl,bad,_,_,_,_,_,_,_,je,_,_,_,_)=>decide (0<=je)
def s70:cQ:=iw (Ps [jG 0,pI,adk]) [14] (Ps [.tu .nil,jG 14]) tFi xh fun x=>.ck (Tt x) (.ok (Ts x))
theorem ZH{ao:aA}(W:World ao):s70.Ok 89 ao:=by
 refine adj (W.in (ZG W) 20) (W.st 89 _ rfl) rfl (aE _) (m:=20) rfl ?_ ?_ (fun _=>rfl)
 ·rintro⟨t,im,fs,tb,me,gl,ex,st,el,co,da,lo,dj,bl,bad,o,a,b,l1,l2,l,f,je,pl,i2,o2,⟨⟩⟩
  kernel_rfl
 ·rintro⟨t,im,fs,tb,me,gl,ex,st,el,co,da,lo,dj,bl,bad,o,a,b,l1,l2,l,f,je,pl,i2,o2,⟨⟩⟩ h c hc
  have e:Gj (t70 (t,im,fs,tb,me,gl,ex,st,el,co,da,lo,dj,bl,bad,o,a,b,l1,l2,l,f,je,pl,i2,o2,()))=List.replicate 6 (decide (0<=je)):=by kernel_rfl
  have hc:c∈Gj (t70 (t,im,fs,tb,me,gl,ex,st,el,co,da,lo,dj,bl,bad,o,a,b,l1,l2,l,f,je,pl,i2,o2,())):=hc
  rw[e]at hc
  exact(List.eq_of_mem_replicate hc).trans h
end Go.Proofs.Vd

noncomputable section
namespace Go.Proofs.Vd
open Go.Ab Go.Ab.Lf
set_option maxRecDepth 100000
def Wx(n:Nat)(F:oE)(bs:List Int)(p:Bool):Prop:=bs.length<=n/\ ∀ s:St,s.1.length+n<=1099511627776-> ∀ (α:Type) (K:St->Option α),F α s K=K (s.1++bs,s.2|| !p)
section
variable {n m:Nat}{F G:oE}{bs cs:List Int}{p q:Bool}
theorem Wx.le(h:Wx n F bs p)(hm:n<=m):Wx m F bs p:=⟨Nat.le_trans h.1 hm,fun s hs=>h.2 s (by omega)⟩
theorem Wx.seq(h1:Wx n F bs p)(h2:Wx m G cs q):Wx (n+m) (fun α s K=>F α s fun s=>G α s K) (bs++cs) (p&&q):=by
 refine⟨?_,fun s hs α K=>?_⟩
 ·have:=h1.1
  have:=h2.1
  simp only[List.length_append]
  omega
 ·show F α s _=_
  have l1:=h1.1
  rw[h1.2 s (by omega)]
  show G α (s.1++bs,s.2|| !p) K=_
  rw[h2.2 (s.1++bs,s.2|| !p) (by simp only[List.length_append];omega)]
  have e:(s.2|| !p|| !q)=(s.2|| !(p&&q)):=by cases s.2<;>cases p<;>cases q<;>rfl
  simp only[List.append_assoc,e]
theorem Wx.bif{c:Bool}(h1:Wx n F bs p)(h2:Wx n G cs q):Wx n (fun α s K=>bif c then F α s K else G α s K) (bif c then bs else cs) (bif c then p else q):=by
 cases c
 ·exact h2
 ·exact h1
theorem Wx.eq(h:Wx n F bs p)(e1:bs=cs)(e2:p=q):Wx n F cs q:=by subst e1;subst e2;exact h
theorem Wx.mw(h:Wx n F bs p){s:St}(hs:s.1.length+n<=1099511627776):mW F s=(s.1++bs,s.2|| !p):=by
 unfold mW
 rw[h.2 s hs]
 rfl
end
theorem iL(c:Bool):Wx 0 (js c) [] c:=⟨Nat.le_refl _,fun s _ α K=>by simp[js]⟩
theorem eG(l:List Int):Wx l.length (iJ l) l true:=⟨Nat.le_refl _,fun s hs α K=>by unfold iJ aT;rw[decide_eq_true hs];simp⟩
def nb(n:Int):List Int:=jr (bf .u64 n)
def iM(n:Int):Bool:=decide (0<=n)&&decide (n<4294967296)
def qt(t:Int):Bool:=decide (t=127)||(decide (t=126)||decide (t=123))
def Az(l:List Int):List Int:=l.foldr (fun n r=>nb n++r) []
def Qf(l:List Int):List Int:=l.map (bf .u8)
theorem qZ(n:Int):(nb n).length<=10:=j8 _
theorem HW: ∀ l:List Int,(Az l).length<=10*l.length
 | []=>Nat.le_refl _
 |x::l=>by
  have h1:=qZ x
  have h2:=HW l
  show(nb x++Az l).length<=_
  simp only[List.length_append,List.length_cons]
  omega
theorem q5(l:List Int): ∀ s:St,cx s l=(s.1++Az l,s.2|| !(l.all iM)):=by
 induction l with
 |nil=>intro s;simp[cx,Az]
 |cons x l ih=>
  intro s
  show cx (uz s x) l=_
  rw[ih]
  have e:(s.2|| !iM x|| !(l.all iM))=(s.2|| !((x::l).all iM)):=by
   simp only[List.all_cons]
   cases s.2<;>cases iM x<;>cases l.all iM<;>rfl
  show((s.1++nb x)++Az l,s.2|| !iM x|| !(l.all iM))=_
  rw[e,List.append_assoc]
  rfl
theorem AA(l:List Int): ∀ s:St,fq s l=(s.1++Qf l,s.2|| !(l.all qt)):=by
 induction l with
 |nil=>intro s;simp[fq,Qf]
 |cons x l ih=>
  intro s
  show fq (pO s x) l=_
  rw[ih]
  have e:(s.2|| !qt x|| !(l.all qt))=(s.2|| !((x::l).all qt)):=by
   simp only[List.all_cons]
   cases s.2<;>cases qt x<;>cases l.all qt<;>rfl
  show((s.1++[bf .u8 x])++Qf l,s.2|| !qt x|| !(l.all qt))=_
  rw[e,List.append_assoc]
  rfl
theorem eM(l:List Int):Wx (10*l.length) (ij l) (Az l) (l.all iM):=⟨HW l,fun s hs α K=>by unfold ij aT;rw[decide_eq_true hs,q5];rfl⟩
theorem oK(l:List Int):Wx l.length (sV l) (Qf l) (l.all qt):=⟨by unfold Qf;simp,fun s hs α K=>by unfold sV aT;rw[decide_eq_true hs,AA];rfl⟩
theorem BM(l:List Int):Wx l.length (zI l) l true:=⟨Nat.le_refl _,fun s hs α K=>by unfold zI aT;rw[bO (by omega) hs,bp];simp⟩
theorem oL{ok:Bool}{n:Nat}{F:oE}{bs:List Int}{p:Bool}(h:Wx n F bs p)(ho:ok=true):Wx n (wT ok n F) bs p:=⟨h.1,fun s hs α K=>by unfold wT aT;rw[ho,decide_eq_true hs,h.mw hs];rfl⟩
theorem yS(c:List (den tI))(h:qi c=true):Wx (qp c) (Ku (c,())) (pP c) (decide (nU c=0)):=by
 have h':=h
 simp only[qi,Bool.and_eq_true,decide_eq_true_eq]at h'
 have hl:=DQ c h'.1
 exact⟨hl,fun s hs α K=>by show aT (qi c) (aT (roomy 1 (s.1.length+(pP c).length)) _)=_;unfold aT;rw[h,bO (by omega) (by omega)];simp only[bp];rfl⟩
structure AB{α:Type}(A:Item α) where
 bs:α->List Int
 p:α->Bool
 wx: ∀ x,A.ok x=true->Wx (A.wt x) (A.G x) (bs x) (p x)
def uF{α:Type}{A:Item α}(B:AB A)(l:List α):List Int:=l.foldr (fun x r=>B.bs x++r) []
theorem yU{α:Type}{A:Item α}(B:AB A): ∀ (l:List α),cf A.ok l=true->(uF B l).length<=kC A.wt l
 | [],_=>Nat.le_refl _
 |x::l,h=>by
  obtain⟨h1,h2⟩:=jM h
  have:=(B.wx x h1).1
  have:=yU B l h2
  show(B.bs x++uF B l).length<=_
  rw[oH]
  simp only[List.length_append]
  omega
theorem HX{α:Type}{A:Item α}(B:AB A): ∀ (l:List α),cf A.ok l=true-> ∀ s:St,s.1.length+kC A.wt l<=1099511627776->sW A.G s l=(s.1++uF B l,s.2|| !(l.all B.p))
 | [],_,s,_=>by simp[sW,uF]
 |x::l,h,s,hs=>by
  obtain⟨h1,h2⟩:=jM h
  rw[oH]at hs
  have e:=(B.wx x h1).mw (s:=s) (by omega)
  have hl:=(B.wx x h1).1
  show sW A.G (mW (A.G x) s) l=_
  rw[e,HX B l h2 _ (by simp only[List.length_append];omega)]
  have e2:(s.2|| !B.p x|| !(l.all B.p))=(s.2|| !((x::l).all B.p)):=by
   simp only[List.all_cons]
   cases s.2<;>cases B.p x<;>cases l.all B.p<;>rfl
  show((s.1++B.bs x)++uF B l,s.2|| !B.p x|| !(l.all B.p))=_
  rw[e2,List.append_assoc]
  rfl
theorem N3(id:Int)(b:List Int)(k:Bool):Wx (11+b.length) (Qd (id,b,k,())) (id::(nb (b.length:Int)++b)) (!k&&iM (b.length:Int)):=by
 refine(((iL (!k)).seq ((eG [id]).seq ((eM [(b.length:Int)]).seq (BM b)))).le (m:=11+b.length) (by simp only[List.length_cons,List.length_nil];omega)).eq ?_ ?_
 ·show []++([id]++((nb _++[])++b))=_
  simp
 ·simp
theorem Tu(id:Int)(b:List Int)(k:Bool):wF (id,b,k,())=11+b.length:=by
 show 0+(1+(10+b.length))=_
 omega
theorem ajb(id:Int)(b:List Int)(k:Bool)(s:St)(h:s.1.length+(11+b.length)<=1099511627776)(α:Type)(K:St->Option α):
 wT true (wF (id,b,k,())) (Qd (id,b,k,())) α s K=K (s.1++(id::(nb (b.length:Int)++b)),s.2|| !(!k&&iM (b.length:Int))):=by
 rw[Tu]
 exact(oL (N3 id b k) rfl).2 s h α K
def oO{α:Type}{A:Item α}(B:AB A)(id:Int)(l:List α):List Int:=bif decide ((l.length:Int)=0)then []else id::(nb ((nb (l.length:Int)++uF B l).length:Int)++(nb (l.length:Int)++uF B l))
def gX{α:Type}{A:Item α}(B:AB A)(most:Int)(l:List α):Bool:=decide ((l.length:Int)<=most)&&bif decide ((l.length:Int)=0)then true else
 ((iM (l.length:Int)&&l.all B.p)&&iM ((nb (l.length:Int)++uF B l).length:Int))
theorem adl{t:Ty}{A:Item (den t)}(B:AB A)(id most:Int)(l:List (den t))(h:cf A.ok l=true):Wx (21+kC A.wt l) (FS A (id,most,l,())) (oO B id l) (gX B most l):=by
 have hr:=yU B l h
 have hn:=qZ (l.length:Int)
 refine⟨?_,fun s hs α K=>?_⟩
 ·unfold oO
  cases decide ((l.length:Int)=0)with
  |true=>exact Nat.zero_le _
  |false=>
   have:=qZ ((nb (l.length:Int)++uF B l).length:Int)
   simp only[cond_false,List.length_cons,List.length_append]at this ⊢
   omega
 ·show js _ α s (fun s=>bif decide ((l.length:Int)=0)then K s else _)=_
  unfold js
  show(bif decide ((l.length:Int)=0)then K (s.1,s.2|| !decide ((l.length:Int)<=most))else aT (decide (([]:List Int).length+10*[(l.length:Int)].length<=1099511627776)) (aT ((decide ((l.length:Int)=(l.length:Int))&&decide ((0:Int)=0))&&(cf A.ok l&&decide ((cx ([],s.2|| !decide ((l.length:Int)<=most)) [(l.length:Int)]).1.length+kC A.wt l<=1099511627776)))
   (wT true (wF (id,(sW A.G (cx ([],s.2|| !decide ((l.length:Int)<=most)) [(l.length:Int)]) l).1,(sW A.G (cx ([],s.2|| !decide ((l.length:Int)<=most)) [(l.length:Int)]) l).2,())) (Qd (id,(sW A.G (cx ([],s.2|| !decide ((l.length:Int)<=most)) [(l.length:Int)]) l).1,(sW A.G (cx ([],s.2|| !decide ((l.length:Int)<=most)) [(l.length:Int)]) l).2,())) α (s.1,s.2|| !decide ((l.length:Int)<=most)) K)))=_
  unfold oO gX
  generalize hm:decide ((l.length:Int)<=most)=c
  cases h0:decide ((l.length:Int)=0)with
  |true=>simp
  |false=>
   have e1:cx ([],s.2|| !c) [(l.length:Int)]=(nb (l.length:Int),s.2|| !c|| !(iM (l.length:Int))):=by
    rw[q5]
    show([]++(nb _++[]),_)=_
    simp
   have e2:=HX B l h (nb (l.length:Int),s.2|| !c|| !(iM (l.length:Int))) (Nat.le_trans (Nat.add_le_add_right hn _) (by omega))
   rw[e1,e2,h]
   have c2:(nb (l.length:Int)).length+kC A.wt l<=1099511627776:=Nat.le_trans (Nat.add_le_add_right hn _) (by omega)
   have c3:(nb (l.length:Int)++uF B l).length<=10+kC A.wt l:=by rw[List.length_append];omega
   have k1:((decide ((l.length:Int)=(l.length:Int))&&decide ((0:Int)=0))&&(true&&decide ((nb (l.length:Int),s.2|| !c|| !(iM (l.length:Int))).1.length+kC A.wt l<=1099511627776)))=true:=by
    rw[Bool.and_eq_true,Bool.and_eq_true,Bool.and_eq_true]
    exact⟨⟨decide_eq_true rfl,decide_eq_true rfl⟩,rfl,decide_eq_true c2⟩
   have c0:decide (([]:List Int).length+10*[(l.length:Int)].length<=1099511627776)=true:=decide_eq_true (by simp only[List.length_cons,List.length_nil];omega)
   rw[k1,c0,ajb id _ _ (s.1,s.2|| !c) (Nat.le_trans (Nat.add_le_add_left (Nat.add_le_add_left c3 11) s.1.length) (by omega))]
   unfold aT
   rw[cond_true,cond_true,cond_false,cond_false]
   congr 2
   generalize iM (l.length:Int)=u1
   generalize iM ((nb (l.length:Int)++uF B l).length:Int)=u2
   generalize l.all B.p=u3
   cases s.2<;>cases c<;>cases u1<;>cases u2<;>cases u3<;>rfl
end Go.Proofs.Vd

noncomputable section
namespace Go.Proofs.Vd
open Go.Ab Go.Ab.Lf
set_option maxRecDepth 100000
def b36(s:ByteArray):List Int:=[]++(Az [(s.size:Int)]++VU s)
def ZI(V:ByteArray->Bool)(s:ByteArray):Bool:=V s&&([(s.size:Int)].all iM&&true)
theorem BN(V:ByteArray->Bool)(s:ByteArray)(hg:Ax s=true):Wx (uC (s,())) (Nz V (s,())) (b36 s) (ZI V s):=by
 have e:Nz V (s,())=fun α t K=>js (V s) α t fun t=>ij [(s.size:Int)] α t fun t=>zI (VU s) α t K:=by
  unfold Nz
  rw[show Ax (s,()).1=true from hg]
  rfl
 rw[e]
 refine((iL (V s)).seq ((eM [(s.size:Int)]).seq (BM (VU s)))).le ?_
 rw[HQ]
 show _<=10+s.size
 simp only[List.length_cons,List.length_nil]
 omega
def b41(x:den ak):List Int:=[]++bif decide (x.2= -1)then [0]++Az [x.1]else [1]++Az [x.1,x.2]
def p41(mo:Int)(x:den ak):Bool:=decide (x.1<=mo)&&bif decide (x.2= -1)then true&&[x.1].all iM else true&&[x.1,x.2].all iM
theorem N4(mo:Int)(x:den ak):Wx 21 (F41 (x.1,x.2,mo,())) (b41 x) (p41 mo x):=
 ((iL _).seq (.bif (((eG [0]).seq (eM [x.1])).le (m:=21) (by simp)) ((eG [1]).seq (eM [x.1,x.2])))).le (by simp)
def N5:AB Tc:=⟨fun x=>bif decide ((x.1.length:Int)<=32)then []++([96]++(Az [(x.1.length:Int)]++(Qf x.1++(Az [(x.2.length:Int)]++Qf x.2))))else []++([96]++(Az [(x.1.length:Int)]++(Qf x.1++(Az [(x.2.length:Int)]++Qf x.2)))),
 fun x=>bif decide ((x.1.length:Int)<=32)then decide ((x.2.length:Int)<=32)&&(true&&([(x.1.length:Int)].all iM&&(x.1.all qt&&([(x.2.length:Int)].all iM&&x.2.all qt))))else false&&(true&&([(x.1.length:Int)].all iM&&(x.1.all qt&&([(x.2.length:Int)].all iM&&x.2.all qt)))),
 fun x _=>.bif ((iL _).seq ((eG [96]).seq ((eM [(x.1.length:Int)]).seq ((oK x.1).seq ((eM [(x.2.length:Int)]).seq (oK x.2))))))
  ((iL _).seq ((eG [96]).seq ((eM [(x.1.length:Int)]).seq ((oK x.1).seq ((eM [(x.2.length:Int)]).seq (oK x.2))))))⟩
def N6(V:ByteArray->Bool):AB (Y8 V):=⟨fun x=>b36 x.1++(b36 x.2.1++([0]++Az [x.2.2])),fun x=>ZI V x.1&&(ZI V x.2.1&&(true&&[x.2.2].all iM)),
 fun x h=>(oL (BN V x.1 (Bool.and_eq_true _ _▸h).1) (Bool.and_eq_true _ _▸h).1).seq ((oL (BN V x.2.1 (Bool.and_eq_true _ _▸h).2) (Bool.and_eq_true _ _▸h).2).seq ((eG [0]).seq (eM [x.2.2])))⟩
def N7:AB Tb:=⟨fun x=>Az [x],fun x=>[x].all iM,fun x _=>eM [x]⟩
def N8:AB Td:=⟨fun x=>[112]++b41 x,fun x=>true&&p41 1024 x,fun x _=>(eG [112]).seq (oL (N4 1024 x) rfl)⟩
def N9:AB Te:=⟨b41,p41 16,fun x _=>oL (N4 16 x) rfl⟩
def Gk:AB NI:=⟨fun x=>Qf [x.1]++bif x.2.1 then [1]++pP x.2.2 else [0]++pP x.2.2,fun x=>[x.1].all qt&&bif x.2.1 then true&&decide (nU x.2.2=0)else true&&decide (nU x.2.2=0),
 fun x h=>(oK [x.1]).seq (.bif ((eG [1]).seq (oL (yS x.2.2 h) h)) ((eG [0]).seq (oL (yS x.2.2 h) h)))⟩
def Oa(V:ByteArray->Bool):AB (Y9 V):=⟨fun x=>bif decide (0<=x.2.1)then []++(b36 x.1++([bf .u8 x.2.1]++Az [x.2.2]))else []++(b36 x.1++([bf .u8 x.2.1]++Az [x.2.2])),
 fun x=>bif decide (0<=x.2.1)then decide (x.2.1<=3)&&(ZI V x.1&&(true&&[x.2.2].all iM))else false&&(ZI V x.1&&(true&&[x.2.2].all iM)),
 fun x h=>.bif ((iL _).seq ((oL (BN V x.1 h) h).seq ((eG [_]).seq (eM [x.2.2])))) ((iL _).seq ((oL (BN V x.1 h) h).seq ((eG [_]).seq (eM [x.2.2]))))⟩
def JK:AB NJ:=⟨fun x=>[]++([0]++(pP x.1++(Az [(x.2.length:Int)]++Az x.2))),fun x=>decide ((x.2.length:Int)<=1024)&&(true&&(decide (nU x.1=0)&&([(x.2.length:Int)].all iM&&x.2.all iM))),
 fun x h=>(iL _).seq ((eG [0]).seq ((oL (yS x.1 h) h).seq ((eM [(x.2.length:Int)]).seq (eM x.2))))⟩
def DY:AB DS:=⟨fun x=>[0]++(pP x.1++(Az [(x.2.length:Int)]++x.2)),fun x=>true&&(decide (nU x.1=0)&&([(x.2.length:Int)].all iM&&true)),
 fun x h=>(eG [0]).seq ((oL (yS x.1 h) h).seq ((eM [(x.2.length:Int)]).seq (eG x.2)))⟩
def DZ(L:List Int):Nat->Nat->List Int
 |0,_=>[]
 |k+1,i=>if i<L.length then nb (gW L (i:Int):Int)++([bf .u8 (L.getD i (aq i64))]++DZ L k (i+gW L (i:Int)))else []
def Gl(L:List Int):Nat->Nat->Bool
 |0,_=>true
 |k+1,i=>if i<L.length then iM (gW L (i:Int):Int)&&(qt (L.getD i (aq i64))&&Gl L k (i+gW L (i:Int)))else true
theorem yV(L:List Int): ∀ (k:Nat) (s:St) (i:Nat),qY L k s i=(s.1++DZ L k i,s.2|| !(Gl L k i))
 |0,s,i=>by simp[qY,DZ,Gl]
 |k+1,s,i=>by
  unfold qY DZ Gl
  by_cases h:i<L.length
  ·rw[if_pos h,if_pos h,if_pos h,yV L k,AA,q5]
   have e:(s.2|| !([(gW L (i:Int):Int)].all iM)|| !([L.getD i (aq i64)].all qt)|| !(Gl L k (i+gW L (i:Int))))=(s.2|| !(iM (gW L (i:Int):Int)&&(qt (L.getD i (aq i64))&&Gl L k (i+gW L (i:Int))))):=by
    simp only[List.all_cons,List.all_nil,Bool.and_true]
    cases s.2<;>cases iM (gW L (i:Int):Int)<;>cases qt (L.getD i (aq i64))<;>cases Gl L k (i+gW L (i:Int))<;>rfl
   show((s.1++(nb _++[]))++[bf .u8 (L.getD i (aq i64))]++DZ L k (i+gW L (i:Int)),_)=_
   simp only[e,List.append_assoc,List.append_nil]
  ·rw[if_neg h,if_neg h,if_neg h]
   simp
def zK(x:den aK):List Int:=nb (ek x.1 0)++(DZ x.1 x.1.length 0++pP x.2)
def Qg(x:den aK):Bool:=iM (ek x.1 0)&&(Gl x.1 x.1.length 0&&decide (nU x.2=0))
theorem ZJ(x:den aK)(h:qi x.2=true):Wx (Gb (x.1,x.2,())) (F52 (x.1,x.2,())) (nb ((zK x).length:Int)++zK x) (decide ((x.1.length:Int)<=512)&&(Qg x&&iM ((zK x).length:Int))):=by
 obtain⟨L,c⟩:=x
 have hw:=(yS c h)
 have hn:=qZ (ek L 0)
 have h1: ∀ (L0:L.length<=1099511627776) (hs:10+11*L.length<=1099511627776),(DZ L L.length 0).length<=11*L.length:=by
  intro L0 hs
  have:=DW ([],false) L L0 (by show 0+_<=_;omega)
  unfold wI at this
  rw[yV]at this
  simpa using this
 have key: ∀ s:St,s.1.length+Gb (L,c,())<=1099511627776->(DZ L L.length 0).length<=11*L.length:=by
  intro s hs
  have hs:s.1.length+(20+11*L.length+qp c)<=1099511627776:=hs
  exact h1 (by omega) (by omega)
 have lc:(DZ L L.length 0).length<=11*L.length:=by
  have: ∀ (k i:Nat),L.length<=i+k->i<=L.length->(DZ L k i).length<=11*(L.length - i):=by
   intro k
   induction k with
   |zero=>intro i _ _;exact Nat.zero_le _
   |succ k ih=>
    intro i a b
    unfold DZ
    split
    ·rename_i hi
     obtain⟨r1,r2⟩:=BJ L i hi
     have:=ih (i+gW L (i:Int)) (by omega) r2
     have:=qZ (gW L (i:Int):Int)
     simp only[List.length_append,List.length_cons,List.length_nil]
     omega
    ·exact Nat.zero_le _
  simpa using this L.length 0 (by omega) (by omega)
 have cl:(zK (L,c)).length<=10+11*L.length+qp c:=by
  have:=hw.1
  unfold zK
  simp only[List.length_append]
  omega
 refine⟨?_,fun s hs α K=>?_⟩
 ·have:=qZ ((zK (L,c)).length:Int)
  show _<=20+11*L.length+qp c
  simp only[List.length_append]
  omega
 ·have XW:s.1.length+(20+11*L.length+qp c)<=1099511627776:=hs
  have hL:L.length<=1099511627776:=by omega
  have e1:cx ([],false) [ek L 0]=(nb (ek L 0),!(iM (ek L 0))):=by
   rw[q5]
   show([]++(nb _++[]),_)=_
   simp
  have e2:wI (nb (ek L 0),!(iM (ek L 0))) L=(nb (ek L 0)++DZ L L.length 0,!(iM (ek L 0))|| !(Gl L L.length 0)):=by
   unfold wI
   rw[yV]
  have c1:(nb (ek L 0)).length+11*L.length<=1099511627776:=by omega
  have c2:(nb (ek L 0)++DZ L L.length 0).length+qp c<=1099511627776:=by simp only[List.length_append];omega
  have e4:(nb (ek L 0)++DZ L L.length 0)++pP c=zK (L,c):=by
   unfold zK
   rw[List.append_assoc]
  have e5:((!(iM (ek L 0))|| !(Gl L L.length 0))|| !(decide (nU c=0)))= !(Qg (L,c)):=by
   unfold Qg
   generalize iM (ek L 0)=u1
   generalize Gl L L.length 0=u2
   generalize decide (nU c=0)=u3
   cases u1<;>cases u2<;>cases u3<;>rfl
  have e3: ∀ (α:Type) (K:St->Option α),wT (qi c) (qp c) (Ku (c,())) α (nb (ek L 0)++DZ L L.length 0,!(iM (ek L 0))|| !(Gl L L.length 0)) K=K (zK (L,c),!(Qg (L,c))):=fun α K=>by
   rw[(oL hw h).2 (nb (ek L 0)++DZ L L.length 0,!(iM (ek L 0))|| !(Gl L L.length 0)) c2]
   exact congrArg K (Prod.ext e4 e5)
  have c0:decide (([]:List Int).length+10*[ek L 0].length<=1099511627776)=true:=decide_eq_true (by simp only[List.length_cons,List.length_nil];omega)
  have k1:((decide ((L.length:Int)=(L.length:Int))&&decide ((0:Int)=0))&&decide (L.length<=1099511627776))=true:=by
   rw[Bool.and_eq_true,Bool.and_eq_true]
   exact⟨⟨decide_eq_true rfl,decide_eq_true rfl⟩,decide_eq_true hL⟩
  have k2:((decide ((0:Int)=0)&&decide (L.length<=1099511627776))&&decide ((nb (ek L 0)).length+11*L.length<=1099511627776))=true:=by
   rw[Bool.and_eq_true,Bool.and_eq_true]
   exact⟨⟨decide_eq_true rfl,decide_eq_true hL⟩,decide_eq_true c1⟩
  have e6:=((iL (!(!(Qg (L,c))))).seq ((eM [((zK (L,c)).length:Int)]).seq (BM (zK (L,c))))).2 (s.1,s.2|| !decide ((L.length:Int)<=512)) (by
   show s.1.length+_<=_
   simp only[List.length_cons,List.length_nil]
   omega) α K
  show aT ((decide ((L.length:Int)=(L.length:Int))&&decide ((0:Int)=0))&&decide (L.length<=1099511627776)) (aT (decide (([]:List Int).length+10*[ek L 0].length<=1099511627776)) (aT ((decide ((0:Int)=0)&&decide (L.length<=1099511627776))&&decide ((cx ([],false) [ek L 0]).1.length+11*L.length<=1099511627776)) (wT (qi c) (qp c) (Ku (c,())) α (wI (cx ([],false) [ek L 0]) L) fun q=>js (!q.2) α (s.1,s.2|| !decide ((L.length:Int)<=512)) fun s=>ij [(q.1.length:Int)] α s fun s=>zI q.1 α s K)))=_
  rw[e1,e2,e3,k1,k2,c0]
  unfold aT
  rw[cond_true,cond_true,cond_true]
  refine Eq.trans e6 ?_
  congr 2
  ·show s.1++([]++((nb _++[])++zK (L,c)))=_
   simp
  ·show((s.2|| !decide ((L.length:Int)<=512))|| !(!(!(Qg (L,c)))&&((iM _&&true)&&true)))=_
   generalize decide ((L.length:Int)<=512)=u1
   generalize iM ((zK (L,c)).length:Int)=u2
   cases s.2<;>cases u1<;>cases Qg (L,c)<;>cases u2<;>rfl
def D0:AB NV:=⟨fun x=>nb ((zK x).length:Int)++zK x,fun x=>decide ((x.1.length:Int)<=512)&&(Qg x&&iM ((zK x).length:Int)),fun x h=>ZJ x h⟩
def ZK(V:ByteArray->Bool)(y:aj tM):List Int:=oO N5 1 y.1++(oO (N6 V) 2 y.2.1++(oO N7 3 y.2.2.1++(oO N8 4 y.2.2.2.1++(oO N9 5 y.2.2.2.2.1++(oO Gk 6 y.2.2.2.2.2.1++oO (Oa V) 7 y.2.2.2.2.2.2.1)))))
def Ob(y:aj tM):List Int:=oO JK 9 y.2.2.2.2.2.2.2.2.1++(oO D0 10 y.2.2.2.2.2.2.2.2.2.1++oO DY 11 y.2.2.2.2.2.2.2.2.2.2.1)
def stB(n:Int):List Int:=bif decide (0<=n)then 8::(nb ((nb n).length:Int)++nb n)else []
def ZL(V:ByteArray->Bool)(y:aj tM):Bool:=gX N5 256 y.1&&(gX (N6 V) 512 y.2.1&&(gX N7 512 y.2.2.1&&(gX N8 512 y.2.2.2.1&&(gX N9 512 y.2.2.2.2.1&&(gX Gk 512 y.2.2.2.2.2.1&&gX (Oa V) 512 y.2.2.2.2.2.2.1)))))
def ZM(y:aj tM):Bool:=gX JK 512 y.2.2.2.2.2.2.2.2.1&&(gX D0 512 y.2.2.2.2.2.2.2.2.2.1&&gX DY 512 y.2.2.2.2.2.2.2.2.2.2.1)
def stP(n:Int):Bool:=decide (-1<=n)&&bif decide (0<=n)then iM n&&iM ((nb n).length:Int)else true
def Oe(V:ByteArray->Bool)(y:aj tM):Bool:=decide ((y.2.2.1.length:Int)=(y.2.2.2.2.2.2.2.2.2.1.length:Int))&&(ZL V y&&(stP y.2.2.2.2.2.2.2.1&&ZM y))
def Qh(V:ByteArray->Bool)(y:aj tM):List Int:=ZK V y++(stB y.2.2.2.2.2.2.2.1++Ob y)
theorem JL(n:Int):Wx 21 (NX n) (8::(nb ((nb n).length:Int)++nb n)) (iM n&&iM ((nb n).length:Int)):=by
 have hn:=qZ n
 have h:=N3 8 (nb n) (!(iM n))
 refine⟨Nat.le_trans h.1 (by omega),fun s hs α K=>?_⟩
 have e1:cx ([],false) [n]=(nb n,!(iM n)):=by
  rw[q5]
  show([]++(nb _++[]),_)=_
  simp
 show aT (decide (([]:List Int).length+10*[n].length<=1099511627776)) (wT true (wF (8,(cx ([],false) [n]).1,(cx ([],false) [n]).2,())) (Qd (8,(cx ([],false) [n]).1,(cx ([],false) [n]).2,())) α s K)=_
 rw[e1]
 have c:s.1.length+wF (8,nb n,!(iM n),())<=1099511627776:=by
  show s.1.length+(0+(1+(10+(nb n).length)))<=_
  omega
 show wT true (wF (8,nb n,!(iM n),())) (Qd (8,nb n,!(iM n),())) α s K=_
 unfold wT
 rw[decide_eq_true c,h.mw (by omega)]
 show K _=_
 congr 2
 generalize iM n=u1
 generalize iM ((nb n).length:Int)=u2
 cases s.2<;>cases u1<;>cases u2<;>rfl
theorem kJ{t:Ty}{A:Item (den t)}(B:AB A)(id most:Int)(l:List (den t))(h:cf A.ok l=true):Wx (21+kC A.wt l) (wJ A id most l) (oO B id l) (gX B most l):=oL (adl B id most l h) h
theorem HY(y:aj tM)(h1:cf NJ.ok y.2.2.2.2.2.2.2.2.1=true)(h2:cf NV.ok y.2.2.2.2.2.2.2.2.2.1=true)(h3:cf DS.ok y.2.2.2.2.2.2.2.2.2.2.1=true):Wx (HS y) (Tk y) (Ob y) (ZM y):=
 (kJ JK 9 512 _ h1).seq ((kJ D0 10 512 _ h2).seq (kJ DY 11 512 _ h3))
theorem ZN(V:ByteArray->Bool)(y:aj tM)(h:VW V y=true):Wx (Gc V y) (F18 V y) (Qh V y) (Oe V y):=by
 unfold VW at h
 simp only[Bool.and_eq_true]at h
 obtain⟨h1,h2,h3,h4,h5,h6,h7,h8,h9,Tn⟩:=h
 have k9:=Wx.bif (c:=decide (0<=y.2.2.2.2.2.2.2.1)) ((JL y.2.2.2.2.2.2.2.1).seq (HY y h8 h9 Tn)) ((HY y h8 h9 Tn).le (m:=21+HS y) (Nat.le_add_left _ _))
 have k8:=(iL (decide (-1<=y.2.2.2.2.2.2.2.1))).seq k9
 have k7:=(kJ (Oa V) 7 512 _ h7).seq k8
 have k6:=(kJ Gk 6 512 _ h6).seq k7
 have k5:=(kJ N9 5 512 _ h5).seq k6
 have k4:=(kJ N8 4 512 _ h4).seq k5
 have k3:=(kJ N7 3 512 _ h3).seq k4
 have k2:=(kJ (N6 V) 2 512 _ h2).seq k3
 have k1:=(kJ N5 1 256 _ h1).seq k2
 have k0:=(iL (decide ((y.2.2.1.length:Int)=(y.2.2.2.2.2.2.2.2.2.1.length:Int)))).seq k1
 refine Wx.eq (F:=F18 V y) k0 ?_ ?_
 ·unfold Qh ZK stB
  generalize decide (0<=y.2.2.2.2.2.2.2.1)=u
  cases u<;>simp only[cond_true,cond_false,List.nil_append,List.append_assoc]
 ·unfold Oe ZL stP
  generalize decide (0<=y.2.2.2.2.2.2.2.1)=u
  cases u<;>simp only[cond_true,cond_false,Bool.and_assoc,Bool.true_and,Bool.and_true]
theorem HZ{V:ByteArray->Bool}{y:aj tM}(h:Ge V y=true):zJ V y=(s0.1++Qh V y,!(Oe V y)):=by
 unfold Ge at h
 simp only[Bool.and_eq_true,decide_eq_true_eq]at h
 unfold zJ
 rw[(ZN V y h.1).mw (s:=s0) h.2]
 rfl
end Go.Proofs.Vd

noncomputable section
namespace Go.Proofs.Vd
open Go.Ab Go.Ab.Lf
set_option maxRecDepth 100000
abbrev Of:List Ty:=[.ae aI,.ae aQ,.ae i64,.ae ak,.ae ak,.ae aC,.ae aP,i64,.ae aG,.ae aK,.ae aD,.ae i64,.ae i64,.ae cw,.bool,i64,i64,i64,u64,u64,.ae i64]
abbrev uG:List Ty:=[.ae aI,.ae aQ,.ae i64,.ae ak,.ae ak,.ae aC,.ae aP,i64,.ae aG,.ae aK,.ae aD,.ae i64,.ae i64,.ae cw,.bool]
def e86:List (Nat×cQ):=[(91,s72),(92,s73),(95,VY)]
theorem ZO{V:ByteArray->Bool}{ao:aA}(W:WorldC V ao):dc ao (e86):=(.cons (yQ W.toWorld) (.cons (yP W.toWorld) (.cons (sX W.toWorld) .nil)))
def t86(x:aj Of):Lf.T (List Pl):=ja (Ps [jG 0,pI]) [14] (Ps [.tu .nil,jG 14]) (fun _=>none) Tryz.Yp 3 (dG (e86) 3) (aB Of x)
def k86(x:aj Of):Bool:=jP uG (t86 x)
def m86(x:aj Of):aj uG:=e7 uG (t86 x)
def s86:cQ:=iw (Ps [jG 0,pI]) [14] (Ps [.tu .nil,jG 14]) Of uG fun x=>.ck (k86 x) (.ok (m86 x))
theorem ZP{V:ByteArray->Bool}{ao:aA}(W:WorldC V ao):(s86).Ok 107 ao:=
 eU (W.toWorld.in (ZO W) 3) (W.toWorld.st 107 _ rfl) rfl (aE _) (m:=3) rfl (fun _=>rfl) (fun _=>rfl)
abbrev wb:List Ty:=[.ae aI,.ae aQ,.ae i64,.ae ak,.ae ak,.ae aC,.ae aP,i64,.ae aG,.ae aK,.ae aD,.ae i64,.ae i64,.ae cw,.bool,.ae i64,.ae i64,i64]
abbrev pQ:List Ty:=[.ae aI,.ae aQ,.ae i64,.ae ak,.ae ak,.ae aC,.ae aP,i64,.ae aG,.ae aK,.ae aD,.ae i64,.ae i64,.ae cw,.bool,.ae i64]
def Tv:j4:=⟨0,fK Tryz.SP.code 0,[0,1,4,5],(Ps [jG 14,.im i64,.ow i64,.n .i64]),[⟨.lN,[0,4],Ps [jG 14,.ow i64]⟩]⟩
def adp:List (Nat×cQ):=[(92,s73)]
theorem Tw{V:ByteArray->Bool}{ao:aA}(W:WorldC V ao):dc ao (adp):=(.cons (yP W.toWorld) .nil)
def Og:List Pl->Lf.T Rs:=Tv.step (fun _=>none) (dG (adp) 3) 3
def adq:fD:=qn Tv (Og) wb pQ
theorem Tx{V:ByteArray->Bool}{ao:aA}(W:WorldC V ao):ep Rx.w (adq) (fun n d=>gy (ao n d) n (.bl 0 (.lp Tv.body))):=fL (W.toWorld.in (Tw W) 3) (aE _) (m:=3) wb pQ
def L85:Nat->Option fD:=qg [(0,adq)]
abbrev JM:List Ty:=[.ae aI,.ae aQ,.ae i64,.ae ak,.ae ak,.ae aC,.ae aP,i64,.ae aG,.ae aK,.ae aD,.ae i64,.ae i64,.ae cw,.bool,.ae i64]
abbrev D2:List Ty:=[.ae aI,.ae aQ,.ae i64,.ae ak,.ae ak,.ae aC,.ae aP,i64,.ae aG,.ae aK,.ae aD,.ae i64,.ae i64,.ae cw,.bool]
def e85:List (Nat×cQ):=[(91,s72)]
theorem ZQ{V:ByteArray->Bool}{ao:aA}(W:WorldC V ao):dc ao (e85):=(.cons (yQ W.toWorld) .nil)
def t85(x:aj JM):Lf.T (List Pl):=ja (Ps [jG 0,.im i64]) [14] (Ps [.tu .nil,jG 14]) L85 Tryz.SP 18 (dG (e85) 18) (aB JM x)
def k85(x:aj JM):Bool:=jP D2 (t85 x)
def m85(x:aj JM):aj D2:=e7 D2 (t85 x)
def s85:cQ:=iw (Ps [jG 0,.im i64]) [14] (Ps [.tu .nil,jG 14]) JM D2 fun x=>.ck (k85 x) (.ok (m85 x))
theorem ZR{V:ByteArray->Bool}{ao:aA}(W:WorldC V ao):(s85).Ok 106 ao:=
 eU (W.toWorld.in (ZQ W) 18) (W.toWorld.st 106 _ rfl) rfl (fx.jq (.cons (b:=Tv.body) (by kernel_rfl) (Tx W) .nil)) (m:=18) rfl (fun _=>rfl) (fun _=>rfl)
abbrev uH:List Ty:=[.ae aI,.ae aQ,.ae i64,.ae ak,.ae ak,.ae aC,.ae aP,i64,.ae aG,.ae aK,.ae aD,.ae i64,.ae i64,.ae cw,.bool,.ae i64,.ae i64,i64,i64]
abbrev nn:List Ty:=[.ae aI,.ae aQ,.ae i64,.ae ak,.ae ak,.ae aC,.ae aP,i64,.ae aG,.ae aK,.ae aD,.ae i64,.ae i64,.ae cw,.bool,.ae i64]
def Tz:j4:=⟨1,fK Tryz.x96.code 1,[0,5,51,52,53],(Ps [jG 14,.im i64,.im i64,.n .i64,.n .i64]),[⟨.lN,[0,5],Ps [jG 14,.im i64]⟩]⟩
def ads:List (Nat×cQ):=[(95,VY),(105,s84),(106,s85)]
theorem TA{V:ByteArray->Bool}{ao:aA}(W:WorldC V ao):dc ao (ads):=(.cons (sX W.toWorld) (.cons (NZ W.toWorld) (.cons (ZR W) .nil)))
def JN:List Pl->Lf.T Rs:=Tz.step (fun _=>none) (dG (ads) 3) 3
def adt:fD:=qn Tz (JN) uH nn
theorem TB{V:ByteArray->Bool}{ao:aA}(W:WorldC V ao):ep Rx.w (adt) (fun n d=>gy (ao n d) n (.bl 1 (.lp Tz.body))):=fL (W.toWorld.in (TA W) 3) (aE _) (m:=3) uH nn
def L77:Nat->Option fD:=qg [(1,adt)]
abbrev Oh:List Ty:=[.ae aI,.ae aQ,.ae i64,.ae ak,.ae ak,.ae aC,.ae aP,i64,.ae aG,.ae aK,.ae aD,.ae i64,.ae i64,.ae cw,.bool,i64,i64,i64,u64,u64,.ae i64]
abbrev yW:List Ty:=[.ae aI,.ae aQ,.ae i64,.ae ak,.ae ak,.ae aC,.ae aP,i64,.ae aG,.ae aK,.ae aD,.ae i64,.ae i64,.ae cw,.bool]
def e77:List (Nat×cQ):=[(90,s71),(91,s72),(92,s73),(104,s83),(105,s84),(107,s86)]
theorem ZS{V:ByteArray->Bool}{ao:aA}(W:WorldC V ao):dc ao (e77):=(.cons (Gg W.toWorld) (.cons (yQ W.toWorld) (.cons (yP W.toWorld) (.cons (Zs W.toWorld) (.cons (NZ W.toWorld) (.cons (ZP W) .nil))))))
def t77(x:aj Oh):Lf.T (List Pl):=ja (Ps [jG 0,pI]) [14] (Ps [.tu .nil,jG 14]) L77 Tryz.x96 3 (dG (e77) 3) (aB Oh x)
def k77(x:aj Oh):Bool:=jP yW (t77 x)
def m77(x:aj Oh):aj yW:=e7 yW (t77 x)
def s77:cQ:=iw (Ps [jG 0,pI]) [14] (Ps [.tu .nil,jG 14]) Oh yW fun x=>.ck (k77 x) (.ok (m77 x))
theorem ZT{V:ByteArray->Bool}{ao:aA}(W:WorldC V ao):(s77).Ok 96 ao:=
 eU (W.toWorld.in (ZS W) 3) (W.toWorld.st 96 _ rfl) rfl (fx.jq (.cons (b:=Tz.body) (by kernel_rfl) (TB W) .nil)) (m:=3) rfl (fun _=>rfl) (fun _=>rfl)
abbrev JO:List Ty:=[.ae aI,.ae aQ,.ae i64,.ae ak,.ae ak,.ae aC,.ae aP,i64,.ae aG,.ae aK,.ae aD,.ae i64,.ae i64,.ae cw,.bool,i64]
abbrev BO:List Ty:=[.ae aI,.ae aQ,.ae i64,.ae ak,.ae ak,.ae aC,.ae aP,i64,.ae aG,.ae aK,.ae aD,.ae i64,.ae i64,.ae cw,.bool]
def e75:List (Nat×cQ):=[(76,s60),(90,s71),(91,s72),(95,VY),(103,s82)]
theorem ZU{V:ByteArray->Bool}{ao:aA}(W:WorldC V ao):dc ao (e75):=(.cons (Gi W.toWorld) (.cons (Gg W.toWorld) (.cons (yQ W.toWorld) (.cons (sX W.toWorld) (.cons (ZF W.toWorld) .nil)))))
def t75(x:aj JO):Lf.T (List Pl):=ja (Ps [jG 0,.n .i64]) [14] (Ps [.tu .nil,jG 14]) (fun _=>none) Tryz.x94 3 (dG (e75) 3) (aB JO x)
def k75(x:aj JO):Bool:=jP BO (t75 x)
def m75(x:aj JO):aj BO:=e7 BO (t75 x)
def s75:cQ:=iw (Ps [jG 0,.n .i64]) [14] (Ps [.tu .nil,jG 14]) JO BO fun x=>.ck (k75 x) (.ok (m75 x))
theorem ZV{V:ByteArray->Bool}{ao:aA}(W:WorldC V ao):(s75).Ok 94 ao:=
 eU (W.toWorld.in (ZU W) 3) (W.toWorld.st 94 _ rfl) rfl (aE _) (m:=3) rfl (fun _=>rfl) (fun _=>rfl)
abbrev Gm:List Ty:=[.ae aI,.ae aQ,.ae i64,.ae ak,.ae ak,.ae aC,.ae aP,i64,.ae aG,.ae aK,.ae aD,.ae i64,.ae i64,.ae cw,.bool,i64,i64,i64,u64,u64,.ae i64]
abbrev lT:List Ty:=[.ae aI,.ae aQ,.ae i64,.ae ak,.ae ak,.ae aC,.ae aP,i64,.ae aG,.ae aK,.ae aD,.ae i64,.ae i64,.ae cw,.bool]
def e62:List (Nat×cQ):=[(70,s10),(88,s11),(85,s21),(76,s60),(89,s70),(90,s71),(91,s72),(92,s73),(93,s74),(94,s75),(95,VY),(96,s77)]
theorem ZW{V:ByteArray->Bool}{ao:aA}(W:WorldC V ao):dc ao (e62):=(.cons (BL W) (.cons (Nn W.toWorld) (.cons (Gh W) (.cons (Gi W.toWorld) (.cons (ZH W.toWorld) (.cons (Gg W.toWorld) (.cons (yQ W.toWorld) (.cons (yP W.toWorld) (.cons (Zz W) (.cons (ZV W) (.cons (sX W.toWorld) (.cons (ZT W) .nil))))))))))))
def t62(x:aj Gm):Lf.T (List Pl):=ja (Ps [jG 0,pI]) [14] (Ps [.tu .nil,jG 14]) (fun _=>none) Tryz.x78 3 (dG (e62) 3) (aB Gm x)
def k62(x:aj Gm):Bool:=jP lT (t62 x)
def AD(x:aj Gm):aj lT:=e7 lT (t62 x)
def ZX:cQ:=iw (Ps [jG 0,pI]) [14] (Ps [.tu .nil,jG 14]) Gm lT fun x=>.ck (k62 x) (.ok (AD x))
theorem ZY{V:ByteArray->Bool}{ao:aA}(W:WorldC V ao):(ZX).Ok 78 ao:=
 eU (W.toWorld.in (ZW W) 3) (W.toWorld.st 78 _ rfl) rfl (aE _) (m:=3) rfl (fun _=>rfl) (fun _=>rfl)
end Go.Proofs.Vd

noncomputable section
namespace Go.Proofs.Vd
open Go.Ab Go.Ab.Lf
set_option maxRecDepth 100000
abbrev uI:List Ty:=[.ae (.ae i64),i64,.ae (.ae i64),i64,i64]
abbrev lU:List Ty:=[.ae (.ae i64),i64]
def TC:j4:=⟨0,fK Tryz.x75.code 0,[0,3,9,10,11],(Ps [.im (.ae i64),.n .i64,.im (.ae i64),.n .i64,.n .i64]),[⟨.lN,[0,3],Ps [.im (.ae i64),.n .i64]⟩]⟩
def adz:List (Nat×cQ):=[]
theorem TD{V:ByteArray->Bool}{ao:aA}(W:WorldC V ao):dc ao (adz):=.nil
def Gn:List Pl->Lf.T Rs:=TC.step (fun _=>none) (dG (adz) 3) 3
def adA:fD:=qn TC (Gn) uI lU
theorem TE{V:ByteArray->Bool}{ao:aA}(W:WorldC V ao):ep Rx.w (adA) (fun n d=>gy (ao n d) n (.bl 0 (.lp TC.body))):=fL (W.toWorld.in (TD W) 3) (aE _) (m:=3) uI lU
abbrev so:List Ty:=[.ae i64,.ae (.ae i64),i64,i64]
abbrev lV:List Ty:=[.ae i64]
def TF:j4:=⟨2,fK Tryz.x75.code 2,[6,25,26,27],(Ps [.ow i64,.im (.ae i64),.n .i64,.n .i64]),[⟨.lN,[6],Ps [.ow i64]⟩]⟩
def adB:List (Nat×cQ):=[]
theorem TG{V:ByteArray->Bool}{ao:aA}(W:WorldC V ao):dc ao (adB):=.nil
def D3:List Pl->Lf.T Rs:=TF.step (fun _=>none) (dG (adB) 3) 3
def adC:fD:=qn TF (D3) so lV
theorem TH{V:ByteArray->Bool}{ao:aA}(W:WorldC V ao):ep Rx.w (adC) (fun n d=>gy (ao n d) n (.bl 2 (.lp TF.body))):=fL (W.toWorld.in (TG W) 3) (aE _) (m:=3) so lV
def L59:Nat->Option fD:=qg [(0,adA),(2,adC)]
abbrev Oi:List Ty:=[.ae (.ae i64)]
abbrev Gp:List Ty:=[.ae i64]
def e59:List (Nat×cQ):=[]
theorem ZZ{V:ByteArray->Bool}{ao:aA}(W:WorldC V ao):dc ao (e59):=.nil
def t59(x:aj Oi):Lf.T (List Pl):=ja (Ps [.im (.ae i64)]) [] (Ps [.ow i64]) L59 Tryz.x75 3 (dG (e59) 3) (aB Oi x)
def k59(x:aj Oi):Bool:=jP Gp (t59 x)
def m59(x:aj Oi):aj Gp:=e7 Gp (t59 x)
def s59:cQ:=iw (Ps [.im (.ae i64)]) [] (Ps [.ow i64]) Oi Gp fun x=>.ck (k59 x) (.ok (m59 x))
theorem Z0{V:ByteArray->Bool}{ao:aA}(W:WorldC V ao):(s59).Ok 75 ao:=
 eU (W.toWorld.in (ZZ W) 3) (W.toWorld.st 75 _ rfl) rfl (fx.jq (.cons (b:=TC.body) (by kernel_rfl) (TE W) (.cons (b:=TF.body) (by kernel_rfl) (TH W) .nil))) (m:=3) rfl (fun _=>rfl) (fun _=>rfl)
abbrev uJ:List Ty:=[.ae (.ae ak),i64,.ae (.ae ak),i64,i64]
abbrev lW:List Ty:=[.ae (.ae ak),i64]
def TI:j4:=⟨0,fK Tryz.x71.code 0,[0,3,9,10,11],(Ps [.im (.ae ak),.n .i64,.im (.ae ak),.n .i64,.n .i64]),[⟨.lN,[0,3],Ps [.im (.ae ak),.n .i64]⟩]⟩
def adF:List (Nat×cQ):=[]
theorem TJ{V:ByteArray->Bool}{ao:aA}(W:WorldC V ao):dc ao (adF):=.nil
def Gq:List Pl->Lf.T Rs:=TI.step (fun _=>none) (dG (adF) 3) 3
def adG:fD:=qn TI (Gq) uJ lW
theorem TK{V:ByteArray->Bool}{ao:aA}(W:WorldC V ao):ep Rx.w (adG) (fun n d=>gy (ao n d) n (.bl 0 (.lp TI.body))):=fL (W.toWorld.in (TJ W) 3) (aE _) (m:=3) uJ lW
abbrev sr:List Ty:=[.ae ak,.ae (.ae ak),i64,i64]
abbrev lX:List Ty:=[.ae ak]
def TL:j4:=⟨2,fK Tryz.x71.code 2,[6,25,26,27],(Ps [.ow ak,.im (.ae ak),.n .i64,.n .i64]),[⟨.lN,[6],Ps [.ow ak]⟩]⟩
def adH:List (Nat×cQ):=[]
theorem TM{V:ByteArray->Bool}{ao:aA}(W:WorldC V ao):dc ao (adH):=.nil
def D4:List Pl->Lf.T Rs:=TL.step (fun _=>none) (dG (adH) 3) 3
def adJ:fD:=qn TL (D4) sr lX
theorem TN{V:ByteArray->Bool}{ao:aA}(W:WorldC V ao):ep Rx.w (adJ) (fun n d=>gy (ao n d) n (.bl 2 (.lp TL.body))):=fL (W.toWorld.in (TM W) 3) (aE _) (m:=3) sr lX
def L55:Nat->Option fD:=qg [(0,adG),(2,adJ)]
abbrev Oj:List Ty:=[.ae (.ae ak)]
abbrev Gr:List Ty:=[.ae ak]
def e55:List (Nat×cQ):=[]
theorem Z1{V:ByteArray->Bool}{ao:aA}(W:WorldC V ao):dc ao (e55):=.nil
def t55(x:aj Oj):Lf.T (List Pl):=ja (Ps [.im (.ae ak)]) [] (Ps [.ow ak]) L55 Tryz.x71 3 (dG (e55) 3) (aB Oj x)
def k55(x:aj Oj):Bool:=jP Gr (t55 x)
def m55(x:aj Oj):aj Gr:=e7 Gr (t55 x)
def Z2:cQ:=iw (Ps [.im (.ae ak)]) [] (Ps [.ow ak]) Oj Gr fun x=>.ck (k55 x) (.ok (m55 x))
theorem Z3{V:ByteArray->Bool}{ao:aA}(W:WorldC V ao):(Z2).Ok 71 ao:=
 eU (W.toWorld.in (Z1 W) 3) (W.toWorld.st 71 _ rfl) rfl (fx.jq (.cons (b:=TI.body) (by kernel_rfl) (TK W) (.cons (b:=TL.body) (by kernel_rfl) (TN W) .nil))) (m:=3) rfl (fun _=>rfl) (fun _=>rfl)
abbrev tp:Ty:=.pair .bool (.pair i64 i64)
abbrev H5:jT:=.pt 0 (Ps [.im aI,.im aQ,.im i64,.im ak,.im ak,.im aC,.im aP,.n .i64,.im aG,.im aK,.im aD])
abbrev su:List Ty:=[.ae aI,.ae aQ,.ae i64,.ae ak,.ae ak,.ae aC,.ae aP,i64,.ae aG,.ae aK,.ae aD,.ae i64,.ae i64,.ae cw,.bool,.ae tp,i64,i64,i64,i64,u64,u64,.ae i64,.ae tI,i64,i64,i64,i64,i64]
abbrev lY:List Ty:=[.ae aI,.ae aQ,.ae i64,.ae ak,.ae ak,.ae aC,.ae aP,i64,.ae aG,.ae aK,.ae aD,.ae i64,.ae i64,.ae cw,.bool,.ae tp,i64,i64,i64,i64,u64,u64,.ae i64,.ae tI,i64,i64,i64]
def TO:j4:=⟨2,fK Tryz.x27.code 2,[8,9,11,12,57,58,59,10,80,81,82],(Ps [jG 0,.ow tp,.n .i64,pBI,.im tI,.n .i64,.n .i64,.n .i64,.oo 12 1,.n .i64,.n .i64]),[⟨.lN,[8,9,11,12,57,58,59,10],Ps [jG 0,.ow tp,.n .i64,pBI,.im tI,.n .i64,.n .i64,.n .i64]⟩]⟩
def adL:List (Nat×cQ):=[]
theorem TP{V:ByteArray->Bool}{ao:aA}(W:WorldC V ao):dc ao (adL):=.nil
def f202:List Pl->Lf.T Rs:=TO.step (fun _=>none) (dG (adL) 3) 3
def adM:fD:=qn TO (f202) su lY
theorem TQ{V:ByteArray->Bool}{ao:aA}(W:WorldC V ao):ep Rx.w (adM) (fun n d=>gy (ao n d) n (.bl 2 (.lp TO.body))):=fL (W.toWorld.in (TP W) 3) (aE _) (m:=3) su lY
def aji:Nat->Option fD:=qg [(2,adM)]
abbrev ik:List Ty:=[.ae aI,.ae aQ,.ae i64,.ae ak,.ae ak,.ae aC,.ae aP,i64,.ae aG,.ae aK,.ae aD,.ae i64,.ae i64,.ae cw,.bool,.ae tp,.ae tI,i64,i64]
abbrev gb:List Ty:=[.ae tp]
abbrev il:List Ty:=[.ae tp,.bool]
def TS:j4:=⟨0,fK Tryz.x27.code 0,[8,9,57,58,59],(Ps [jG 0,.ow tp,.im tI,.n .i64,.n .i64]),[⟨.lN,[9],Ps [.ow tp]⟩,⟨.rt,[4,5],Ps [.ow tp,.bo]⟩]⟩
def adN:List (Nat×cQ):=[(78,ZX)]
theorem TT{V:ByteArray->Bool}{ao:aA}(W:WorldC V ao):dc ao (adN):=(.cons (ZY W) .nil)
def f200:List Pl->Lf.T Rs:=TS.step aji (dG (adN) 3) 3
def adO:fD:=vq TS (f200) ik gb il
theorem TU{V:ByteArray->Bool}{ao:aA}(W:WorldC V ao):ep Rx.w (adO) (fun n d=>gy (ao n d) n (.bl 0 (.lp TS.body))):=jx (W.toWorld.in (TT W) 3) (fx.jq (.cons (b:=TO.body) (by kernel_rfl) (TQ W) .nil)) (m:=3) ik gb il
def L20:Nat->Option fD:=qg [(0,adO)]
abbrev Ol:List Ty:=[.ae aI,.ae aQ,.ae i64,.ae ak,.ae ak,.ae aC,.ae aP,i64,.ae aG,.ae aK,.ae aD,i64]
abbrev BP:List Ty:=[.ae tp,.bool]
def e20:List (Nat×cQ):=[(70,s10),(75,s59),(76,s60)]
theorem Z4{V:ByteArray->Bool}{ao:aA}(W:WorldC V ao):dc ao (e20):=(.cons (BL W) (.cons (Z0 W) (.cons (Gi W.toWorld) .nil)))
def t20(x:aj Ol):Lf.T (List Pl):=ja (Ps [pM,.n .i64]) [] (Ps [.tu (Ps [.ow tp,.bo])]) L20 Tryz.x27 3 (dG (e20) 3) (aB Ol x)
def k20(x:aj Ol):Bool:=jP BP (t20 x)
def m20(x:aj Ol):aj BP:=e7 BP (t20 x)
def s20:cQ:=iw (Ps [pM,.n .i64]) [] (Ps [.tu (Ps [.ow tp,.bo])]) Ol BP fun x=>.ck (k20 x) (.ok (m20 x))
theorem Z5{V:ByteArray->Bool}{ao:aA}(W:WorldC V ao):(s20).Ok 27 ao:=
 eU (W.toWorld.in (Z4 W) 3) (W.toWorld.st 27 _ rfl) rfl (fx.jq (.cons (b:=TS.body) (by kernel_rfl) (TU W) .nil)) (m:=3) rfl (fun _=>rfl) (fun _=>rfl)
abbrev q7:List Ty:=[i64,.ae aI,.ae aQ,.ae i64,.ae ak,.ae ak,.ae aC,.ae aP,i64,.ae aG,.ae aK,.ae aD,.ae aG,i64,i64,.ae i64,i64,i64]
abbrev pR:List Ty:=[i64,.ae aI,.ae aQ,.ae i64,.ae ak,.ae ak,.ae aC,.ae aP,i64,.ae aG,.ae aK,.ae aD,.ae aG,i64,i64]
abbrev rF:List Ty:=[.bool]
def TW:j4:=⟨2,fK Tryz.x74.code 2,[1,2,12,13,14,29,30,31],(Ps [.n .i64,H5,.im aG,.n .i64,.n .i64,.im i64,.n .i64,.n .i64]),[⟨.lN,[1,2,12,13,14],Ps [.n .i64,H5,.im aG,.n .i64,.n .i64]⟩,⟨.rt,[4],Ps [.bo]⟩]⟩
def adQ:List (Nat×cQ):=[]
theorem TX{V:ByteArray->Bool}{ao:aA}(W:WorldC V ao):dc ao (adQ):=.nil
def Gs:List Pl->Lf.T Rs:=TW.step (fun _=>none) (dG (adQ) 3) 3
def adR:fD:=vq TW (Gs) q7 pR rF
theorem TY{V:ByteArray->Bool}{ao:aA}(W:WorldC V ao):ep Rx.w (adR) (fun n d=>gy (ao n d) n (.bl 2 (.lp TW.body))):=jx (W.toWorld.in (TX W) 3) (aE _) (m:=3) q7 pR rF
def ajk:Nat->Option fD:=qg [(2,adR)]
abbrev qj:List Ty:=[i64,.ae aI,.ae aQ,.ae i64,.ae ak,.ae ak,.ae aC,.ae aP,i64,.ae aG,.ae aK,.ae aD,.ae aG,i64,i64]
abbrev nq:List Ty:=[.ae aI,.ae aQ,.ae i64,.ae ak,.ae ak,.ae aC,.ae aP,i64,.ae aG,.ae aK,.ae aD]
abbrev nr:List Ty:=[.bool]
def TZ:j4:=⟨0,fK Tryz.x74.code 0,[1,2,12,13,14],(Ps [.n .i64,H5,.im aG,.n .i64,.n .i64]),[⟨.lN,[2],Ps [H5]⟩,⟨.rt,[4],Ps [.bo]⟩]⟩
def adS:List (Nat×cQ):=[(72,s56)]
theorem T3{V:ByteArray->Bool}{ao:aA}(W:WorldC V ao):dc ao (adS):=(.cons (Gf W.toWorld) .nil)
def Gt:List Pl->Lf.T Rs:=TZ.step ajk (dG (adS) 3) 3
def adT:fD:=vq TZ (Gt) qj nq nr
theorem T4{V:ByteArray->Bool}{ao:aA}(W:WorldC V ao):ep Rx.w (adT) (fun n d=>gy (ao n d) n (.bl 0 (.lp TZ.body))):=jx (W.toWorld.in (T3 W) 3) (fx.jq (.cons (b:=TW.body) (by kernel_rfl) (TY W) .nil)) (m:=3) qj nq nr
abbrev sw:List Ty:=[.ae aI,.ae aQ,.ae i64,.ae ak,.ae ak,.ae aC,.ae aP,i64,.ae aG,.ae aK,.ae aD,.ae aD,i64,i64]
abbrev rG:List Ty:=[]
abbrev pS:List Ty:=[.bool]
def T5:j4:=⟨4,fK Tryz.x74.code 4,[2,41,42,43],(Ps [H5,.im aD,.n .i64,.n .i64]),[⟨.lN,[],.nil⟩,⟨.rt,[4],Ps [.bo]⟩]⟩
def adU:List (Nat×cQ):=[(72,s56)]
theorem T6{V:ByteArray->Bool}{ao:aA}(W:WorldC V ao):dc ao (adU):=(.cons (Gf W.toWorld) .nil)
def JP:List Pl->Lf.T Rs:=T5.step (fun _=>none) (dG (adU) 3) 3
def adV:fD:=vq T5 (JP) sw rG pS
theorem T7{V:ByteArray->Bool}{ao:aA}(W:WorldC V ao):ep Rx.w (adV) (fun n d=>gy (ao n d) n (.bl 4 (.lp T5.body))):=jx (W.toWorld.in (T6 W) 3) (aE _) (m:=3) sw rG pS
def L58:Nat->Option fD:=qg [(0,adT),(4,adV)]
abbrev Om:List Ty:=[.ae aI,.ae aQ,.ae i64,.ae ak,.ae ak,.ae aC,.ae aP,i64,.ae aG,.ae aK,.ae aD,i64]
abbrev D5:List Ty:=[.bool]
def e58:List (Nat×cQ):=[]
theorem Z6{V:ByteArray->Bool}{ao:aA}(W:WorldC V ao):dc ao (e58):=.nil
def t58(x:aj Om):Lf.T (List Pl):=ja (Ps [pM,.n .i64]) [] (Ps [.bo]) L58 Tryz.x74 3 (dG (e58) 3) (aB Om x)
def k58(x:aj Om):Bool:=jP D5 (t58 x)
def m58(x:aj Om):aj D5:=e7 D5 (t58 x)
def s58:cQ:=iw (Ps [pM,.n .i64]) [] (Ps [.bo]) Om D5 fun x=>.ck (k58 x) (.ok (m58 x))
theorem Z7{V:ByteArray->Bool}{ao:aA}(W:WorldC V ao):(s58).Ok 74 ao:=
 eU (W.toWorld.in (Z6 W) 3) (W.toWorld.st 74 _ rfl) rfl (fx.jq (.cons (b:=TZ.body) (by kernel_rfl) (T4 W) (.cons (b:=T5.body) (by kernel_rfl) (T7 W) .nil))) (m:=3) rfl (fun _=>rfl) (fun _=>rfl)
end Go.Proofs.Vd


noncomputable section
namespace Go.Proofs
abbrev Nx:=ByteArray×Int×Int
def ks(s:ByteArray)(ns:List ByteArray):Bool:= @decide (s∈ns) (Classical.propDecidable _)
def ajn(cs:List Int)(xs:List Nx)(k:Nat):Bool:= !(ks (xs.getD k (ByteArray.empty,0,0)).1 ((xs.take k).map Prod.fst))&& !decide (cs.getD (xs.getD k (ByteArray.empty,0,0)).2.1.toNat 0<=(xs.getD k (ByteArray.empty,0,0)).2.2)
def adX(cs:List Int)(xs:List Nx):Bool:=(List.range xs.length).all (ajn cs xs)
end Go.Proofs

noncomputable section
namespace Go.Proofs.Vd
open Go.Ab Go.Ab.Lf
set_option maxRecDepth 100000
def Z8(t:List (den aI))(im:List (den aQ))(fs:List Int)(st:Int):Bool:=bif decide (st= -1)then true else
 bif dP t (dR im fs st)then(bif decide (((cb t (dR im fs st)).1.length:Int)=0)then decide (((cb t (dR im fs st)).2.length:Int)=0)else false)else false
def Z9(ex:List (den aP)):Bool:=decide (ex.length=0)
def On(x:aj V1):Bool:=cf (fun e=>decide (0<=e.2.1)&&decide (e.2.1<=3)) x.2.2.2.2.2.2.1&&((decide (x.2.2.2.2.2.2.2.1<9223372036854775808)&&decide (x.2.1.length<=1099511627776))&&decide (x.2.2.2.2.2.2.1.length<=1099511627776))&&Z9 x.2.2.2.2.2.2.1&&gT x.1
def mNm(x:aj V1):Bool:=bif adX [x.2.2.2.2.2.2.2.2.2.2.2.1,(x.2.2.2.1.length:Int),(x.2.2.2.2.1.length:Int),(x.2.2.2.2.2.1.length:Int)] x.2.2.2.2.2.2.1 then Z8 x.1 x.2.1 x.2.2.1 x.2.2.2.2.2.2.2.1 else false
def s57:cQ:=iw (Ps [pM,.n .i64]) [] (Ps [.bo]) V1 [.bool] fun x=>.ck (On x) (.ok (mNm x,()))
structure WorldN(V:ByteArray->Bool)(ao:aA):Prop extends WorldC V ao where
 nm:s57.Ok 73 ao
abbrev oP:List Ty:=[i64,.ae aI,.ae aQ,.ae i64,.ae ak,.ae ak,.ae aC,.ae aP,i64,.ae aG,.ae aK,.ae aD,i64,i64]
abbrev lZ:List Ty:=[i64,.ae aI,.ae aQ,.ae i64,.ae ak,.ae ak,.ae aC,.ae aP,i64,.ae aG,.ae aK,.ae aD]
abbrev nu:List Ty:=[.bool]
def T8:j4:=⟨0,fK Tryz.x26.code 0,[3,1,18,19],(Ps [.n .i64,H5,.n .i64,.n .i64]),[⟨.lN,[3,1],Ps [.n .i64,H5]⟩,⟨.rt,[2],Ps [.bo]⟩]⟩
def adY:List (Nat×cQ):=[(70,s10)]
theorem T9{V:ByteArray->Bool}{ao:aA}(W:WorldN V ao):dc ao (adY):=(.cons (BL W.toWorldC) .nil)
def f190:List Pl->Lf.T Rs:=T8.step (fun _=>none) (dG (adY) 3) 3
def adZ:fD:=vq T8 (f190) oP lZ nu
theorem Ua{V:ByteArray->Bool}{ao:aA}(W:WorldN V ao):ep Rx.w (adZ) (fun n d=>gy (ao n d) n (.bl 0 (.lp T8.body))):=jx (W.toWorld.in (T9 W) 3) (aE _) (m:=3) oP lZ nu
abbrev q9:List Ty:=[i64,.ae aI,.ae aQ,.ae i64,.ae ak,.ae ak,.ae aC,.ae aP,i64,.ae aG,.ae aK,.ae aD,.ae ak,i64,i64]
abbrev nv:List Ty:=[i64,.ae aI,.ae aQ,.ae i64,.ae ak,.ae ak,.ae aC,.ae aP,i64,.ae aG,.ae aK,.ae aD]
abbrev pT:List Ty:=[.bool]
def Ub:j4:=⟨2,fK Tryz.x26.code 2,[3,1,46,47,48],(Ps [.n .i64,H5,.im ak,.n .i64,.n .i64]),[⟨.lN,[3,1],Ps [.n .i64,H5]⟩,⟨.rt,[2],Ps [.bo]⟩]⟩
def ad0:List (Nat×cQ):=[]
theorem Uc{V:ByteArray->Bool}{ao:aA}(W:WorldN V ao):dc ao (ad0):=.nil
def f192:List Pl->Lf.T Rs:=Ub.step (fun _=>none) (dG (ad0) 3) 3
def ad2:fD:=vq Ub (f192) q9 nv pT
theorem Ud{V:ByteArray->Bool}{ao:aA}(W:WorldN V ao):ep Rx.w (ad2) (fun n d=>gy (ao n d) n (.bl 2 (.lp Ub.body))):=jx (W.toWorld.in (Uc W) 3) (aE _) (m:=3) q9 nv pT
abbrev ra:List Ty:=[i64,.ae aI,.ae aQ,.ae i64,.ae ak,.ae ak,.ae aC,.ae aP,i64,.ae aG,.ae aK,.ae aD,.ae aC,i64,i64]
abbrev ny:List Ty:=[i64,.ae aI,.ae aQ,.ae i64,.ae ak,.ae ak,.ae aC,.ae aP,i64,.ae aG,.ae aK,.ae aD]
abbrev pU:List Ty:=[.bool]
def Ue:j4:=⟨4,fK Tryz.x26.code 4,[3,1,76,77,78],(Ps [.n .i64,H5,.im aC,.n .i64,.n .i64]),[⟨.lN,[3,1],Ps [.n .i64,H5]⟩,⟨.rt,[2],Ps [.bo]⟩]⟩
def ad3:List (Nat×cQ):=[(72,s56)]
theorem Uf{V:ByteArray->Bool}{ao:aA}(W:WorldN V ao):dc ao (ad3):=(.cons (Gf W.toWorld) .nil)
def f194:List Pl->Lf.T Rs:=Ue.step (fun _=>none) (dG (ad3) 3) 3
def c194:fD:=vq Ue (f194) ra ny pU
theorem Ug{V:ByteArray->Bool}{ao:aA}(W:WorldN V ao):ep Rx.w (c194) (fun n d=>gy (ao n d) n (.bl 4 (.lp Ue.body))):=jx (W.toWorld.in (Uf W) 3) (aE _) (m:=3) ra ny pU
def L19:Nat->Option fD:=qg [(0,adZ),(2,ad2),(4,c194)]
abbrev Oo:List Ty:=[.ae aI,.ae aQ,.ae i64,.ae ak,.ae ak,.ae aC,.ae aP,i64,.ae aG,.ae aK,.ae aD]
abbrev wK:List Ty:=[.bool]
def e19:List (Nat×cQ):=[(71,Z2),(73,s57),(74,s58)]
theorem Z'{V:ByteArray->Bool}{ao:aA}(W:WorldN V ao):dc ao (e19):=(.cons (Z3 W.toWorldC) (.cons W.nm (.cons (Z7 W.toWorldC) .nil)))
def t19(x:aj Oo):Lf.T (List Pl):=ja (Ps [pM]) [] (Ps [.bo]) L19 Tryz.x26 3 (dG (e19) 3) (aB Oo x)
def k19(x:aj Oo):Bool:=jP wK (t19 x)
def m19(x:aj Oo):aj wK:=e7 wK (t19 x)
def s19:cQ:=iw (Ps [pM]) [] (Ps [.bo]) Oo wK fun x=>.ck (k19 x) (.ok (m19 x))
theorem aaa{V:ByteArray->Bool}{ao:aA}(W:WorldN V ao):(s19).Ok 26 ao:=
 eU (W.toWorld.in (Z' W) 3) (W.toWorld.st 26 _ rfl) rfl (fx.jq (.cons (b:=T8.body) (by kernel_rfl) (Ua W) (.cons (b:=Ub.body) (by kernel_rfl) (Ud W) (.cons (b:=Ue.body) (by kernel_rfl) (Ug W) .nil)))) (m:=3) rfl (fun _=>rfl) (fun _=>rfl)
abbrev BQ:List Ty:=[.ae aI,.ae aQ,.ae i64,.ae ak,.ae ak,.ae aC,.ae aP,i64,.ae aG,.ae aK,.ae aD,i64,i64]
abbrev vB:List Ty:=[]
abbrev sY:List Ty:=[i64]
def l8x:j4:=⟨0,fK Tryz.x9.code 0,[1,21,22],(Ps [H5,.n .i64,.n .i64]),[⟨.lN,[],.nil⟩,⟨.rt,[2],Ps [.n .i64]⟩]⟩
def e8x:List (Nat×cQ):=[(27,s20)]
theorem aab{V:ByteArray->Bool}{ao:aA}(W:WorldN V ao):dc ao (e8x):=(.cons (Z5 W.toWorldC) .nil)
def f8x:List Pl->Lf.T Rs:=l8x.step (fun _=>none) (dG (e8x) 3) 3
def c8x:fD:=vq l8x (f8x) BQ vB sY
theorem aac{V:ByteArray->Bool}{ao:aA}(W:WorldN V ao):ep Rx.w (c8x) (fun n d=>gy (ao n d) n (.bl 0 (.lp l8x.body))):=jx (W.toWorld.in (aab W) 3) (aE _) (m:=3) BQ vB sY
def L8:Nat->Option fD:=qg [(0,c8x)]
abbrev ti8:List Ty:=[.ae aI,.ae aQ,.ae i64,.ae ak,.ae ak,.ae aC,.ae aP,i64,.ae aG,.ae aK,.ae aD]
abbrev Uh:List Ty:=[i64]
def e8(V:ByteArray->Bool):List (Nat×cQ):=[(25,s18 V),(26,s19)]
theorem ad7{V:ByteArray->Bool}{ao:aA}(W:WorldN V ao):dc ao (e8 V):=(.cons (Zk W.toWorldV) (.cons (aaa W) .nil))
def t8(V:ByteArray->Bool)(x:aj ti8):Lf.T (List Pl):=ja (Ps [pM]) [] (Ps [.n .i64]) L8 Tryz.x9 3 (dG (e8 V) 3) (aB ti8 x)
def k8(V:ByteArray->Bool)(x:aj ti8):Bool:=jP Uh (t8 V x)
def m8(V:ByteArray->Bool)(x:aj ti8):aj Uh:=e7 Uh (t8 V x)
def s8(V:ByteArray->Bool):cQ:=iw (Ps [pM]) [] (Ps [.n .i64]) ti8 Uh fun x=>.ck (k8 V x) (.ok (m8 V x))
theorem ad8{V:ByteArray->Bool}{ao:aA}(W:WorldN V ao):(s8 V).Ok 9 ao:=
 eU (W.toWorld.in (ad7 W) 3) (W.toWorld.st 9 _ rfl) rfl (fx.jq (.cons (b:=l8x.body) (by kernel_rfl) (aac W) .nil)) (m:=3) rfl (fun _=>rfl) (fun _=>rfl)
end Go.Proofs.Vd

noncomputable section
namespace Go.Proofs.Vd
open Go.Ab Go.Ab.Lf
set_option maxRecDepth 100000
abbrev W3:=List Int×List (den cw)×Bool
abbrev wk(y:aj tM)(lo:List Int)(w:W3):aj xh:=(y.1,y.2.1,y.2.2.1,y.2.2.2.1,y.2.2.2.2.1,y.2.2.2.2.2.1,y.2.2.2.2.2.2.1,y.2.2.2.2.2.2.2.1,y.2.2.2.2.2.2.2.2.1,y.2.2.2.2.2.2.2.2.2.1,y.2.2.2.2.2.2.2.2.2.2.1,lo,w.1,w.2.1,w.2.2,())
abbrev pW(y:aj tM)(lo:List Int)(w:W3)(i:den tI):aj Gm:=(y.1,y.2.1,y.2.2.1,y.2.2.2.1,y.2.2.2.2.1,y.2.2.2.2.2.1,y.2.2.2.2.2.2.1,y.2.2.2.2.2.2.2.1,y.2.2.2.2.2.2.2.2.1,y.2.2.2.2.2.2.2.2.2.1,y.2.2.2.2.2.2.2.2.2.2.1,lo,w.1,w.2.1,w.2.2,i.1,i.2.1,i.2.2.1,i.2.2.2.1,i.2.2.2.2.1,i.2.2.2.2.2,())
abbrev Qi(y:aj tM)(lo:List Int)(w:W3)(l:List Int):aj JM:=(y.1,y.2.1,y.2.2.1,y.2.2.2.1,y.2.2.2.2.1,y.2.2.2.2.2.1,y.2.2.2.2.2.2.1,y.2.2.2.2.2.2.2.1,y.2.2.2.2.2.2.2.2.1,y.2.2.2.2.2.2.2.2.2.1,y.2.2.2.2.2.2.2.2.2.2.1,lo,w.1,w.2.1,w.2.2,l,())
abbrev Qj(y:aj tM)(lo:List Int)(w:W3)(n:Int):aj JO:=(y.1,y.2.1,y.2.2.1,y.2.2.2.1,y.2.2.2.2.1,y.2.2.2.2.2.1,y.2.2.2.2.2.2.1,y.2.2.2.2.2.2.2.1,y.2.2.2.2.2.2.2.2.1,y.2.2.2.2.2.2.2.2.2.1,y.2.2.2.2.2.2.2.2.2.2.1,lo,w.1,w.2.1,w.2.2,n,())
end Go.Proofs.Vd

noncomputable section
namespace Go.Proofs.Vd
open Go.Ab Go.Ab.Lf
set_option maxRecDepth 100000
theorem ajq(y:aj tM)(lo:List Int)(w:W3)(n:Int)(B:den cw)(hB:B=w.2.1.getD (bN .i64 (w.2.1.length:Int) 1).toNat (aq cw))(bl:List (den cw))(Yf:bl=(w.2.1.drop 0).take ((bN .i64 (w.2.1.length:Int) 1).toNat - 0))
 (S:List Int×Bool)(hS:S=rV B.2.2.2.1 w.2.1 B.2.2.2.1.length w.1 w.2.2)(b1:Bool)(hb:b1=(S.2|| !decide ((S.1.length:Int)=B.2.1))):
 (t75 (Qj y lo w n)).val=aT (bm (bN .i64 (w.2.1.length:Int) 1) (w.2.1.length:Int)) (aT (decide (B.2.2.2.1.length<=1099511627776)&&okW w.1 w.2.1) (aT (dV 0 (bN .i64 (w.2.1.length:Int) 1) (w.2.1.length:Int))
  (bif b1 then aT (roomy 72 (bl.length+1)) (some (aB BO (wk y lo (S.1,app bl [B],b1))))else
   bif decide (n=5)then aT (decide (bl.length+1<=549755813888)) (aT (decide (S.1.length+B.2.2.1.length<=1099511627776)) (some (aB BO (wk y lo (S.1++B.2.2.1,fe S.1 bl 5 B.2.2.1 B.2.2.2.1,b1)))))else
   bif !decide (B.1=4)then aT (decide (S.1.length+B.2.2.2.1.length<=1099511627776)) (some (aB BO (wk y lo (S.1++B.2.2.2.1,bl,b1|| !true))))else
    aT (decide (B.2.2.1.length<=1099511627776)) (aT (decide (S.1.length+B.2.2.2.1.length<=1099511627776)) (some (aB BO (wk y lo (S.1++B.2.2.2.1,bl,b1|| !decide (B.2.2.1=B.2.2.2.1))))))))):=by
 subst hB;subst Yf;subst hS;subst hb
 kernel_rfl
abbrev wkA(y:aj tM)(lo:List Int)(w:W3)(l uL:List Int)(n:Int):aj wb:=(y.1,y.2.1,y.2.2.1,y.2.2.2.1,y.2.2.2.2.1,y.2.2.2.2.2.1,y.2.2.2.2.2.2.1,y.2.2.2.2.2.2.2.1,y.2.2.2.2.2.2.2.2.1,y.2.2.2.2.2.2.2.2.2.1,y.2.2.2.2.2.2.2.2.2.2.1,lo,w.1,w.2.1,w.2.2,l,uL,n,())
theorem V3(y:aj tM)(lo:List Int)(w:W3)(L uL:List Int)(i:Int):(Og (aB wb (wkA y lo w L uL i))).val=
 bif decide (0<=i)then aT (bm i (L.length:Int)) (aT (okW w.1 w.2.1) (aT (roomy 8 (uL.length+1)) (some (Rs.next (aB wb (wkA y lo ((e9 w.1 w.2.1 w.2.2 (L.getD i.toNat (aq i64))).2.1,w.2.1,(e9 w.1 w.2.1 w.2.2 (L.getD i.toNat (aq i64))).2.2) L (app uL [(e9 w.1 w.2.1 w.2.2 (L.getD i.toNat (aq i64))).1]) (bN .i64 i 1)))))))else some (Rs.out 0 (aB pQ (Qi y lo w uL))):=by kernel_rfl
def Oq{β:Type}(K:List Int->Option β):Nat->Nat->Int->List Int->Option β
 |0,_,_,_=>none
 |f+1,i,j,x=>bif decide ((i:Int)<j)then aT (bm j (x.length:Int)) (aT (bm (i:Int) (x.length:Int)) (aT (bm (i:Int) (x.length:Int)) (aT (bm j ((x.set i (x.getD j.toNat (aq i64))).length:Int)) (Oq K f (i+1) (bN .i64 j 1) ((x.set i (x.getD j.toNat (aq i64))).set j.toNat (x.getD i (aq i64)))))))else K x
theorem ajr(y:aj tM)(lo:List Int)(w:W3)(L:List Int)(z:aj pQ)(hz:z=gP Og wb pQ (wkA y lo w L [] (bN .i64 (L.length:Int) 1))):(t85 (Qi y lo w L)).val=
 aT (qh Og wb pQ (wkA y lo w L [] (bN .i64 (L.length:Int) 1))) (Oq (fun x=>aT (decide (z.2.2.2.2.2.2.2.2.2.2.2.2.1.length+x.length<=1099511627776)) (some (aB D2 (z.1,z.2.1,z.2.2.1,z.2.2.2.1,z.2.2.2.2.1,z.2.2.2.2.2.1,z.2.2.2.2.2.2.1,z.2.2.2.2.2.2.2.1,z.2.2.2.2.2.2.2.2.1,z.2.2.2.2.2.2.2.2.2.1,z.2.2.2.2.2.2.2.2.2.2.1,z.2.2.2.2.2.2.2.2.2.2.2.1,z.2.2.2.2.2.2.2.2.2.2.2.2.1++x,z.2.2.2.2.2.2.2.2.2.2.2.2.2.1,z.2.2.2.2.2.2.2.2.2.2.2.2.2.2.1,())))) 18 0 (bN .i64 (z.2.2.2.2.2.2.2.2.2.2.2.2.2.2.2.1.length:Int) 1) z.2.2.2.2.2.2.2.2.2.2.2.2.2.2.2.1):=by
 subst hz
 kernel_rfl
abbrev bW(w:W3)(t:Int):W3:=((e9 w.1 w.2.1 w.2.2 t).2.1,w.2.1,(e9 w.1 w.2.1 w.2.2 t).2.2)
abbrev fG(w:W3)(L:List Int):W3:=((rV L w.2.1 L.length w.1 w.2.2).1,w.2.1,(rV L w.2.1 L.length w.1 w.2.2).2)
abbrev sZ(w:W3):W3:=(w.1.take (dy w.2.1).2.1.toNat,w.2.1.set (w.2.1.length - 1) (uE (dy w.2.1)),w.2.2)
abbrev wL(w:W3)(l:Int):W3:=(w.1,w.2.1,bif decide ((w.2.1.length:Int)<=l)then true else w.2.2)
abbrev l8(w:W3)(L:List Int):W3:=(w.1++L,w.2.1,w.2.2)
abbrev fW(w:W3)(c:Bool):W3:=(w.1,w.2.1,w.2.2|| !c)
abbrev cW(w:W3):Bool:=okW w.1 w.2.1
abbrev cT(w:W3)(L:List Int):Bool:=decide (L.length<=1099511627776)&&okW w.1 w.2.1
abbrev cG(w:W3)(L:List Int):Bool:=decide (w.1.length+L.length<=1099511627776)
abbrev cL(w:W3)(l:Int):Bool:=decide (0<=l)&&decide (w.2.1.length<=1099511627776)
theorem ajs(y:aj tM)(lo:List Int)(w:W3)(i:den tI):(t86 (pW y lo w i)).val=
 (let gl:=y.2.2.2.2.2.1
 let R:=fun(t:Int) (ok:Bool)=>bif (bif !decide (i.1=32)then !decide (i.1=35)else false)then aT (cW w) (bif (bif !decide (i.1=33)then !decide (i.1=36)else false)then aT (cG (bW (fW w ok) t) [t]) (some (aB uG (wk y lo (l8 (bW (fW w ok) t) [t]))))else some (aB uG (wk y lo (bW (fW w ok) t))))
  else bif (bif !decide (i.1=33)then !decide (i.1=36)else false)then aT (cG w [t]) (some (aB uG (wk y lo (l8 (fW w ok) [t]))))else some (aB uG (wk y lo (fW w ok)))
 let G:=aT (bm i.2.1 (gl.length:Int)&&bif decide (i.1=35)then true else bm i.2.1 (gl.length:Int)) (R (bif decide (i.1=35)then(gl.getD i.2.1.toNat (aq aC)).1 else(gl.getD i.2.1.toNat (aq aC)).1) (bif decide (i.1=35)then true else(gl.getD i.2.1.toNat (aq aC)).2.1))
 bif (bif decide (i.1<=34)then decide (i.2.1<(lo.length:Int))else false)then aT (bm i.2.1 (lo.length:Int)) (bif (bif decide (34<i.1)then decide (i.2.1<(gl.length:Int))else false)then G else R (lo.getD i.2.1.toNat (aq i64)) true)
  else bif (bif decide (34<i.1)then decide (i.2.1<(gl.length:Int))else false)then G else R 0 false):=by kernel_rfl
abbrev wkJ(y:aj tM)(lo:List Int)(w:W3)(last l:List Int)(n i:Int):aj uH:=(y.1,y.2.1,y.2.2.1,y.2.2.2.1,y.2.2.2.2.1,y.2.2.2.2.2.1,y.2.2.2.2.2.2.1,y.2.2.2.2.2.2.2.1,y.2.2.2.2.2.2.2.2.1,y.2.2.2.2.2.2.2.2.2.1,y.2.2.2.2.2.2.2.2.2.2.1,lo,w.1,w.2.1,w.2.2,last,l,n,i,())
theorem V4(y:aj tM)(lo:List Int)(w:W3)(last L:List Int)(n i:Int)(l:Int)(hl:l=L.getD i.toNat (aq i64))(u:W3)(hu:u=fW (wL w l) (decide (((iK w.2.1 l).length:Int)=(last.length:Int))))(z:aj D2)(hz:z=m85 (Qi y lo u (iK w.2.1 l))):(JN (aB uH (wkJ y lo w last L n i))).val=
 bif decide (i<n)then aT (bm i (L.length:Int)) (aT (cL w l) (aT (k85 (Qi y lo u (iK w.2.1 l))) (some (Rs.next (aB uH (z.1,z.2.1,z.2.2.1,z.2.2.2.1,z.2.2.2.2.1,z.2.2.2.2.2.1,z.2.2.2.2.2.2.1,z.2.2.2.2.2.2.2.1,z.2.2.2.2.2.2.2.2.1,z.2.2.2.2.2.2.2.2.2.1,z.2.2.2.2.2.2.2.2.2.2.1,z.2.2.2.2.2.2.2.2.2.2.2.1,z.2.2.2.2.2.2.2.2.2.2.2.2.1,z.2.2.2.2.2.2.2.2.2.2.2.2.2.1,z.2.2.2.2.2.2.2.2.2.2.2.2.2.2.1,last,L,n,cr .i64 i 1,()))))))
 else some (Rs.out 0 (aB nn (Qi y lo w last))):=by
 subst hz;subst hu;subst hl
 kernel_rfl
theorem aea(y:aj tM)(lo:List Int)(w:W3)(i:den tI)(u:W3)(hu:u=wL (bW w 127) i.2.1)(T:List Int)(hT:T=iK w.2.1 i.2.1)(z:aj nn)(hz:z=gP JN uH nn (wkJ y lo u T i.2.2.2.2.2 (i.2.2.2.2.2.length:Int) 0)):(t77 (pW y lo w i)).val=
 (let D:=fun v:W3=>aT (cW v) (some (aB yW (wk y lo (sZ v))))
 bif decide (i.1=0)then D w else
 bif decide (i.1=12)then aT (cL w i.2.1) (aT (cT (wL w i.2.1) T) (D (fG (wL w i.2.1) T)))else
 bif decide (i.1=13)then aT (cW w) (aT (cL (bW w 127) i.2.1) (aT (cT u T) (aT (cG (fG u T) T) (some (aB yW (wk y lo (l8 (fG u T) T)))))))else
 bif decide (i.1=14)then aT (cW w) (aT (cL (bW w 127) i.2.1) (aT (qh JN uH nn (wkJ y lo u T i.2.2.2.2.2 (i.2.2.2.2.2.length:Int) 0)) (
  let v:W3:=(z.2.2.2.2.2.2.2.2.2.2.2.2.1,z.2.2.2.2.2.2.2.2.2.2.2.2.2.1,z.2.2.2.2.2.2.2.2.2.2.2.2.2.2.1)
  let S:=fG v z.2.2.2.2.2.2.2.2.2.2.2.2.2.2.2.1
  aT (cT v z.2.2.2.2.2.2.2.2.2.2.2.2.2.2.2.1) (aT (cW S) (some (aB yW (z.1,z.2.1,z.2.2.1,z.2.2.2.1,z.2.2.2.2.1,z.2.2.2.2.2.1,z.2.2.2.2.2.2.1,z.2.2.2.2.2.2.2.1,z.2.2.2.2.2.2.2.2.1,z.2.2.2.2.2.2.2.2.2.1,z.2.2.2.2.2.2.2.2.2.2.1,z.2.2.2.2.2.2.2.2.2.2.2.1,(sZ S).1,(sZ S).2.1,(sZ S).2.2,())))))))else
 bif decide (i.1=15)then aT (bm 0 (w.2.1.length:Int)) (let O:=(w.2.1.getD 0 (aq cw)).2.2.2.1;aT (cT w O) (D (fG w O)))else
 aT (k86 (pW y lo w i)) (some (aB yW (m86 (pW y lo w i))))):=by
 subst hz;subst hu;subst hT
 kernel_rfl
end Go.Proofs.Vd
