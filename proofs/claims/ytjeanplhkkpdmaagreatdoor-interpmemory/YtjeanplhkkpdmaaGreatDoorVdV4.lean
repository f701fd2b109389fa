import Derived.Test.YtjeanplhkkpdmaaGreatDoorVdW
import Derived.Test.YtjeanplhkkpdmaaGreatDoorLfG
noncomputable section
namespace Go.Proofs.Vd
open Go.Ab Go.Ab.Lf
set_option maxRecDepth 100000
abbrev WO:List Ty:=[.ca i64,.ca i64,.ca cF,.ca cR,.ca i64,.ca cq,.ca cq,.ca cI,.ca cQ,i64,.ca cJ,.ca cK,.ca cN,.ca i64,.ca i64,.ca iF,.bool]
def kg(t:List (den cF))(l:Int):den cF:=bif decide (0<=l)then iB t l else bif decide (l= -64)then([],[])else([],[iA .i64 l 128])
def oB(t:List (den cF))(l:Int)(bad:Bool):Bool:=bif decide (0<=l)then bad|| !(jh t l)else bad
def e74:List (Nat×iK):=[(75,s21),(173,ZF)]
theorem adt{V:ByteArray->Bool}{cf:cg}(W:WorldC V cf):jd cf e74:=.cons (Iv W) (.cons (vD W.toWorld) .nil)
def s74:iK:=kf (Ps [mV 0,.n .i64]) [14] (Ps [.ag (Ps [.ow i64,.ow i64]),mV 14]) LZ WO fun x=>match x with
 |(t,im,fs,tb,me,gl,ex,st,el,co,da,lo,iR,bl,bad,l,_)=>.ck (gT t) (.ok ((kg t l).1,(kg t l).2,t,im,fs,tb,me,gl,ex,st,el,co,da,lo,iR,bl,oB t l bad,()))
theorem adu(t:List (den cF))(im:List (den cR))(fs:List Int)(tb me:List (den cq))(gl:List (den cI))(ex:List (den cQ))(st:Int)(el:List (den cJ))(co:List (den cK))(da:List (den cN))(lo iR:List Int)(bl:List (den iF))(bad:Bool)(l:Int):(kO (Ps [mV 0,.n .i64]) [14] (Ps [.ag (Ps [.ow i64,.ow i64]),mV 14]) (fun _=>none) Tryz.ahi 3 (je e74 3) (cp LZ (t,im,fs,tb,me,gl,ex,st,el,co,da,lo,iR,bl,bad,l,()))).val=
 bif decide (0<=l)then cz (gT t)<|some (cp WO ((iB t l).1,(iB t l).2,t,im,fs,tb,me,gl,ex,st,el,co,da,lo,iR,bl,bad|| !(jh t l),()))else bif decide (l= -64)then some (cp WO ([],[],t,im,fs,tb,me,gl,ex,st,el,co,da,lo,iR,bl,bad,()))else some (cp WO ([],[iA .i64 l 128],t,im,fs,tb,me,gl,ex,st,el,co,da,lo,iR,bl,bad,())):=by kernel_rfl
theorem adv{V:ByteArray->Bool}{cf:cg}(W:WorldC V cf):s74.Ok 171 cf:=by
 refine iI (W.toWorld.in (adt W) 3) (W.st 171 _ rfl) rfl (cu _) (m:=3) rfl ?_
 rintro⟨t,im,fs,tb,me,gl,ex,st,el,co,da,lo,iR,bl,bad,l,⟨⟩⟩ q h
 obtain⟨h0,h⟩:=Lf.T.cy h
 cases h
 rw[adu,h0]
 unfold kg oB
 cases decide (0<=l)<;>cases decide (l= -64)<;>rfl
abbrev tOp:List Ty:=[.ca cF,.ca cR,.ca i64,.ca cq,.ca cq,.ca cI,.ca cQ,i64,.ca cJ,.ca cK,.ca cN,.ca i64,.ca i64,.ca iF,.bool,i64,.ca i64,.ca i64]
def yo(bl:List (den iF)):Bool:=bif decide ((0:Int)<(bl.length:Int))then(bif (iY bl).2.2.2.2.2 then !(iY bl).2.2.2.2.1 else false)else true
def jR(iR:List Int)(bl:List (den iF))(op:Int)(i o:List Int):List (den iF):=bl++[(op,(iR.length:Int),i,o,false,yo bl)]
def s60:iK:=kf (Ps [mV 0,.n .i64,.ag (Ps [.im i64,.im i64])]) [14] (Ps [.tu .nil,mV 14]) tOp zu fun x=>match x with
 |(t,im,fs,tb,me,gl,ex,st,el,co,da,lo,iR,bl,bad,op,i,o,_)=>.ck (decide (bl.length+1<=549755813888)) (.ok (t,im,fs,tb,me,gl,ex,st,el,co,da,lo,iR,jR iR bl op i o,bad,()))
theorem adw(t:List (den cF))(im:List (den cR))(fs:List Int)(tb me:List (den cq))(gl:List (den cI))(ex:List (den cQ))(st:Int)(el:List (den cJ))(co:List (den cK))(da:List (den cN))(lo iR:List Int)(bl:List (den iF))(bad:Bool)(op:Int)(i o:List Int):(kO (Ps [mV 0,.n .i64,.ag (Ps [.im i64,.im i64])]) [14] (Ps [.tu .nil,mV 14]) (fun _=>none) Tryz.ahd 3 (je [] 3) (cp tOp (t,im,fs,tb,me,gl,ex,st,el,co,da,lo,iR,bl,bad,op,i,o,()))).val=
 bif decide ((0:Int)<(bl.length:Int))then bif ij (il .i64 (bl.length:Int) 1) (bl.length:Int)then bif (bl.getD (il .i64 (bl.length:Int) 1).toNat (cr iF)).2.2.2.2.2 then bif ij (il .i64 (bl.length:Int) 1) (bl.length:Int)then
  bif roomy 72 (bl.length+1)then some (cp zu (t,im,fs,tb,me,gl,ex,st,el,co,da,lo,iR,app bl [(op,(iR.length:Int),i,o,false,!(bl.getD (il .i64 (bl.length:Int) 1).toNat (cr iF)).2.2.2.2.1)],bad,()))else none else none
  else bif roomy 72 (bl.length+1)then some (cp zu (t,im,fs,tb,me,gl,ex,st,el,co,da,lo,iR,app bl [(op,(iR.length:Int),i,o,false,false)],bad,()))else none else none
 else bif roomy 72 (bl.length+1)then some (cp zu (t,im,fs,tb,me,gl,ex,st,el,co,da,lo,iR,app bl [(op,(iR.length:Int),i,o,false,true)],bad,()))else none:=by kernel_rfl
theorem Iw{cf:cg}(W:World cf):s60.Ok 141 cf:=by
 refine iI (W.in .nil 3) (W.st 141 _ rfl) rfl (cu _) (m:=3) rfl ?_
 rintro⟨t,im,fs,tb,me,gl,ex,st,el,co,da,lo,iR,bl,bad,op,i,o,⟨⟩⟩ q h
 obtain⟨h1,h2⟩:=Lf.T.cy h
 cases h2
 have h1:bl.length+1<=549755813888:=of_decide_eq_true h1
 have hr:roomy 72 (bl.length+1)=true:=by
  rw[pH]
  constructor<;>omega
 rw[adw,hr]
 simp only[cX]
 show _=some (cp zu (t,im,fs,tb,me,gl,ex,st,el,co,da,lo,iR,jR iR bl op i o,bad,()))
 unfold jR yo
 by_cases h0:0<bl.length
 ·have hb:ij ((bl.length - 1:Nat):Int) (bl.length:Int)=true:=iX (by omega)
  rw[DL h0 (by omega),hb,decide_eq_true (show(0:Int)<(bl.length:Int) by omega),Int.toNat_natCast]
  rw[show bl.getD (bl.length - 1) (cr iF)=iY bl from rfl]
  cases(iY bl).2.2.2.2.2<;>simp only[cond_true,cond_false]
 ·rw[decide_eq_false (show ¬ (0:Int)<(bl.length:Int) by omega)]
  simp only[cond_true,cond_false]
end Go.Proofs.Vd

noncomputable section
namespace Go.Proofs.Vd
open Go.Ab Go.Ab.Lf
set_option maxRecDepth 100000
abbrev tLb:List Ty:=[.ca i64,.ca cF,.ca cR,.ca i64,.ca cq,.ca cq,.ca cI,.ca cQ,i64,.ca cJ,.ca cK,.ca cN,.ca i64,.ca i64,.ca iF,.bool]
def s84:iK:=kf (Ps [mV 0,.n .i64]) [14] (Ps [.im i64,mV 14]) LZ tLb fun x=>match x with
 |(t,im,fs,tb,me,gl,ex,st,el,co,da,lo,iR,bl,bad,l,_)=>.ck (decide (0<=l)&&decide (bl.length<=1099511627776)) (.ok (lN bl l,t,im,fs,tb,me,gl,ex,st,el,co,da,lo,iR,bl,bif decide ((bl.length:Int)<=l)then true else bad,()))
theorem adx(t:List (den cF))(im:List (den cR))(fs:List Int)(tb me:List (den cq))(gl:List (den cI))(ex:List (den cQ))(st:Int)(el:List (den cJ))(co:List (den cK))(da:List (den cN))(lo iR:List Int)(bl:List (den iF))(bad:Bool)(l:Int):(kO (Ps [mV 0,.n .i64]) [14] (Ps [.im i64,mV 14]) (fun _=>none) Tryz.ahl 3 (je [] 3) (cp LZ (t,im,fs,tb,me,gl,ex,st,el,co,da,lo,iR,bl,bad,l,()))).val=
 bif decide ((bl.length:Int)<=l)then some (cp tLb ([],t,im,fs,tb,me,gl,ex,st,el,co,da,lo,iR,bl,true,()))else bif ij (il .i64 (il .i64 (Int.ofNat bl.length) 1) l) (Int.ofNat bl.length)then
  bif decide ((bl.getD (il .i64 (il .i64 (Int.ofNat bl.length) 1) l).toNat (cr iF)).1=3)then some (cp tLb ((bl.getD (il .i64 (il .i64 (Int.ofNat bl.length) 1) l).toNat (cr iF)).2.2.1,t,im,fs,tb,me,gl,ex,st,el,co,da,lo,iR,bl,bad,()))
  else some (cp tLb ((bl.getD (il .i64 (il .i64 (Int.ofNat bl.length) 1) l).toNat (cr iF)).2.2.2.1,t,im,fs,tb,me,gl,ex,st,el,co,da,lo,iR,bl,bad,()))else none:=by kernel_rfl
theorem ZJ{l:Int}{n:Nat}(h0:0<=l)(h1: ¬ (n:Int)<=l)(hn:n<=1099511627776):ij (il .i64 (il .i64 (Int.ofNat n) 1) l) (Int.ofNat n)=true:=by
 have e1:il .i64 (Int.ofNat n) 1=(n:Int) - 1:=by
  show ja .i64 ((n:Int) - 1)=_
  exact wrap_i64 (by omega) (by omega)
 have e2:il .i64 ((n:Int) - 1) l=(n:Int) - 1 - l:=by
  show ja .i64 ((n:Int) - 1 - l)=_
  exact wrap_i64 (by omega) (by omega)
 rw[e1,e2]
 exact lI.2 ⟨by omega,by show(n:Int) - 1 - l<(n:Int);omega⟩
theorem QK{cf:cg}(W:World cf):s84.Ok 195 cf:=by
 refine iI (W.in .nil 3) (W.st 195 _ rfl) rfl (cu _) (m:=3) rfl ?_
 rintro⟨t,im,fs,tb,me,gl,ex,st,el,co,da,lo,iR,bl,bad,l,⟨⟩⟩ q h
 obtain⟨h1,h2⟩:=Lf.T.cy h
 cases h2
 simp only[Bool.and_eq_true,decide_eq_true_eq]at h1
 rw[adx]
 show _=some (cp tLb (lN bl l,t,im,fs,tb,me,gl,ex,st,el,co,da,lo,iR,bl,bif decide ((bl.length:Int)<=l)then true else bad,()))
 unfold lN
 by_cases hl:(bl.length:Int)<=l
 ·rw[decide_eq_true hl]
  simp only[cond_true]
 ·rw[decide_eq_false hl,ZJ h1.1 hl h1.2]
  simp only[cond_true,cond_false]
  cases decide ((bl.getD (il .i64 (il .i64 (Int.ofNat bl.length) 1) l).toNat (cr iF)).1=3)<;>simp only[cond_true,cond_false]
abbrev t82:List Ty:=[.ca i64,.ca i64,i64,i64]
def l82:oF:=⟨0,kP Tryz.aca.code 0,[0,1,12,13],Ps [.im i64,.im i64,.n .i64,.n .i64],[⟨.qS,[],.nil⟩,⟨.rt,[4],Ps [.bo]⟩]⟩
theorem A'(a b:List Int)(n i:Int):(l82.step (fun _=>none) (je [] 3) 3 (cp t82 (a,b,n,i,()))).val=
 bif decide (i<n)then bif (ij i (Int.ofNat a.length)&&ij i (Int.ofNat b.length))then bif !decide (a.getD i.toNat (cr i64)=b.getD i.toNat (cr i64))then some (Rs.out 1 (cp [.bool] (false,())))else some (Rs.next (cp t82 (a,b,n,iA .i64 i 1,())))else none else some (Rs.out 0 (cp [] ())):=by kernel_rfl
theorem J7(a b:List Int)(n:Nat)(hn:n<=1099511627776): ∀ (k:Nat) (j:Nat),j+k=n->a.length=n->b.length=n->(∀ i,i<j->a.getD i (cr i64)=b.getD i (cr i64))->
 mm (l82.step (fun _=>none) (je [] 3) 3) (cp t82 (a,b,(n:Int),(j:Int),())) (bif decide (a=b)then 0 else 1) (bif decide (a=b)then cp [] ()else cp [.bool] (false,()))
 |0,j,hj,ha,hb,h=>by
  have hab:a=b:=by
   apply List.ext_getElem (ha.trans hb.symm)
   intro i h1 h2
   have:=h i (by omega)
   rw[List.getD_eq_getElem?_getD,List.getD_eq_getElem?_getD,List.getElem?_eq_getElem h1,List.getElem?_eq_getElem h2]at this
   exact this
  rw[decide_eq_true hab]
  refine .last ?_
  rw[A',iQ (by omega)]
  rfl
 |k+1,j,hj,ha,hb,h=>by
  have hx:(ij (j:Int) (Int.ofNat a.length)&&ij (j:Int) (Int.ofNat b.length))=true:=by
   rw[iX (by omega),iX (by omega)];rfl
  by_cases hq:a.getD j (cr i64)=b.getD j (cr i64)
  ·refine .more ?_ (J7 a b n hn k (j+1) (by omega) ha hb (fun i hi=>by
    by_cases e:i=j
    ·subst e;exact hq
    ·exact h i (by omega)))
   rw[A',jq (by omega),hx,Int.toNat_natCast,decide_eq_true hq,nQ (by omega)]
   rfl
  ·have hab: ¬ a=b:=fun e=>hq (by rw[e])
   rw[decide_eq_false hab]
   refine .last ?_
   rw[A',jq (by omega),hx,Int.toNat_natCast,decide_eq_false hq]
   rfl
def g82:cb t82->T (Nat×List Pl):=fun x=>.ck ((decide (x.2.2.1=(x.1.length:Int))&&decide (x.2.2.2.1=0))&&(decide (x.2.1.length=x.1.length)&&decide (x.1.length<=1099511627776))) (.br (decide (x.1=x.2.1)) (.ok (0,cp [] ())) (.ok (1,cp [.bool] (false,()))))
theorem adz(x:cb t82)(k:Nat)(q:List Pl)(h:(g82 x).val=some (k,q)):mm (l82.step (fun _=>none) (je [] 3) 3) (cp t82 x) k q:=by
 obtain⟨a,b,n,i,⟨⟩⟩:=x
 obtain⟨h1,h2⟩:=Lf.T.cy h
 simp only[Bool.and_eq_true,decide_eq_true_eq]at h1
 obtain⟨⟨b1,b2⟩,b3,b4⟩:=h1
 subst b1;subst b2
 have:=J7 a b a.length b4 a.length 0 (by omega) rfl b3 (fun i hi=>absurd hi (Nat.not_lt_zero i))
 rw[Lf.T.jo]at h2
 cases hd:decide (a=b)with
 |true=>
  have Lh:decide ((a,b,(a.length:Int),(0:Int),()).1=(a,b,(a.length:Int),(0:Int),()).2.1)=true:=hd
  rw[hd]at this
  simp only[hd,cond_true]at h2
  cases h2
  exact this
 |false=>
  rw[hd]at this
  simp only[hd,cond_false]at h2
  cases h2
  exact this
def L82:Nat->Option kE:=tO [(0,so l82 t82 g82)]
def s82:iK:=kf (Ps [.im i64,.im i64]) [] (Ps [.bo]) [.ca i64,.ca i64] [.bool] fun x=>.ck (decide (x.1.length<=1099511627776)) (.ok (decide (x.1=x.2.1),()))
theorem adA(a b:List Int):(kO (Ps [.im i64,.im i64]) [] (Ps [.bo]) L82 Tryz.aca 3 (je [] 3) (cp [.ca i64,.ca i64] (a,b,()))).val=
 bif !decide ((a.length:Int)=(b.length:Int))then some (cp [.bool] (false,()))else bif (decide ((a.length:Int)=(a.length:Int))&&decide ((0:Int)=0))&&(decide (b.length=a.length)&&decide (a.length<=1099511627776))then
  bif decide (a=b)then some (cp [.bool] (true,()))else some (cp [.bool] (false,()))else none:=by kernel_rfl
theorem adB{cf:cg}(W:World cf):s82.Ok 193 cf:=by
 have C:=W.in .nil 3
 have hl:jU Rx.w (so l82 t82 g82) (fun n d=>ly (cf n d) n (.bl 0 (.lp l82.body))):=lK C (cu _) (m:=3) adz
 refine iI C (W.st 193 _ rfl) rfl (L:=L82) (ku.nh (.cons (b:=l82.body) (by kernel_rfl) hl .nil)) (m:=3) rfl ?_
 rintro⟨a,b,⟨⟩⟩ q h
 obtain⟨h1,h2⟩:=Lf.T.cy h
 cases h2
 have h1:a.length<=1099511627776:=of_decide_eq_true h1
 rw[adA]
 show _=some (cp [.bool] (decide (a=b),()))
 by_cases hl:a.length=b.length
 ·rw[decide_eq_true (show(a.length:Int)=(b.length:Int) by omega),decide_eq_true hl.symm,decide_eq_true h1]
  simp only[decide_true,Bool.and_self,Bool.not_true,cond_false,cond_true]
  cases decide (a=b)<;>simp only[cond_true,cond_false]
 ·rw[decide_eq_false (show ¬ (a.length:Int)=(b.length:Int) by omega),decide_eq_false (show ¬ a=b from fun e=>hl (by rw[e]))]
  simp only[Bool.not_false,cond_true]
end Go.Proofs.Vd

noncomputable section
namespace Go.Ab.Lf
def QL(to:List Ty)(t:T (List Pl)):Bool:=
 T.rec (motive:=fun _=>Bool) false (fun l=>(toT to l).isSome) (fun _ _ _ a b=>a&&b) (fun _ _ a=>a) t
def Ix(t:T (List Pl)):List Bool:=T.rec (motive:=fun _=>List Bool) [] (fun _=>[]) (fun _ _ _ a b=>app a b) (fun c _ a=>c::a) t
theorem zw{to:List Ty}: ∀ {t:T (List Pl)},QL to t=true->(∀ c,c∈Ix t->c=true)->nA to t=true
 | .bad,h,_=>by cases h
 | .ok l,h,_=>zq (t:=.ok l) h
 | .br c a b,h,k=>by
  have h:(QL to a&&QL to b)=true:=h
  have k: ∀ d,d∈app (Ix a) (Ix b)->d=true:=k
  rw[cX]at k
  obtain⟨h1,h2⟩:=Bool.and_eq_true_iff.1 h
  have q1:=zw h1 fun d hd=>k d (List.mem_append_left _ hd)
  have q2:=zw h2 fun d hd=>k d (List.mem_append_right _ hd)
  unfold nA at*
  rw[T.jo]
  cases c
  ·exact q2
  ·exact q1
 | .ck c a,h,k=>by
  have h:QL to a=true:=h
  have k: ∀ d,d∈c::Ix a->d=true:=k
  have q1:=zw h fun d hd=>k d (List.mem_cons_of_mem _ hd)
  have hc:c=true:=k c (List.mem_cons_self ..)
  subst hc
  unfold nA at*
  rw[T.nv]
  exact q1
theorem ahA{call:jH}{cf:cg}(C:rq call cf){f:FuncId}{b:xF}(hb:qa cf f b)(s7:Nat.ble b.ntmps 512=true){L:Nat->Option kE}(hL:nh Rx.w cf L b.code){m:Nat}{P:lV}{ptr:List Nat}{Q:lV}{ti to:List Ty}{out:cb ti->cb to}{g:cb ti->Bool}
 (h0:iD (fun g=> !(Nat.beq g 0)) ptr=true)(h1: ∀ x,QL to (kO P ptr Q L b m call (cp ti x))=true)(hc: ∀ x,g x=true-> ∀ c,c∈Ix (kO P ptr Q L b m call (cp ti x))->c=true)(h2: ∀ x,out x=jP to (kO P ptr Q L b m call (cp ti x))):(kf P ptr Q ti to fun x=>.ck (g x) (.ok (out x))).Ok f cf:=by
 refine iI C hb s7 hL (m:=m) h0 fun x y h=>?_
 obtain⟨k1,k2⟩:=T.cy h
 cases k2
 rw[h2]
 exact tP (zw (h1 x) (hc x k1))
end Go.Ab.Lf
namespace Go.Proofs.Vd
open Go.Ab Go.Ab.Lf
set_option maxRecDepth 100000
abbrev tFi:List Ty:=[.ca cF,.ca cR,.ca i64,.ca cq,.ca cq,.ca cI,.ca cQ,i64,.ca cJ,.ca cK,.ca cN,.ca i64,.ca i64,.ca iF,.bool,i64,i64,i64,u64,u64,.ca i64,i64,i64,.bool,.ca i64,.ca i64]
abbrev ahB:lV:=.ag (Ps [.n .i64,.n .i64,.bo,.im i64,.im i64])
def e70:List (Nat×iK):=[(173,ZF),(39,s81)]
theorem adC{cf:cg}(W:World cf):jd cf e70:=.cons (vD W) (.cons (Qd W) .nil)
def t70(x:cb tFi):Lf.T (List Pl):=kO (Ps [mV 0,pI,ahB]) [14] (Ps [.tu .nil,mV 14]) (fun _=>none) Tryz.ahf 20 (je e70 20) (cp tFi x)
def WQ(x:cb tFi):cb zu:=jP zu (t70 x)
def WR(x:cb tFi):Bool:=match x with
 |(t,im,fs,tb,me,gl,ex,st,el,co,da,lo,iR,bl,bad,_,_,_,_,_,_,_,uJ,_,_,_,_)=>decide (0<=uJ)
def s70:iK:=kf (Ps [mV 0,pI,ahB]) [14] (Ps [.tu .nil,mV 14]) tFi zu fun x=>.ck (WR x) (.ok (WQ x))
theorem adD{cf:cg}(W:World cf):s70.Ok 167 cf:=by
 refine ahA (W.in (adC W) 20) (W.st 167 _ rfl) rfl (cu _) (m:=20) rfl ?_ ?_ (fun _=>rfl)
 ·rintro⟨t,im,fs,tb,me,gl,ex,st,el,co,da,lo,iR,bl,bad,o,a,b,l1,l2,l,f,uJ,pl,i2,o2,⟨⟩⟩
  kernel_rfl
 ·rintro⟨t,im,fs,tb,me,gl,ex,st,el,co,da,lo,iR,bl,bad,o,a,b,l1,l2,l,f,uJ,pl,i2,o2,⟨⟩⟩ h c hc
  have e:Ix (t70 (t,im,fs,tb,me,gl,ex,st,el,co,da,lo,iR,bl,bad,o,a,b,l1,l2,l,f,uJ,pl,i2,o2,()))=List.replicate 6 (decide (0<=uJ)):=by kernel_rfl
  have hc:c∈Ix (t70 (t,im,fs,tb,me,gl,ex,st,el,co,da,lo,iR,bl,bad,o,a,b,l1,l2,l,f,uJ,pl,i2,o2,())):=hc
  rw[e]at hc
  exact(List.eq_of_mem_replicate hc).trans h
end Go.Proofs.Vd

noncomputable section
namespace Go.Proofs.Vd
open Go.Ab Go.Ab.Lf
set_option maxRecDepth 100000
def Wx(n:Nat)(F:rA)(bs:List Int)(p:Bool):Prop:=bs.length<=n/\ ∀ s:St,s.1.length+n<=1099511627776-> ∀ (α:Type) (K:St->Option α),F α s K=K (s.1++bs,s.2|| !p)
section
variable {n m:Nat}{F G:rA}{bs cs:List Int}{p q:Bool}
theorem Wx.le(h:Wx n F bs p)(hm:n<=m):Wx m F bs p:=⟨Nat.le_trans h.1 hm,fun s hs=>h.2 s (by omega)⟩
theorem Wx.seq(h1:Wx n F bs p)(h2:Wx m G cs q):Wx (n+m) (fun α s K=>F α s fun s=>G α s K) (bs++cs) (p&&q):=by
 refine⟨?_,fun s hs α K=>?_⟩
 ·have:=h1.1
  have:=h2.1
  simp only[List.length_append]
  omega
 ·show F α s _=_
  have l1:=h1.1
  rw[h1.2 s (by omega)]
  show G α (s.1++bs,s.2|| !p) K=_
  rw[h2.2 (s.1++bs,s.2|| !p) (by simp only[List.length_append];omega)]
  have e:(s.2|| !p|| !q)=(s.2|| !(p&&q)):=by cases s.2<;>cases p<;>cases q<;>rfl
  simp only[List.append_assoc,e]
theorem Wx.bif{c:Bool}(h1:Wx n F bs p)(h2:Wx n G cs q):Wx n (fun α s K=>bif c then F α s K else G α s K) (bif c then bs else cs) (bif c then p else q):=by
 cases c
 ·exact h2
 ·exact h1
theorem Wx.eq(h:Wx n F bs p)(e1:bs=cs)(e2:p=q):Wx n F cs q:=by subst e1;subst e2;exact h
theorem Wx.mw(h:Wx n F bs p){s:St}(hs:s.1.length+n<=1099511627776):mW F s=(s.1++bs,s.2|| !p):=by
 unfold mW
 rw[h.2 s hs]
 rfl
end
theorem lO(c:Bool):Wx 0 (mJ c) [] c:=⟨Nat.le_refl _,fun s _ α K=>by simp[mJ]⟩
theorem jB(l:List Int):Wx l.length (lM l) l true:=⟨Nat.le_refl _,fun s hs α K=>by unfold lM cz;rw[decide_eq_true hs];simp⟩
def nb(n:Int):List Int:=mH (cE .u64 n)
def lB(n:Int):Bool:=decide (0<=n)&&decide (n<4294967296)
def uB(t:Int):Bool:=decide (t=127)||(decide (t=126)||decide (t=123))
def CE(l:List Int):List Int:=l.foldr (fun n r=>nb n++r) []
def TJ(l:List Int):List Int:=l.map (cE .u8)
theorem sy(n:Int):(nb n).length<=10:=nB _
theorem J8: ∀ l:List Int,(CE l).length<=10*l.length
 | []=>Nat.le_refl _
 |x::l=>by
  have h1:=sy x
  have h2:=J8 l
  show(nb x++CE l).length<=_
  simp only[List.length_append,List.length_cons]
  omega
theorem tZ(l:List Int): ∀ s:St,iH s l=(s.1++CE l,s.2|| !(l.all lB)):=by
 induction l with
 |nil=>intro s;simp[iH,CE]
 |cons x l ih=>
  intro s
  show iH (wU s x) l=_
  rw[ih]
  have e:(s.2|| !lB x|| !(l.all lB))=(s.2|| !((x::l).all lB)):=by
   simp only[List.all_cons]
   cases s.2<;>cases lB x<;>cases l.all lB<;>rfl
  show((s.1++nb x)++CE l,s.2|| !lB x|| !(l.all lB))=_
  rw[e,List.append_assoc]
  rfl
theorem CF(l:List Int): ∀ s:St,jY s l=(s.1++TJ l,s.2|| !(l.all uB)):=by
 induction l with
 |nil=>intro s;simp[jY,TJ]
 |cons x l ih=>
  intro s
  show jY (sr s x) l=_
  rw[ih]
  have e:(s.2|| !uB x|| !(l.all uB))=(s.2|| !((x::l).all uB)):=by
   simp only[List.all_cons]
   cases s.2<;>cases uB x<;>cases l.all uB<;>rfl
  show((s.1++[cE .u8 x])++TJ l,s.2|| !uB x|| !(l.all uB))=_
  rw[e,List.append_assoc]
  rfl
theorem jI(l:List Int):Wx (10*l.length) (kZ l) (CE l) (l.all lB):=⟨J8 l,fun s hs α K=>by unfold kZ cz;rw[decide_eq_true hs,tZ];rfl⟩
theorem rF(l:List Int):Wx l.length (vB l) (TJ l) (l.all uB):=⟨by unfold TJ;simp,fun s hs α K=>by unfold vB cz;rw[decide_eq_true hs,CF];rfl⟩
theorem DY(l:List Int):Wx l.length (BV l) l true:=⟨Nat.le_refl _,fun s hs α K=>by unfold BV cz;rw[iE (by omega) hs,cX];simp⟩
theorem rG{ok:Bool}{n:Nat}{F:rA}{bs:List Int}{p:Bool}(h:Wx n F bs p)(ho:ok=true):Wx n (wT ok n F) bs p:=⟨h.1,fun s hs α K=>by unfold wT cz;rw[ho,decide_eq_true hs,h.mw hs];rfl⟩
theorem Ba(c:List (den tI))(h:sw c=true):Wx (uz c) (M7 (c,())) (ry c) (decide (rz c=0)):=by
 have h':=h
 simp only[sw,Bool.and_eq_true,decide_eq_true_eq]at h'
 have hl:=A3 c h'.1
 exact⟨hl,fun s hs α K=>by show cz (sw c) (cz (roomy 1 (s.1.length+(ry c).length)) _)=_;unfold cz;rw[h,iE (by omega) (by omega)];simp only[cX];rfl⟩
structure CG{α:Type}(A:Item α) where
 bs:α->List Int
 p:α->Bool
 wx: ∀ x,A.ok x=true->Wx (A.wt x) (A.G x) (bs x) (p x)
def wY{α:Type}{A:Item α}(B:CG A)(l:List α):List Int:=l.foldr (fun x r=>B.bs x++r) []
theorem Bb{α:Type}{A:Item α}(B:CG A): ∀ (l:List α),iD A.ok l=true->(wY B l).length<=sx A.wt l
 | [],_=>Nat.le_refl _
 |x::l,h=>by
  obtain⟨h1,h2⟩:=nc h
  have:=(B.wx x h1).1
  have:=Bb B l h2
  show(B.bs x++wY B l).length<=_
  rw[tX]
  simp only[List.length_append]
  omega
theorem J9{α:Type}{A:Item α}(B:CG A): ∀ (l:List α),iD A.ok l=true-> ∀ s:St,s.1.length+sx A.wt l<=1099511627776->vC A.G s l=(s.1++wY B l,s.2|| !(l.all B.p))
 | [],_,s,_=>by simp[vC,wY]
 |x::l,h,s,hs=>by
  obtain⟨h1,h2⟩:=nc h
  rw[tX]at hs
  have e:=(B.wx x h1).mw (s:=s) (by omega)
  have hl:=(B.wx x h1).1
  show vC A.G (mW (A.G x) s) l=_
  rw[e,J9 B l h2 _ (by simp only[List.length_append];omega)]
  have e2:(s.2|| !B.p x|| !(l.all B.p))=(s.2|| !((x::l).all B.p)):=by
   simp only[List.all_cons]
   cases s.2<;>cases B.p x<;>cases l.all B.p<;>rfl
  show((s.1++B.bs x)++wY B l,s.2|| !B.p x|| !(l.all B.p))=_
  rw[e2,List.append_assoc]
  rfl
theorem QM(id:Int)(b:List Int)(k:Bool):Wx (11+b.length) (TH (id,b,k,())) (id::(nb (b.length:Int)++b)) (!k&&lB (b.length:Int)):=by
 refine(((lO (!k)).seq ((jB [id]).seq ((jI [(b.length:Int)]).seq (DY b)))).le (m:=11+b.length) (by simp only[List.length_cons,List.length_nil];omega)).eq ?_ ?_
 ·show []++([id]++((nb _++[])++b))=_
  simp
 ·simp
theorem WS(id:Int)(b:List Int)(k:Bool):yK (id,b,k,())=11+b.length:=by
 show 0+(1+(10+b.length))=_
 omega
theorem anB(id:Int)(b:List Int)(k:Bool)(s:St)(h:s.1.length+(11+b.length)<=1099511627776)(α:Type)(K:St->Option α):
 wT true (yK (id,b,k,())) (TH (id,b,k,())) α s K=K (s.1++(id::(nb (b.length:Int)++b)),s.2|| !(!k&&lB (b.length:Int))):=by
 rw[WS]
 exact(rG (QM id b k) rfl).2 s h α K
def rH{α:Type}{A:Item α}(B:CG A)(id:Int)(l:List α):List Int:=bif decide ((l.length:Int)=0)then []else id::(nb ((nb (l.length:Int)++wY B l).length:Int)++(nb (l.length:Int)++wY B l))
def kS{α:Type}{A:Item α}(B:CG A)(most:Int)(l:List α):Bool:=decide ((l.length:Int)<=most)&&bif decide ((l.length:Int)=0)then true else
 ((lB (l.length:Int)&&l.all B.p)&&lB ((nb (l.length:Int)++wY B l).length:Int))
theorem ahC{t:Ty}{A:Item (den t)}(B:CG A)(id most:Int)(l:List (den t))(h:iD A.ok l=true):Wx (21+sx A.wt l) (FS A (id,most,l,())) (rH B id l) (kS B most l):=by
 have hr:=Bb B l h
 have hn:=sy (l.length:Int)
 refine⟨?_,fun s hs α K=>?_⟩
 ·unfold rH
  cases decide ((l.length:Int)=0)with
  |true=>exact Nat.zero_le _
  |false=>
   have:=sy ((nb (l.length:Int)++wY B l).length:Int)
   simp only[cond_false,List.length_cons,List.length_append]at this ⊢
   omega
 ·show mJ _ α s (fun s=>bif decide ((l.length:Int)=0)then K s else _)=_
  unfold mJ
  show(bif decide ((l.length:Int)=0)then K (s.1,s.2|| !decide ((l.length:Int)<=most))else cz (decide (([]:List Int).length+10*[(l.length:Int)].length<=1099511627776)) (cz ((decide ((l.length:Int)=(l.length:Int))&&decide ((0:Int)=0))&&(iD A.ok l&&decide ((iH ([],s.2|| !decide ((l.length:Int)<=most)) [(l.length:Int)]).1.length+sx A.wt l<=1099511627776)))
   (wT true (yK (id,(vC A.G (iH ([],s.2|| !decide ((l.length:Int)<=most)) [(l.length:Int)]) l).1,(vC A.G (iH ([],s.2|| !decide ((l.length:Int)<=most)) [(l.length:Int)]) l).2,())) (TH (id,(vC A.G (iH ([],s.2|| !decide ((l.length:Int)<=most)) [(l.length:Int)]) l).1,(vC A.G (iH ([],s.2|| !decide ((l.length:Int)<=most)) [(l.length:Int)]) l).2,())) α (s.1,s.2|| !decide ((l.length:Int)<=most)) K)))=_
  unfold rH kS
  generalize hm:decide ((l.length:Int)<=most)=c
  cases h0:decide ((l.length:Int)=0)with
  |true=>simp
  |false=>
   have e1:iH ([],s.2|| !c) [(l.length:Int)]=(nb (l.length:Int),s.2|| !c|| !(lB (l.length:Int))):=by
    rw[tZ]
    show([]++(nb _++[]),_)=_
    simp
   have e2:=J9 B l h (nb (l.length:Int),s.2|| !c|| !(lB (l.length:Int))) (Nat.le_trans (Nat.add_le_add_right hn _) (by omega))
   rw[e1,e2,h]
   have c2:(nb (l.length:Int)).length+sx A.wt l<=1099511627776:=Nat.le_trans (Nat.add_le_add_right hn _) (by omega)
   have c3:(nb (l.length:Int)++wY B l).length<=10+sx A.wt l:=by rw[List.length_append];omega
   have k1:((decide ((l.length:Int)=(l.length:Int))&&decide ((0:Int)=0))&&(true&&decide ((nb (l.length:Int),s.2|| !c|| !(lB (l.length:Int))).1.length+sx A.wt l<=1099511627776)))=true:=by
    rw[Bool.and_eq_true,Bool.and_eq_true,Bool.and_eq_true]
    exact⟨⟨decide_eq_true rfl,decide_eq_true rfl⟩,rfl,decide_eq_true c2⟩
   have c0:decide (([]:List Int).length+10*[(l.length:Int)].length<=1099511627776)=true:=decide_eq_true (by simp only[List.length_cons,List.length_nil];omega)
   rw[k1,c0,anB id _ _ (s.1,s.2|| !c) (Nat.le_trans (Nat.add_le_add_left (Nat.add_le_add_left c3 11) s.1.length) (by omega))]
   unfold cz
   rw[cond_true,cond_true,cond_false,cond_false]
   congr 2
   generalize lB (l.length:Int)=u1
   generalize lB ((nb (l.length:Int)++wY B l).length:Int)=u2
   generalize l.all B.p=u3
   cases s.2<;>cases c<;>cases u1<;>cases u2<;>cases u3<;>rfl
end Go.Proofs.Vd

noncomputable section
namespace Go.Proofs.Vd
open Go.Ab Go.Ab.Lf
set_option maxRecDepth 100000
def b36(s:ByteArray):List Int:=[]++(CE [(s.size:Int)]++ZB s)
def p36(V:ByteArray->Bool)(s:ByteArray):Bool:=V s&&([(s.size:Int)].all lB&&true)
theorem DZ(V:ByteArray->Bool)(s:ByteArray)(hg:CC s=true):Wx (wW (s,())) (Ql V (s,())) (b36 s) (p36 V s):=by
 have e:Ql V (s,())=fun α t K=>mJ (V s) α t fun t=>kZ [(s.size:Int)] α t fun t=>BV (ZB s) α t K:=by
  unfold Ql
  rw[show CC (s,()).1=true from hg]
  rfl
 rw[e]
 refine((lO (V s)).seq ((jI [(s.size:Int)]).seq (DY (ZB s)))).le ?_
 rw[J3]
 show _<=10+s.size
 simp only[List.length_cons,List.length_nil]
 omega
def b41(x:den cq):List Int:=[]++bif decide (x.2= -1)then [0]++CE [x.1]else [1]++CE [x.1,x.2]
def p41(mo:Int)(x:den cq):Bool:=decide (x.1<=mo)&&bif decide (x.2= -1)then true&&[x.1].all lB else true&&[x.1,x.2].all lB
theorem QN(mo:Int)(x:den cq):Wx 21 (F41 (x.1,x.2,mo,())) (b41 x) (p41 mo x):=
 ((lO _).seq (.bif (((jB [0]).seq (jI [x.1])).le (m:=21) (by simp)) ((jB [1]).seq (jI [x.1,x.2])))).le (by simp)
def QO:CG A30:=⟨fun x=>bif decide ((x.1.length:Int)<=32)then []++([96]++(CE [(x.1.length:Int)]++(TJ x.1++(CE [(x.2.length:Int)]++TJ x.2))))else []++([96]++(CE [(x.1.length:Int)]++(TJ x.1++(CE [(x.2.length:Int)]++TJ x.2)))),
 fun x=>bif decide ((x.1.length:Int)<=32)then decide ((x.2.length:Int)<=32)&&(true&&([(x.1.length:Int)].all lB&&(x.1.all uB&&([(x.2.length:Int)].all lB&&x.2.all uB))))else false&&(true&&([(x.1.length:Int)].all lB&&(x.1.all uB&&([(x.2.length:Int)].all lB&&x.2.all uB)))),
 fun x _=>.bif ((lO _).seq ((jB [96]).seq ((jI [(x.1.length:Int)]).seq ((rF x.1).seq ((jI [(x.2.length:Int)]).seq (rF x.2))))))
  ((lO _).seq ((jB [96]).seq ((jI [(x.1.length:Int)]).seq ((rF x.1).seq ((jI [(x.2.length:Int)]).seq (rF x.2))))))⟩
def QP(V:ByteArray->Bool):CG (A35 V):=⟨fun x=>b36 x.1++(b36 x.2.1++([0]++CE [x.2.2])),fun x=>p36 V x.1&&(p36 V x.2.1&&(true&&[x.2.2].all lB)),
 fun x h=>(rG (DZ V x.1 (Bool.and_eq_true _ _▸h).1) (Bool.and_eq_true _ _▸h).1).seq ((rG (DZ V x.2.1 (Bool.and_eq_true _ _▸h).2) (Bool.and_eq_true _ _▸h).2).seq ((jB [0]).seq (jI [x.2.2])))⟩
def QQ:CG A38:=⟨fun x=>CE [x],fun x=>[x].all lB,fun x _=>jI [x]⟩
def QR:CG A40:=⟨fun x=>[112]++b41 x,fun x=>true&&p41 1024 x,fun x _=>(jB [112]).seq (rG (QN 1024 x) rfl)⟩
def QS:CG A42:=⟨b41,p41 16,fun x _=>rG (QN 16 x) rfl⟩
def QT:CG A44:=⟨fun x=>TJ [x.1]++bif x.2.1 then [1]++ry x.2.2 else [0]++ry x.2.2,fun x=>[x.1].all uB&&bif x.2.1 then true&&decide (rz x.2.2=0)else true&&decide (rz x.2.2=0),
 fun x h=>(rF [x.1]).seq (.bif ((jB [1]).seq (rG (Ba x.2.2 h) h)) ((jB [0]).seq (rG (Ba x.2.2 h) h)))⟩
def QU(V:ByteArray->Bool):CG (A46 V):=⟨fun x=>bif decide (0<=x.2.1)then []++(b36 x.1++([cE .u8 x.2.1]++CE [x.2.2]))else []++(b36 x.1++([cE .u8 x.2.1]++CE [x.2.2])),
 fun x=>bif decide (0<=x.2.1)then decide (x.2.1<=3)&&(p36 V x.1&&(true&&[x.2.2].all lB))else false&&(p36 V x.1&&(true&&[x.2.2].all lB)),
 fun x h=>.bif ((lO _).seq ((rG (DZ V x.1 h) h).seq ((jB [_]).seq (jI [x.2.2])))) ((lO _).seq ((rG (DZ V x.1 h) h).seq ((jB [_]).seq (jI [x.2.2]))))⟩
def L1:CG WB:=⟨fun x=>[]++([0]++(ry x.1++(CE [(x.2.length:Int)]++CE x.2))),fun x=>decide ((x.2.length:Int)<=1024)&&(true&&(decide (rz x.1=0)&&([(x.2.length:Int)].all lB&&x.2.all lB))),
 fun x h=>(lO _).seq ((jB [0]).seq ((rG (Ba x.1 h) h).seq ((jI [(x.2.length:Int)]).seq (jI x.2))))⟩
def L2:CG WC:=⟨fun x=>[0]++(ry x.1++(CE [(x.2.length:Int)]++x.2)),fun x=>true&&(decide (rz x.1=0)&&([(x.2.length:Int)].all lB&&true)),
 fun x h=>(jB [0]).seq ((rG (Ba x.1 h) h).seq ((jI [(x.2.length:Int)]).seq (jB x.2)))⟩
def D0(L:List Int):Nat->Nat->List Int
 |0,_=>[]
 |k+1,i=>if i<L.length then nb (kR L (i:Int):Int)++([cE .u8 (L.getD i (cr i64))]++D0 L k (i+kR L (i:Int)))else []
def Gx(L:List Int):Nat->Nat->Bool
 |0,_=>true
 |k+1,i=>if i<L.length then lB (kR L (i:Int):Int)&&(uB (L.getD i (cr i64))&&Gx L k (i+kR L (i:Int)))else true
theorem Bc(L:List Int): ∀ (k:Nat) (s:St) (i:Nat),tY L k s i=(s.1++D0 L k i,s.2|| !(Gx L k i))
 |0,s,i=>by simp[tY,D0,Gx]
 |k+1,s,i=>by
  unfold tY D0 Gx
  by_cases h:i<L.length
  ·rw[if_pos h,if_pos h,if_pos h,Bc L k,CF,tZ]
   have e:(s.2|| !([(kR L (i:Int):Int)].all lB)|| !([L.getD i (cr i64)].all uB)|| !(Gx L k (i+kR L (i:Int))))=(s.2|| !(lB (kR L (i:Int):Int)&&(uB (L.getD i (cr i64))&&Gx L k (i+kR L (i:Int))))):=by
    simp only[List.all_cons,List.all_nil,Bool.and_true]
    cases s.2<;>cases lB (kR L (i:Int):Int)<;>cases uB (L.getD i (cr i64))<;>cases Gx L k (i+kR L (i:Int))<;>rfl
   show((s.1++(nb _++[]))++[cE .u8 (L.getD i (cr i64))]++D0 L k (i+kR L (i:Int)),_)=_
   simp only[e,List.append_assoc,List.append_nil]
  ·rw[if_neg h,if_neg h,if_neg h]
   simp
def zx(x:den cK):List Int:=nb (jg x.1 0)++(D0 x.1 x.1.length 0++ry x.2)
def M8(x:den cK):Bool:=lB (jg x.1 0)&&(Gx x.1 x.1.length 0&&decide (rz x.2=0))
theorem adF(x:den cK)(h:sw x.2=true):Wx (DW (x.1,x.2,())) (F52 (x.1,x.2,())) (nb ((zx x).length:Int)++zx x) (decide ((x.1.length:Int)<=512)&&(M8 x&&lB ((zx x).length:Int))):=by
 obtain⟨L,c⟩:=x
 have hw:=(Ba c h)
 have hn:=sy (jg L 0)
 have h1: ∀ (L0:L.length<=1099511627776) (hs:10+11*L.length<=1099511627776),(D0 L L.length 0).length<=11*L.length:=by
  intro L0 hs
  have:=Gv ([],false) L L0 (by show 0+_<=_;omega)
  unfold yN at this
  rw[Bc]at this
  simpa using this
 have key: ∀ s:St,s.1.length+DW (L,c,())<=1099511627776->(D0 L L.length 0).length<=11*L.length:=by
  intro s hs
  have hs:s.1.length+(20+11*L.length+uz c)<=1099511627776:=hs
  exact h1 (by omega) (by omega)
 have lc:(D0 L L.length 0).length<=11*L.length:=by
  have: ∀ (k i:Nat),L.length<=i+k->i<=L.length->(D0 L k i).length<=11*(L.length - i):=by
   intro k
   induction k with
   |zero=>intro i _ _;exact Nat.zero_le _
   |succ k ih=>
    intro i a b
    unfold D0
    split
    ·rename_i hi
     obtain⟨r1,r2⟩:=DV L i hi
     have:=ih (i+kR L (i:Int)) (by omega) r2
     have:=sy (kR L (i:Int):Int)
     simp only[List.length_append,List.length_cons,List.length_nil]
     omega
    ·exact Nat.zero_le _
  simpa using this L.length 0 (by omega) (by omega)
 have cl:(zx (L,c)).length<=10+11*L.length+uz c:=by
  have:=hw.1
  unfold zx
  simp only[List.length_append]
  omega
 refine⟨?_,fun s hs α K=>?_⟩
 ·have:=sy ((zx (L,c)).length:Int)
  show _<=20+11*L.length+uz c
  simp only[List.length_append]
  omega
 ·have hs':s.1.length+(20+11*L.length+uz c)<=1099511627776:=hs
  have hL:L.length<=1099511627776:=by omega
  have e1:iH ([],false) [jg L 0]=(nb (jg L 0),!(lB (jg L 0))):=by
   rw[tZ]
   show([]++(nb _++[]),_)=_
   simp
  have e2:yN (nb (jg L 0),!(lB (jg L 0))) L=(nb (jg L 0)++D0 L L.length 0,!(lB (jg L 0))|| !(Gx L L.length 0)):=by
   unfold yN
   rw[Bc]
  have c1:(nb (jg L 0)).length+11*L.length<=1099511627776:=by omega
  have c2:(nb (jg L 0)++D0 L L.length 0).length+uz c<=1099511627776:=by simp only[List.length_append];omega
  have e4:(nb (jg L 0)++D0 L L.length 0)++ry c=zx (L,c):=by
   unfold zx
   rw[List.append_assoc]
  have e5:((!(lB (jg L 0))|| !(Gx L L.length 0))|| !(decide (rz c=0)))= !(M8 (L,c)):=by
   unfold M8
   generalize lB (jg L 0)=u1
   generalize Gx L L.length 0=u2
   generalize decide (rz c=0)=u3
   cases u1<;>cases u2<;>cases u3<;>rfl
  have e3: ∀ (α:Type) (K:St->Option α),wT (sw c) (uz c) (M7 (c,())) α (nb (jg L 0)++D0 L L.length 0,!(lB (jg L 0))|| !(Gx L L.length 0)) K=K (zx (L,c),!(M8 (L,c))):=fun α K=>by
   rw[(rG hw h).2 (nb (jg L 0)++D0 L L.length 0,!(lB (jg L 0))|| !(Gx L L.length 0)) c2]
   exact congrArg K (Prod.ext e4 e5)
  have c0:decide (([]:List Int).length+10*[jg L 0].length<=1099511627776)=true:=decide_eq_true (by simp only[List.length_cons,List.length_nil];omega)
  have k1:((decide ((L.length:Int)=(L.length:Int))&&decide ((0:Int)=0))&&decide (L.length<=1099511627776))=true:=by
   rw[Bool.and_eq_true,Bool.and_eq_true]
   exact⟨⟨decide_eq_true rfl,decide_eq_true rfl⟩,decide_eq_true hL⟩
  have k2:((decide ((0:Int)=0)&&decide (L.length<=1099511627776))&&decide ((nb (jg L 0)).length+11*L.length<=1099511627776))=true:=by
   rw[Bool.and_eq_true,Bool.and_eq_true]
   exact⟨⟨decide_eq_true rfl,decide_eq_true hL⟩,decide_eq_true c1⟩
  have e6:=((lO (!(!(M8 (L,c))))).seq ((jI [((zx (L,c)).length:Int)]).seq (DY (zx (L,c))))).2 (s.1,s.2|| !decide ((L.length:Int)<=512)) (by
   show s.1.length+_<=_
   simp only[List.length_cons,List.length_nil]
   omega) α K
  show cz ((decide ((L.length:Int)=(L.length:Int))&&decide ((0:Int)=0))&&decide (L.length<=1099511627776)) (cz (decide (([]:List Int).length+10*[jg L 0].length<=1099511627776)) (cz ((decide ((0:Int)=0)&&decide (L.length<=1099511627776))&&decide ((iH ([],false) [jg L 0]).1.length+11*L.length<=1099511627776)) (wT (sw c) (uz c) (M7 (c,())) α (yN (iH ([],false) [jg L 0]) L) fun q=>mJ (!q.2) α (s.1,s.2|| !decide ((L.length:Int)<=512)) fun s=>kZ [(q.1.length:Int)] α s fun s=>BV q.1 α s K)))=_
  rw[e1,e2,e3,k1,k2,c0]
  unfold cz
  rw[cond_true,cond_true,cond_true]
  refine Eq.trans e6 ?_
  congr 2
  ·show s.1++([]++((nb _++[])++zx (L,c)))=_
   simp
  ·show((s.2|| !decide ((L.length:Int)<=512))|| !(!(!(M8 (L,c)))&&((lB _&&true)&&true)))=_
   generalize decide ((L.length:Int)<=512)=u1
   generalize lB ((zx (L,c)).length:Int)=u2
   cases s.2<;>cases u1<;>cases M8 (L,c)<;>cases u2<;>rfl
def D2:CG Ir:=⟨fun x=>nb ((zx x).length:Int)++zx x,fun x=>decide ((x.1.length:Int)<=512)&&(M8 x&&lB ((zx x).length:Int)),fun x h=>adF x h⟩
def adG(V:ByteArray->Bool)(y:cb tM):List Int:=rH QO 1 y.1++(rH (QP V) 2 y.2.1++(rH QQ 3 y.2.2.1++(rH QR 4 y.2.2.2.1++(rH QS 5 y.2.2.2.2.1++(rH QT 6 y.2.2.2.2.2.1++rH (QU V) 7 y.2.2.2.2.2.2.1)))))
def QV(y:cb tM):List Int:=rH L1 9 y.2.2.2.2.2.2.2.2.1++(rH D2 10 y.2.2.2.2.2.2.2.2.2.1++rH L2 11 y.2.2.2.2.2.2.2.2.2.2.1)
def stB(n:Int):List Int:=bif decide (0<=n)then 8::(nb ((nb n).length:Int)++nb n)else []
def adH(V:ByteArray->Bool)(y:cb tM):Bool:=kS QO 256 y.1&&(kS (QP V) 512 y.2.1&&(kS QQ 512 y.2.2.1&&(kS QR 512 y.2.2.2.1&&(kS QS 512 y.2.2.2.2.1&&(kS QT 512 y.2.2.2.2.2.1&&kS (QU V) 512 y.2.2.2.2.2.2.1)))))
def adJ(y:cb tM):Bool:=kS L1 512 y.2.2.2.2.2.2.2.2.1&&(kS D2 512 y.2.2.2.2.2.2.2.2.2.1&&kS L2 512 y.2.2.2.2.2.2.2.2.2.2.1)
def stP(n:Int):Bool:=decide (-1<=n)&&bif decide (0<=n)then lB n&&lB ((nb n).length:Int)else true
def ZK(V:ByteArray->Bool)(y:cb tM):Bool:=decide ((y.2.2.1.length:Int)=(y.2.2.2.2.2.2.2.2.2.1.length:Int))&&(adH V y&&(stP y.2.2.2.2.2.2.2.1&&adJ y))
def enB(V:ByteArray->Bool)(y:cb tM):List Int:=adG V y++(stB y.2.2.2.2.2.2.2.1++QV y)
theorem L3(n:Int):Wx 21 (QG n) (8::(nb ((nb n).length:Int)++nb n)) (lB n&&lB ((nb n).length:Int)):=by
 have hn:=sy n
 have h:=QM 8 (nb n) (!(lB n))
 refine⟨Nat.le_trans h.1 (by omega),fun s hs α K=>?_⟩
 have e1:iH ([],false) [n]=(nb n,!(lB n)):=by
  rw[tZ]
  show([]++(nb _++[]),_)=_
  simp
 show cz (decide (([]:List Int).length+10*[n].length<=1099511627776)) (wT true (yK (8,(iH ([],false) [n]).1,(iH ([],false) [n]).2,())) (TH (8,(iH ([],false) [n]).1,(iH ([],false) [n]).2,())) α s K)=_
 rw[e1]
 have c:s.1.length+yK (8,nb n,!(lB n),())<=1099511627776:=by
  show s.1.length+(0+(1+(10+(nb n).length)))<=_
  omega
 show wT true (yK (8,nb n,!(lB n),())) (TH (8,nb n,!(lB n),())) α s K=_
 unfold wT
 rw[decide_eq_true c,h.mw (by omega)]
 show K _=_
 congr 2
 generalize lB n=u1
 generalize lB ((nb n).length:Int)=u2
 cases s.2<;>cases u1<;>cases u2<;>rfl
theorem nZ{t:Ty}{A:Item (den t)}(B:CG A)(id most:Int)(l:List (den t))(h:iD A.ok l=true):Wx (21+sx A.wt l) (yO A id most l) (rH B id l) (kS B most l):=rG (ahC B id most l h) h
theorem J'(y:cb tM)(h1:iD WB.ok y.2.2.2.2.2.2.2.2.1=true)(h2:iD Ir.ok y.2.2.2.2.2.2.2.2.2.1=true)(h3:iD WC.ok y.2.2.2.2.2.2.2.2.2.2.1=true):Wx (J4 y) (WK y) (QV y) (adJ y):=
 (nZ L1 9 512 _ h1).seq ((nZ D2 10 512 _ h2).seq (nZ L2 11 512 _ h3))
theorem adL(V:ByteArray->Bool)(y:cb tM)(h:ZD V y=true):Wx (QF V y) (F18 V y) (enB V y) (ZK V y):=by
 unfold ZD at h
 simp only[Bool.and_eq_true]at h
 obtain⟨h1,h2,h3,h4,h5,h6,h7,h8,h9,WM⟩:=h
 have k9:=Wx.bif (c:=decide (0<=y.2.2.2.2.2.2.2.1)) ((L3 y.2.2.2.2.2.2.2.1).seq (J' y h8 h9 WM)) ((J' y h8 h9 WM).le (m:=21+J4 y) (Nat.le_add_left _ _))
 have k8:=(lO (decide (-1<=y.2.2.2.2.2.2.2.1))).seq k9
 have k7:=(nZ (QU V) 7 512 _ h7).seq k8
 have k6:=(nZ QT 6 512 _ h6).seq k7
 have k5:=(nZ QS 5 512 _ h5).seq k6
 have k4:=(nZ QR 4 512 _ h4).seq k5
 have k3:=(nZ QQ 3 512 _ h3).seq k4
 have k2:=(nZ (QP V) 2 512 _ h2).seq k3
 have k1:=(nZ QO 1 256 _ h1).seq k2
 have k0:=(lO (decide ((y.2.2.1.length:Int)=(y.2.2.2.2.2.2.2.2.2.1.length:Int)))).seq k1
 refine Wx.eq (F:=F18 V y) k0 ?_ ?_
 ·unfold enB adG stB
  generalize decide (0<=y.2.2.2.2.2.2.2.1)=u
  cases u<;>simp only[cond_true,cond_false,List.nil_append,List.append_assoc]
 ·unfold ZK adH stP
  generalize decide (0<=y.2.2.2.2.2.2.2.1)=u
  cases u<;>simp only[cond_true,cond_false,Bool.and_assoc,Bool.true_and,Bool.and_true]
theorem Ka{V:ByteArray->Bool}{y:cb tM}(h:Is V y=true):yP V y=(s0.1++enB V y,!(ZK V y)):=by
 unfold Is at h
 simp only[Bool.and_eq_true,decide_eq_true_eq]at h
 unfold yP
 rw[(adL V y h.1).mw (s:=s0) h.2]
 rfl
end Go.Proofs.Vd

noncomputable section
namespace Go.Proofs.Vd
open Go.Ab Go.Ab.Lf
set_option maxRecDepth 100000
abbrev QW:List Ty:=[.ca cF,.ca cR,.ca i64,.ca cq,.ca cq,.ca cI,.ca cQ,i64,.ca cJ,.ca cK,.ca cN,.ca i64,.ca i64,.ca iF,.bool,i64,i64,i64,u64,u64,.ca i64]
abbrev wZ:List Ty:=[.ca cF,.ca cR,.ca i64,.ca cq,.ca cq,.ca cI,.ca cQ,i64,.ca cJ,.ca cK,.ca cN,.ca i64,.ca i64,.ca iF,.bool]
def e86:List (Nat×iK):=[(169,s72),(170,s73),(173,ZF)]
theorem adM{V:ByteArray->Bool}{cf:cg}(W:WorldC V cf):jd cf (e86):=(.cons (A8 W.toWorld) (.cons (A7 W.toWorld) (.cons (vD W.toWorld) .nil)))
def t86(x:cb QW):Lf.T (List Pl):=kO (Ps [mV 0,pI]) [14] (Ps [.tu .nil,mV 14]) (fun _=>none) Tryz.ahm 3 (je (e86) 3) (cp QW x)
def k86(x:cb QW):Bool:=nA wZ (t86 x)
def m86(x:cb QW):cb wZ:=jP wZ (t86 x)
def s86:iK:=kf (Ps [mV 0,pI]) [14] (Ps [.tu .nil,mV 14]) QW wZ fun x=>.ck (k86 x) (.ok (m86 x))
theorem adN{V:ByteArray->Bool}{cf:cg}(W:WorldC V cf):(s86).Ok 197 cf:=
 j4 (W.toWorld.in (adM W) 3) (W.toWorld.st 197 _ rfl) rfl (cu _) (m:=3) rfl (fun _=>rfl) (fun _=>rfl)
abbrev yp:List Ty:=[.ca cF,.ca cR,.ca i64,.ca cq,.ca cq,.ca cI,.ca cQ,i64,.ca cJ,.ca cK,.ca cN,.ca i64,.ca i64,.ca iF,.bool,.ca i64,.ca i64,i64]
abbrev sA:List Ty:=[.ca cF,.ca cR,.ca i64,.ca cq,.ca cq,.ca cI,.ca cQ,i64,.ca cJ,.ca cK,.ca cN,.ca i64,.ca i64,.ca iF,.bool,.ca i64]
def WT:oF:=⟨0,kP Tryz.acb.code 0,[0,1,4,5],(Ps [mV 14,.im i64,.ow i64,.n .i64]),[⟨.qS,[0,4],Ps [mV 14,.ow i64]⟩]⟩
def ahG:List (Nat×iK):=[(170,s73)]
theorem WU{V:ByteArray->Bool}{cf:cg}(W:WorldC V cf):jd cf (ahG):=(.cons (A7 W.toWorld) .nil)
def QX:List Pl->Lf.T Rs:=WT.step (fun _=>none) (je (ahG) 3) 3
def ahH:kE:=wQ WT (QX) yp sA
theorem WV{V:ByteArray->Bool}{cf:cg}(W:WorldC V cf):jU Rx.w (ahH) (fun n d=>ly (cf n d) n (.bl 0 (.lp WT.body))):=lW (W.toWorld.in (WU W) 3) (cu _) (m:=3) yp sA
def L85:Nat->Option kE:=tO [(0,ahH)]
abbrev L4:List Ty:=[.ca cF,.ca cR,.ca i64,.ca cq,.ca cq,.ca cI,.ca cQ,i64,.ca cJ,.ca cK,.ca cN,.ca i64,.ca i64,.ca iF,.bool,.ca i64]
abbrev Gy:List Ty:=[.ca cF,.ca cR,.ca i64,.ca cq,.ca cq,.ca cI,.ca cQ,i64,.ca cJ,.ca cK,.ca cN,.ca i64,.ca i64,.ca iF,.bool]
def e85:List (Nat×iK):=[(169,s72)]
theorem adO{V:ByteArray->Bool}{cf:cg}(W:WorldC V cf):jd cf (e85):=(.cons (A8 W.toWorld) .nil)
def t85(x:cb L4):Lf.T (List Pl):=kO (Ps [mV 0,.im i64]) [14] (Ps [.tu .nil,mV 14]) L85 Tryz.acb 18 (je (e85) 18) (cp L4 x)
def k85(x:cb L4):Bool:=nA Gy (t85 x)
def m85(x:cb L4):cb Gy:=jP Gy (t85 x)
def s85:iK:=kf (Ps [mV 0,.im i64]) [14] (Ps [.tu .nil,mV 14]) L4 Gy fun x=>.ck (k85 x) (.ok (m85 x))
theorem adP{V:ByteArray->Bool}{cf:cg}(W:WorldC V cf):(s85).Ok 196 cf:=
 j4 (W.toWorld.in (adO W) 18) (W.toWorld.st 196 _ rfl) rfl (ku.nh (.cons (b:=WT.body) (by kernel_rfl) (WV W) .nil)) (m:=18) rfl (fun _=>rfl) (fun _=>rfl)
abbrev w6:List Ty:=[.ca cF,.ca cR,.ca i64,.ca cq,.ca cq,.ca cI,.ca cQ,i64,.ca cJ,.ca cK,.ca cN,.ca i64,.ca i64,.ca iF,.bool,.ca i64,.ca i64,i64,i64]
abbrev qp:List Ty:=[.ca cF,.ca cR,.ca i64,.ca cq,.ca cq,.ca cI,.ca cQ,i64,.ca cJ,.ca cK,.ca cN,.ca i64,.ca i64,.ca iF,.bool,.ca i64]
def WW:oF:=⟨1,kP Tryz.ab8.code 1,[0,5,51,52,53],(Ps [mV 14,.im i64,.im i64,.n .i64,.n .i64]),[⟨.qS,[0,5],Ps [mV 14,.im i64]⟩]⟩
def ahJ:List (Nat×iK):=[(173,ZF),(195,s84),(196,s85)]
theorem WX{V:ByteArray->Bool}{cf:cg}(W:WorldC V cf):jd cf (ahJ):=(.cons (vD W.toWorld) (.cons (QK W.toWorld) (.cons (adP W) .nil)))
def L5:List Pl->Lf.T Rs:=WW.step (fun _=>none) (je (ahJ) 3) 3
def ahK:kE:=wQ WW (L5) w6 qp
theorem WY{V:ByteArray->Bool}{cf:cg}(W:WorldC V cf):jU Rx.w (ahK) (fun n d=>ly (cf n d) n (.bl 1 (.lp WW.body))):=lW (W.toWorld.in (WX W) 3) (cu _) (m:=3) w6 qp
def L77:Nat->Option kE:=tO [(1,ahK)]
abbrev QY:List Ty:=[.ca cF,.ca cR,.ca i64,.ca cq,.ca cq,.ca cI,.ca cQ,i64,.ca cJ,.ca cK,.ca cN,.ca i64,.ca i64,.ca iF,.bool,i64,i64,i64,u64,u64,.ca i64]
abbrev Be:List Ty:=[.ca cF,.ca cR,.ca i64,.ca cq,.ca cq,.ca cI,.ca cQ,i64,.ca cJ,.ca cK,.ca cN,.ca i64,.ca i64,.ca iF,.bool]
def e77:List (Nat×iK):=[(168,s71),(169,s72),(170,s73),(194,s83),(195,s84),(197,s86)]
theorem adQ{V:ByteArray->Bool}{cf:cg}(W:WorldC V cf):jd cf (e77):=(.cons (Iu W.toWorld) (.cons (A8 W.toWorld) (.cons (A7 W.toWorld) (.cons (ado W.toWorld) (.cons (QK W.toWorld) (.cons (adN W) .nil))))))
def t77(x:cb QY):Lf.T (List Pl):=kO (Ps [mV 0,pI]) [14] (Ps [.tu .nil,mV 14]) L77 Tryz.ab8 3 (je (e77) 3) (cp QY x)
def k77(x:cb QY):Bool:=nA Be (t77 x)
def m77(x:cb QY):cb Be:=jP Be (t77 x)
def s77:iK:=kf (Ps [mV 0,pI]) [14] (Ps [.tu .nil,mV 14]) QY Be fun x=>.ck (k77 x) (.ok (m77 x))
theorem adR{V:ByteArray->Bool}{cf:cg}(W:WorldC V cf):(s77).Ok 174 cf:=
 j4 (W.toWorld.in (adQ W) 3) (W.toWorld.st 174 _ rfl) rfl (ku.nh (.cons (b:=WW.body) (by kernel_rfl) (WY W) .nil)) (m:=3) rfl (fun _=>rfl) (fun _=>rfl)
abbrev L6:List Ty:=[.ca cF,.ca cR,.ca i64,.ca cq,.ca cq,.ca cI,.ca cQ,i64,.ca cJ,.ca cK,.ca cN,.ca i64,.ca i64,.ca iF,.bool,i64]
abbrev D3:List Ty:=[.ca cF,.ca cR,.ca i64,.ca cq,.ca cq,.ca cI,.ca cQ,i64,.ca cJ,.ca cK,.ca cN,.ca i64,.ca i64,.ca iF,.bool]
def e75:List (Nat×iK):=[(141,s60),(168,s71),(169,s72),(173,ZF),(193,s82)]
theorem adS{V:ByteArray->Bool}{cf:cg}(W:WorldC V cf):jd cf (e75):=(.cons (Iw W.toWorld) (.cons (Iu W.toWorld) (.cons (A8 W.toWorld) (.cons (vD W.toWorld) (.cons (adB W.toWorld) .nil)))))
def t75(x:cb L6):Lf.T (List Pl):=kO (Ps [mV 0,.n .i64]) [14] (Ps [.tu .nil,mV 14]) (fun _=>none) Tryz.ahj 3 (je (e75) 3) (cp L6 x)
def k75(x:cb L6):Bool:=nA D3 (t75 x)
def m75(x:cb L6):cb D3:=jP D3 (t75 x)
def s75:iK:=kf (Ps [mV 0,.n .i64]) [14] (Ps [.tu .nil,mV 14]) L6 D3 fun x=>.ck (k75 x) (.ok (m75 x))
theorem adT{V:ByteArray->Bool}{cf:cg}(W:WorldC V cf):(s75).Ok 172 cf:=
 j4 (W.toWorld.in (adS W) 3) (W.toWorld.st 172 _ rfl) rfl (cu _) (m:=3) rfl (fun _=>rfl) (fun _=>rfl)
abbrev Iy:List Ty:=[.ca cF,.ca cR,.ca i64,.ca cq,.ca cq,.ca cI,.ca cQ,i64,.ca cJ,.ca cK,.ca cN,.ca i64,.ca i64,.ca iF,.bool,i64,i64,i64,u64,u64,.ca i64]
abbrev ph:List Ty:=[.ca cF,.ca cR,.ca i64,.ca cq,.ca cq,.ca cI,.ca cQ,i64,.ca cJ,.ca cK,.ca cN,.ca i64,.ca i64,.ca iF,.bool]
def e62:List (Nat×iK):=[(29,s10),(25,s11),(75,s21),(141,s60),(167,s70),(168,s71),(169,s72),(170,s73),(171,s74),(172,s75),(173,ZF),(174,s77)]
theorem adU{V:ByteArray->Bool}{cf:cg}(W:WorldC V cf):jd cf (e62):=(.cons (A9 W) (.cons (Ii W.toWorld) (.cons (Iv W) (.cons (Iw W.toWorld) (.cons (adD W.toWorld) (.cons (Iu W.toWorld) (.cons (A8 W.toWorld) (.cons (A7 W.toWorld) (.cons (adv W) (.cons (adT W) (.cons (vD W.toWorld) (.cons (adR W) .nil))))))))))))
def t62(x:cb Iy):Lf.T (List Pl):=kO (Ps [mV 0,pI]) [14] (Ps [.tu .nil,mV 14]) (fun _=>none) Tryz.ahe 3 (je (e62) 3) (cp Iy x)
def k62(x:cb Iy):Bool:=nA ph (t62 x)
def CH(x:cb Iy):cb ph:=jP ph (t62 x)
def s62:iK:=kf (Ps [mV 0,pI]) [14] (Ps [.tu .nil,mV 14]) Iy ph fun x=>.ck (k62 x) (.ok (CH x))
theorem adW{V:ByteArray->Bool}{cf:cg}(W:WorldC V cf):(s62).Ok 143 cf:=
 j4 (W.toWorld.in (adU W) 3) (W.toWorld.st 143 _ rfl) rfl (cu _) (m:=3) rfl (fun _=>rfl) (fun _=>rfl)
end Go.Proofs.Vd

noncomputable section
namespace Go.Proofs.Vd
open Go.Ab Go.Ab.Lf
set_option maxRecDepth 100000
abbrev w7:List Ty:=[.ca (.ca i64),i64,.ca (.ca i64),i64,i64]
abbrev pj:List Ty:=[.ca (.ca i64),i64]
def WZ:oF:=⟨0,kP Tryz.Wm.code 0,[0,3,9,10,11],(Ps [.im (.ca i64),.n .i64,.im (.ca i64),.n .i64,.n .i64]),[⟨.qS,[0,3],Ps [.im (.ca i64),.n .i64]⟩]⟩
def ahQ:List (Nat×iK):=[]
theorem W0{V:ByteArray->Bool}{cf:cg}(W:WorldC V cf):jd cf (ahQ):=.nil
def Iz:List Pl->Lf.T Rs:=WZ.step (fun _=>none) (je (ahQ) 3) 3
def ahR:kE:=wQ WZ (Iz) w7 pj
theorem W1{V:ByteArray->Bool}{cf:cg}(W:WorldC V cf):jU Rx.w (ahR) (fun n d=>ly (cf n d) n (.bl 0 (.lp WZ.body))):=lW (W.toWorld.in (W0 W) 3) (cu _) (m:=3) w7 pj
abbrev u7:List Ty:=[.ca i64,.ca (.ca i64),i64,i64]
abbrev pn:List Ty:=[.ca i64]
def W2:oF:=⟨2,kP Tryz.Wm.code 2,[6,25,26,27],(Ps [.ow i64,.im (.ca i64),.n .i64,.n .i64]),[⟨.qS,[6],Ps [.ow i64]⟩]⟩
def ahS:List (Nat×iK):=[]
theorem W4{V:ByteArray->Bool}{cf:cg}(W:WorldC V cf):jd cf (ahS):=.nil
def Gz:List Pl->Lf.T Rs:=W2.step (fun _=>none) (je (ahS) 3) 3
def ahT:kE:=wQ W2 (Gz) u7 pn
theorem W5{V:ByteArray->Bool}{cf:cg}(W:WorldC V cf):jU Rx.w (ahT) (fun n d=>ly (cf n d) n (.bl 2 (.lp W2.body))):=lW (W.toWorld.in (W4 W) 3) (cu _) (m:=3) u7 pn
def L59:Nat->Option kE:=tO [(0,ahR),(2,ahT)]
abbrev QZ:List Ty:=[.ca (.ca i64)]
abbrev IA:List Ty:=[.ca i64]
def e59:List (Nat×iK):=[]
theorem adX{V:ByteArray->Bool}{cf:cg}(W:WorldC V cf):jd cf (e59):=.nil
def t59(x:cb QZ):Lf.T (List Pl):=kO (Ps [.im (.ca i64)]) [] (Ps [.ow i64]) L59 Tryz.Wm 3 (je (e59) 3) (cp QZ x)
def k59(x:cb QZ):Bool:=nA IA (t59 x)
def m59(x:cb QZ):cb IA:=jP IA (t59 x)
def s59:iK:=kf (Ps [.im (.ca i64)]) [] (Ps [.ow i64]) QZ IA fun x=>.ck (k59 x) (.ok (m59 x))
theorem adY{V:ByteArray->Bool}{cf:cg}(W:WorldC V cf):(s59).Ok 140 cf:=
 j4 (W.toWorld.in (adX W) 3) (W.toWorld.st 140 _ rfl) rfl (ku.nh (.cons (b:=WZ.body) (by kernel_rfl) (W1 W) (.cons (b:=W2.body) (by kernel_rfl) (W5 W) .nil))) (m:=3) rfl (fun _=>rfl) (fun _=>rfl)
abbrev w8:List Ty:=[.ca (.ca cq),i64,.ca (.ca cq),i64,i64]
abbrev po:List Ty:=[.ca (.ca cq),i64]
def W6:oF:=⟨0,kP Tryz.Wl.code 0,[0,3,9,10,11],(Ps [.im (.ca cq),.n .i64,.im (.ca cq),.n .i64,.n .i64]),[⟨.qS,[0,3],Ps [.im (.ca cq),.n .i64]⟩]⟩
def ahW:List (Nat×iK):=[]
theorem W7{V:ByteArray->Bool}{cf:cg}(W:WorldC V cf):jd cf (ahW):=.nil
def IB:List Pl->Lf.T Rs:=W6.step (fun _=>none) (je (ahW) 3) 3
def ahX:kE:=wQ W6 (IB) w8 po
theorem W8{V:ByteArray->Bool}{cf:cg}(W:WorldC V cf):jU Rx.w (ahX) (fun n d=>ly (cf n d) n (.bl 0 (.lp W6.body))):=lW (W.toWorld.in (W7 W) 3) (cu _) (m:=3) w8 po
abbrev u9:List Ty:=[.ca cq,.ca (.ca cq),i64,i64]
abbrev pq:List Ty:=[.ca cq]
def W9:oF:=⟨2,kP Tryz.Wl.code 2,[6,25,26,27],(Ps [.ow cq,.im (.ca cq),.n .i64,.n .i64]),[⟨.qS,[6],Ps [.ow cq]⟩]⟩
def ahY:List (Nat×iK):=[]
theorem Xa{V:ByteArray->Bool}{cf:cg}(W:WorldC V cf):jd cf (ahY):=.nil
def GA:List Pl->Lf.T Rs:=W9.step (fun _=>none) (je (ahY) 3) 3
def ahZ:kE:=wQ W9 (GA) u9 pq
theorem Xb{V:ByteArray->Bool}{cf:cg}(W:WorldC V cf):jU Rx.w (ahZ) (fun n d=>ly (cf n d) n (.bl 2 (.lp W9.body))):=lW (W.toWorld.in (Xa W) 3) (cu _) (m:=3) u9 pq
def L55:Nat->Option kE:=tO [(0,ahX),(2,ahZ)]
abbrev Q0:List Ty:=[.ca (.ca cq)]
abbrev IC:List Ty:=[.ca cq]
def e55:List (Nat×iK):=[]
theorem adZ{V:ByteArray->Bool}{cf:cg}(W:WorldC V cf):jd cf (e55):=.nil
def t55(x:cb Q0):Lf.T (List Pl):=kO (Ps [.im (.ca cq)]) [] (Ps [.ow cq]) L55 Tryz.Wl 3 (je (e55) 3) (cp Q0 x)
def k55(x:cb Q0):Bool:=nA IC (t55 x)
def m55(x:cb Q0):cb IC:=jP IC (t55 x)
def s55:iK:=kf (Ps [.im (.ca cq)]) [] (Ps [.ow cq]) Q0 IC fun x=>.ck (k55 x) (.ok (m55 x))
theorem ad2{V:ByteArray->Bool}{cf:cg}(W:WorldC V cf):(s55).Ok 136 cf:=
 j4 (W.toWorld.in (adZ W) 3) (W.toWorld.st 136 _ rfl) rfl (ku.nh (.cons (b:=W6.body) (by kernel_rfl) (W8 W) (.cons (b:=W9.body) (by kernel_rfl) (Xb W) .nil))) (m:=3) rfl (fun _=>rfl) (fun _=>rfl)
abbrev vP:Ty:=.pair .bool (.pair i64 i64)
abbrev Kb:lV:=.pt 0 (Ps [.im cF,.im cR,.im i64,.im cq,.im cq,.im cI,.im cQ,.n .i64,.im cJ,.im cK,.im cN])
abbrev vb:List Ty:=[.ca cF,.ca cR,.ca i64,.ca cq,.ca cq,.ca cI,.ca cQ,i64,.ca cJ,.ca cK,.ca cN,.ca i64,.ca i64,.ca iF,.bool,.ca vP,i64,i64,i64,i64,u64,u64,.ca i64,.ca tI,i64,i64,i64,i64,i64]
abbrev px:List Ty:=[.ca cF,.ca cR,.ca i64,.ca cq,.ca cq,.ca cI,.ca cQ,i64,.ca cJ,.ca cK,.ca cN,.ca i64,.ca i64,.ca iF,.bool,.ca vP,i64,i64,i64,i64,u64,u64,.ca i64,.ca tI,i64,i64,i64]
def Xc:oF:=⟨2,kP Tryz.x83.code 2,[8,9,11,12,57,58,59,10,80,81,82],(Ps [mV 0,.ow vP,.n .i64,pBI,.im tI,.n .i64,.n .i64,.n .i64,.oo 12 1,.n .i64,.n .i64]),[⟨.qS,[8,9,11,12,57,58,59,10],Ps [mV 0,.ow vP,.n .i64,pBI,.im tI,.n .i64,.n .i64,.n .i64]⟩]⟩
def ah1:List (Nat×iK):=[]
theorem Xd{V:ByteArray->Bool}{cf:cg}(W:WorldC V cf):jd cf (ah1):=.nil
def f202:List Pl->Lf.T Rs:=Xc.step (fun _=>none) (je (ah1) 3) 3
def ah2:kE:=wQ Xc (f202) vb px
theorem Xe{V:ByteArray->Bool}{cf:cg}(W:WorldC V cf):jU Rx.w (ah2) (fun n d=>ly (cf n d) n (.bl 2 (.lp Xc.body))):=lW (W.toWorld.in (Xd W) 3) (cu _) (m:=3) vb px
def anI:Nat->Option kE:=tO [(2,ah2)]
abbrev la:List Ty:=[.ca cF,.ca cR,.ca i64,.ca cq,.ca cq,.ca cI,.ca cQ,i64,.ca cJ,.ca cK,.ca cN,.ca i64,.ca i64,.ca iF,.bool,.ca vP,.ca tI,i64,i64]
abbrev kp:List Ty:=[.ca vP]
abbrev lh:List Ty:=[.ca vP,.bool]
def Xf:oF:=⟨0,kP Tryz.x83.code 0,[8,9,57,58,59],(Ps [mV 0,.ow vP,.im tI,.n .i64,.n .i64]),[⟨.qS,[9],Ps [.ow vP]⟩,⟨.rt,[4,5],Ps [.ow vP,.bo]⟩]⟩
def ah3:List (Nat×iK):=[(143,s62)]
theorem Xg{V:ByteArray->Bool}{cf:cg}(W:WorldC V cf):jd cf (ah3):=(.cons (adW W) .nil)
def f200:List Pl->Lf.T Rs:=Xf.step anI (je (ah3) 3) 3
def ah4:kE:=BP Xf (f200) la kp lh
theorem Xh{V:ByteArray->Bool}{cf:cg}(W:WorldC V cf):jU Rx.w (ah4) (fun n d=>ly (cf n d) n (.bl 0 (.lp Xf.body))):=pg (W.toWorld.in (Xg W) 3) (ku.nh (.cons (b:=Xc.body) (by kernel_rfl) (Xe W) .nil)) (m:=3) la kp lh
def L20:Nat->Option kE:=tO [(0,ah4)]
abbrev Q1:List Ty:=[.ca cF,.ca cR,.ca i64,.ca cq,.ca cq,.ca cI,.ca cQ,i64,.ca cJ,.ca cK,.ca cN,i64]
abbrev D4:List Ty:=[.ca vP,.bool]
def e20:List (Nat×iK):=[(29,s10),(140,s59),(141,s60)]
theorem ad3{V:ByteArray->Bool}{cf:cg}(W:WorldC V cf):jd cf (e20):=(.cons (A9 W) (.cons (adY W) (.cons (Iw W.toWorld) .nil)))
def t20(x:cb Q1):Lf.T (List Pl):=kO (Ps [pM,.n .i64]) [] (Ps [.tu (Ps [.ow vP,.bo])]) L20 Tryz.x83 3 (je (e20) 3) (cp Q1 x)
def k20(x:cb Q1):Bool:=nA D4 (t20 x)
def m20(x:cb Q1):cb D4:=jP D4 (t20 x)
def s20:iK:=kf (Ps [pM,.n .i64]) [] (Ps [.tu (Ps [.ow vP,.bo])]) Q1 D4 fun x=>.ck (k20 x) (.ok (m20 x))
theorem ad4{V:ByteArray->Bool}{cf:cg}(W:WorldC V cf):(s20).Ok 83 cf:=
 j4 (W.toWorld.in (ad3 W) 3) (W.toWorld.st 83 _ rfl) rfl (ku.nh (.cons (b:=Xf.body) (by kernel_rfl) (Xh W) .nil)) (m:=3) rfl (fun _=>rfl) (fun _=>rfl)
abbrev ua:List Ty:=[i64,.ca cF,.ca cR,.ca i64,.ca cq,.ca cq,.ca cI,.ca cQ,i64,.ca cJ,.ca cK,.ca cN,.ca cJ,i64,i64,.ca i64,i64,i64]
abbrev sB:List Ty:=[i64,.ca cF,.ca cR,.ca i64,.ca cq,.ca cq,.ca cI,.ca cQ,i64,.ca cJ,.ca cK,.ca cN,.ca cJ,i64,i64]
abbrev uC:List Ty:=[.bool]
def Xi:oF:=⟨2,kP Tryz.P7.code 2,[1,2,12,13,14,29,30,31],(Ps [.n .i64,Kb,.im cJ,.n .i64,.n .i64,.im i64,.n .i64,.n .i64]),[⟨.qS,[1,2,12,13,14],Ps [.n .i64,Kb,.im cJ,.n .i64,.n .i64]⟩,⟨.rt,[4],Ps [.bo]⟩]⟩
def ah6:List (Nat×iK):=[]
theorem Xj{V:ByteArray->Bool}{cf:cg}(W:WorldC V cf):jd cf (ah6):=.nil
def ID:List Pl->Lf.T Rs:=Xi.step (fun _=>none) (je (ah6) 3) 3
def ah7:kE:=BP Xi (ID) ua sB uC
theorem Xk{V:ByteArray->Bool}{cf:cg}(W:WorldC V cf):jU Rx.w (ah7) (fun n d=>ly (cf n d) n (.bl 2 (.lp Xi.body))):=pg (W.toWorld.in (Xj W) 3) (cu _) (m:=3) ua sB uC
def anK:Nat->Option kE:=tO [(2,ah7)]
abbrev sX:List Ty:=[i64,.ca cF,.ca cR,.ca i64,.ca cq,.ca cq,.ca cI,.ca cQ,i64,.ca cJ,.ca cK,.ca cN,.ca cJ,i64,i64]
abbrev qt:List Ty:=[.ca cF,.ca cR,.ca i64,.ca cq,.ca cq,.ca cI,.ca cQ,i64,.ca cJ,.ca cK,.ca cN]
abbrev qu:List Ty:=[.bool]
def Xl:oF:=⟨0,kP Tryz.P7.code 0,[1,2,12,13,14],(Ps [.n .i64,Kb,.im cJ,.n .i64,.n .i64]),[⟨.qS,[2],Ps [Kb]⟩,⟨.rt,[4],Ps [.bo]⟩]⟩
def ah8:List (Nat×iK):=[(137,s56)]
theorem Xm{V:ByteArray->Bool}{cf:cg}(W:WorldC V cf):jd cf (ah8):=(.cons (It W.toWorld) .nil)
def IE:List Pl->Lf.T Rs:=Xl.step anK (je (ah8) 3) 3
def ah9:kE:=BP Xl (IE) sX qt qu
theorem Xn{V:ByteArray->Bool}{cf:cg}(W:WorldC V cf):jU Rx.w (ah9) (fun n d=>ly (cf n d) n (.bl 0 (.lp Xl.body))):=pg (W.toWorld.in (Xm W) 3) (ku.nh (.cons (b:=Xi.body) (by kernel_rfl) (Xk W) .nil)) (m:=3) sX qt qu
abbrev vc:List Ty:=[.ca cF,.ca cR,.ca i64,.ca cq,.ca cq,.ca cI,.ca cQ,i64,.ca cJ,.ca cK,.ca cN,.ca cN,i64,i64]
abbrev uD:List Ty:=[]
abbrev sC:List Ty:=[.bool]
def Xo:oF:=⟨4,kP Tryz.P7.code 4,[2,41,42,43],(Ps [Kb,.im cN,.n .i64,.n .i64]),[⟨.qS,[],.nil⟩,⟨.rt,[4],Ps [.bo]⟩]⟩
def ah':List (Nat×iK):=[(137,s56)]
theorem Xp{V:ByteArray->Bool}{cf:cg}(W:WorldC V cf):jd cf (ah'):=(.cons (It W.toWorld) .nil)
def L7:List Pl->Lf.T Rs:=Xo.step (fun _=>none) (je (ah') 3) 3
def aia:kE:=BP Xo (L7) vc uD sC
theorem Xr{V:ByteArray->Bool}{cf:cg}(W:WorldC V cf):jU Rx.w (aia) (fun n d=>ly (cf n d) n (.bl 4 (.lp Xo.body))):=pg (W.toWorld.in (Xp W) 3) (cu _) (m:=3) vc uD sC
def L58:Nat->Option kE:=tO [(0,ah9),(4,aia)]
abbrev Q2:List Ty:=[.ca cF,.ca cR,.ca i64,.ca cq,.ca cq,.ca cI,.ca cQ,i64,.ca cJ,.ca cK,.ca cN,i64]
abbrev GB:List Ty:=[.bool]
def e58:List (Nat×iK):=[]
theorem ad5{V:ByteArray->Bool}{cf:cg}(W:WorldC V cf):jd cf (e58):=.nil
def t58(x:cb Q2):Lf.T (List Pl):=kO (Ps [pM,.n .i64]) [] (Ps [.bo]) L58 Tryz.P7 3 (je (e58) 3) (cp Q2 x)
def k58(x:cb Q2):Bool:=nA GB (t58 x)
def m58(x:cb Q2):cb GB:=jP GB (t58 x)
def s58:iK:=kf (Ps [pM,.n .i64]) [] (Ps [.bo]) Q2 GB fun x=>.ck (k58 x) (.ok (m58 x))
theorem ad6{V:ByteArray->Bool}{cf:cg}(W:WorldC V cf):(s58).Ok 139 cf:=
 j4 (W.toWorld.in (ad5 W) 3) (W.toWorld.st 139 _ rfl) rfl (ku.nh (.cons (b:=Xl.body) (by kernel_rfl) (Xn W) (.cons (b:=Xo.body) (by kernel_rfl) (Xr W) .nil))) (m:=3) rfl (fun _=>rfl) (fun _=>rfl)
end Go.Proofs.Vd


noncomputable section
namespace Go.Proofs
abbrev Nx:=ByteArray×Int×Int
def nO(s:ByteArray)(ns:List ByteArray):Bool:= @decide (s∈ns) (Classical.propDecidable _)
def anN(cs:List Int)(xs:List Nx)(k:Nat):Bool:= !(nO (xs.getD k (ByteArray.empty,0,0)).1 ((xs.take k).map Prod.fst))&& !decide (cs.getD (xs.getD k (ByteArray.empty,0,0)).2.1.toNat 0<=(xs.getD k (ByteArray.empty,0,0)).2.2)
def aic(cs:List Int)(xs:List Nx):Bool:=(List.range xs.length).all (anN cs xs)
end Go.Proofs

noncomputable section
namespace Go.Proofs.Vd
open Go.Ab Go.Ab.Lf
set_option maxRecDepth 100000
def ad7(t:List (den cF))(im:List (den cR))(fs:List Int)(st:Int):Bool:=bif decide (st= -1)then true else
 bif jh t (jj im fs st)then(bif decide (((iB t (jj im fs st)).1.length:Int)=0)then decide (((iB t (jj im fs st)).2.length:Int)=0)else false)else false
def gNx(ex:List (den cQ)):Bool:=decide (ex.length=0)
def Q3(x:cb ZI):Bool:=iD (fun e=>decide (0<=e.2.1)&&decide (e.2.1<=3)) x.2.2.2.2.2.2.1&&((decide (x.2.2.2.2.2.2.2.1<9223372036854775808)&&decide (x.2.1.length<=1099511627776))&&decide (x.2.2.2.2.2.2.1.length<=1099511627776))&&gNx x.2.2.2.2.2.2.1&&gT x.1
def mNm(x:cb ZI):Bool:=bif aic [x.2.2.2.2.2.2.2.2.2.2.2.1,(x.2.2.2.1.length:Int),(x.2.2.2.2.1.length:Int),(x.2.2.2.2.2.1.length:Int)] x.2.2.2.2.2.2.1 then ad7 x.1 x.2.1 x.2.2.1 x.2.2.2.2.2.2.2.1 else false
def s57:iK:=kf (Ps [pM,.n .i64]) [] (Ps [.bo]) ZI [.bool] fun x=>.ck (Q3 x) (.ok (mNm x,()))
structure WorldN(V:ByteArray->Bool)(cf:cg):Prop extends WorldC V cf where
 nm:s57.Ok 138 cf
abbrev rI:List Ty:=[i64,.ca cF,.ca cR,.ca i64,.ca cq,.ca cq,.ca cI,.ca cQ,i64,.ca cJ,.ca cK,.ca cN,i64,i64]
abbrev py:List Ty:=[i64,.ca cF,.ca cR,.ca i64,.ca cq,.ca cq,.ca cI,.ca cQ,i64,.ca cJ,.ca cK,.ca cN]
abbrev qv:List Ty:=[.bool]
def Xs:oF:=⟨0,kP Tryz.x82.code 0,[3,1,18,19],(Ps [.n .i64,Kb,.n .i64,.n .i64]),[⟨.qS,[3,1],Ps [.n .i64,Kb]⟩,⟨.rt,[2],Ps [.bo]⟩]⟩
def aid:List (Nat×iK):=[(29,s10)]
theorem Xt{V:ByteArray->Bool}{cf:cg}(W:WorldN V cf):jd cf (aid):=(.cons (A9 W.toWorldC) .nil)
def f190:List Pl->Lf.T Rs:=Xs.step (fun _=>none) (je (aid) 3) 3
def aie:kE:=BP Xs (f190) rI py qv
theorem Xu{V:ByteArray->Bool}{cf:cg}(W:WorldN V cf):jU Rx.w (aie) (fun n d=>ly (cf n d) n (.bl 0 (.lp Xs.body))):=pg (W.toWorld.in (Xt W) 3) (cu _) (m:=3) rI py qv
abbrev ub:List Ty:=[i64,.ca cF,.ca cR,.ca i64,.ca cq,.ca cq,.ca cI,.ca cQ,i64,.ca cJ,.ca cK,.ca cN,.ca cq,i64,i64]
abbrev qw:List Ty:=[i64,.ca cF,.ca cR,.ca i64,.ca cq,.ca cq,.ca cI,.ca cQ,i64,.ca cJ,.ca cK,.ca cN]
abbrev sD:List Ty:=[.bool]
def Xv:oF:=⟨2,kP Tryz.x82.code 2,[3,1,46,47,48],(Ps [.n .i64,Kb,.im cq,.n .i64,.n .i64]),[⟨.qS,[3,1],Ps [.n .i64,Kb]⟩,⟨.rt,[2],Ps [.bo]⟩]⟩
def aif:List (Nat×iK):=[]
theorem Xw{V:ByteArray->Bool}{cf:cg}(W:WorldN V cf):jd cf (aif):=.nil
def f192:List Pl->Lf.T Rs:=Xv.step (fun _=>none) (je (aif) 3) 3
def aih:kE:=BP Xv (f192) ub qw sD
theorem Xx{V:ByteArray->Bool}{cf:cg}(W:WorldN V cf):jU Rx.w (aih) (fun n d=>ly (cf n d) n (.bl 2 (.lp Xv.body))):=pg (W.toWorld.in (Xw W) 3) (cu _) (m:=3) ub qw sD
abbrev uc:List Ty:=[i64,.ca cF,.ca cR,.ca i64,.ca cq,.ca cq,.ca cI,.ca cQ,i64,.ca cJ,.ca cK,.ca cN,.ca cI,i64,i64]
abbrev qx:List Ty:=[i64,.ca cF,.ca cR,.ca i64,.ca cq,.ca cq,.ca cI,.ca cQ,i64,.ca cJ,.ca cK,.ca cN]
abbrev sE:List Ty:=[.bool]
def Xy:oF:=⟨4,kP Tryz.x82.code 4,[3,1,76,77,78],(Ps [.n .i64,Kb,.im cI,.n .i64,.n .i64]),[⟨.qS,[3,1],Ps [.n .i64,Kb]⟩,⟨.rt,[2],Ps [.bo]⟩]⟩
def aii:List (Nat×iK):=[(137,s56)]
theorem Xz{V:ByteArray->Bool}{cf:cg}(W:WorldN V cf):jd cf (aii):=(.cons (It W.toWorld) .nil)
def f194:List Pl->Lf.T Rs:=Xy.step (fun _=>none) (je (aii) 3) 3
def aij:kE:=BP Xy (f194) uc qx sE
theorem XA{V:ByteArray->Bool}{cf:cg}(W:WorldN V cf):jU Rx.w (aij) (fun n d=>ly (cf n d) n (.bl 4 (.lp Xy.body))):=pg (W.toWorld.in (Xz W) 3) (cu _) (m:=3) uc qx sE
def L19:Nat->Option kE:=tO [(0,aie),(2,aih),(4,aij)]
abbrev Q4:List Ty:=[.ca cF,.ca cR,.ca i64,.ca cq,.ca cq,.ca cI,.ca cQ,i64,.ca cJ,.ca cK,.ca cN]
abbrev yR:List Ty:=[.bool]
def e19:List (Nat×iK):=[(136,s55),(138,s57),(139,s58)]
theorem ad9{V:ByteArray->Bool}{cf:cg}(W:WorldN V cf):jd cf (e19):=(.cons (ad2 W.toWorldC) (.cons W.nm (.cons (ad6 W.toWorldC) .nil)))
def t19(x:cb Q4):Lf.T (List Pl):=kO (Ps [pM]) [] (Ps [.bo]) L19 Tryz.x82 3 (je (e19) 3) (cp Q4 x)
def k19(x:cb Q4):Bool:=nA yR (t19 x)
def m19(x:cb Q4):cb yR:=jP yR (t19 x)
def s19:iK:=kf (Ps [pM]) [] (Ps [.bo]) Q4 yR fun x=>.ck (k19 x) (.ok (m19 x))
theorem ad'{V:ByteArray->Bool}{cf:cg}(W:WorldN V cf):(s19).Ok 82 cf:=
 j4 (W.toWorld.in (ad9 W) 3) (W.toWorld.st 82 _ rfl) rfl (ku.nh (.cons (b:=Xs.body) (by kernel_rfl) (Xu W) (.cons (b:=Xv.body) (by kernel_rfl) (Xx W) (.cons (b:=Xy.body) (by kernel_rfl) (XA W) .nil)))) (m:=3) rfl (fun _=>rfl) (fun _=>rfl)
abbrev D5:List Ty:=[.ca cF,.ca cR,.ca i64,.ca cq,.ca cq,.ca cI,.ca cQ,i64,.ca cJ,.ca cK,.ca cN,i64,i64]
abbrev xW:List Ty:=[]
abbrev vE:List Ty:=[i64]
def l8x:oF:=⟨0,kP Tryz.x50.code 0,[1,21,22],(Ps [Kb,.n .i64,.n .i64]),[⟨.qS,[],.nil⟩,⟨.rt,[2],Ps [.n .i64]⟩]⟩
def e8x:List (Nat×iK):=[(83,s20)]
theorem aea{V:ByteArray->Bool}{cf:cg}(W:WorldN V cf):jd cf (e8x):=(.cons (ad4 W.toWorldC) .nil)
def f8x:List Pl->Lf.T Rs:=l8x.step (fun _=>none) (je (e8x) 3) 3
def c8x:kE:=BP l8x (f8x) D5 xW vE
theorem aeb{V:ByteArray->Bool}{cf:cg}(W:WorldN V cf):jU Rx.w (c8x) (fun n d=>ly (cf n d) n (.bl 0 (.lp l8x.body))):=pg (W.toWorld.in (aea W) 3) (cu _) (m:=3) D5 xW vE
def L8:Nat->Option kE:=tO [(0,c8x)]
abbrev ti8:List Ty:=[.ca cF,.ca cR,.ca i64,.ca cq,.ca cq,.ca cI,.ca cQ,i64,.ca cJ,.ca cK,.ca cN]
abbrev XB:List Ty:=[i64]
def e8(V:ByteArray->Bool):List (Nat×iK):=[(81,s18 V),(82,s19)]
theorem ain{V:ByteArray->Bool}{cf:cg}(W:WorldN V cf):jd cf (e8 V):=(.cons (adg W.toWorldV) (.cons (ad' W) .nil))
def t8(V:ByteArray->Bool)(x:cb ti8):Lf.T (List Pl):=kO (Ps [pM]) [] (Ps [.n .i64]) L8 Tryz.x50 3 (je (e8 V) 3) (cp ti8 x)
def k8(V:ByteArray->Bool)(x:cb ti8):Bool:=nA XB (t8 V x)
def m8(V:ByteArray->Bool)(x:cb ti8):cb XB:=jP XB (t8 V x)
def s8(V:ByteArray->Bool):iK:=kf (Ps [pM]) [] (Ps [.n .i64]) ti8 XB fun x=>.ck (k8 V x) (.ok (m8 V x))
theorem aio{V:ByteArray->Bool}{cf:cg}(W:WorldN V cf):(s8 V).Ok 50 cf:=
 j4 (W.toWorld.in (ain W) 3) (W.toWorld.st 50 _ rfl) rfl (ku.nh (.cons (b:=l8x.body) (by kernel_rfl) (aeb W) .nil)) (m:=3) rfl (fun _=>rfl) (fun _=>rfl)
end Go.Proofs.Vd

noncomputable section
namespace Go.Proofs.Vd
open Go.Ab Go.Ab.Lf
set_option maxRecDepth 100000
abbrev W3:=List Int×List (den iF)×Bool
abbrev wk(y:cb tM)(lo:List Int)(w:W3):cb zu:=(y.1,y.2.1,y.2.2.1,y.2.2.2.1,y.2.2.2.2.1,y.2.2.2.2.2.1,y.2.2.2.2.2.2.1,y.2.2.2.2.2.2.2.1,y.2.2.2.2.2.2.2.2.1,y.2.2.2.2.2.2.2.2.2.1,y.2.2.2.2.2.2.2.2.2.2.1,lo,w.1,w.2.1,w.2.2,())
abbrev sF(y:cb tM)(lo:List Int)(w:W3)(i:den tI):cb Iy:=(y.1,y.2.1,y.2.2.1,y.2.2.2.1,y.2.2.2.2.1,y.2.2.2.2.2.1,y.2.2.2.2.2.2.1,y.2.2.2.2.2.2.2.1,y.2.2.2.2.2.2.2.2.1,y.2.2.2.2.2.2.2.2.2.1,y.2.2.2.2.2.2.2.2.2.2.1,lo,w.1,w.2.1,w.2.2,i.1,i.2.1,i.2.2.1,i.2.2.2.1,i.2.2.2.2.1,i.2.2.2.2.2,())
abbrev TK(y:cb tM)(lo:List Int)(w:W3)(l:List Int):cb L4:=(y.1,y.2.1,y.2.2.1,y.2.2.2.1,y.2.2.2.2.1,y.2.2.2.2.2.1,y.2.2.2.2.2.2.1,y.2.2.2.2.2.2.2.1,y.2.2.2.2.2.2.2.2.1,y.2.2.2.2.2.2.2.2.2.1,y.2.2.2.2.2.2.2.2.2.2.1,lo,w.1,w.2.1,w.2.2,l,())
abbrev TL(y:cb tM)(lo:List Int)(w:W3)(n:Int):cb L6:=(y.1,y.2.1,y.2.2.1,y.2.2.2.1,y.2.2.2.2.1,y.2.2.2.2.2.1,y.2.2.2.2.2.2.1,y.2.2.2.2.2.2.2.1,y.2.2.2.2.2.2.2.2.1,y.2.2.2.2.2.2.2.2.2.1,y.2.2.2.2.2.2.2.2.2.2.1,lo,w.1,w.2.1,w.2.2,n,())
end Go.Proofs.Vd

noncomputable section
namespace Go.Proofs.Vd
open Go.Ab Go.Ab.Lf
set_option maxRecDepth 100000
theorem anQ(y:cb tM)(lo:List Int)(w:W3)(n:Int)(B:den iF)(hB:B=w.2.1.getD (il .i64 (w.2.1.length:Int) 1).toNat (cr iF))(bl:List (den iF))(hbl:bl=(w.2.1.drop 0).take ((il .i64 (w.2.1.length:Int) 1).toNat - 0))
 (S:List Int×Bool)(hS:S=uO B.2.2.2.1 w.2.1 B.2.2.2.1.length w.1 w.2.2)(b1:Bool)(hb:b1=(S.2|| !decide ((S.1.length:Int)=B.2.1))):
 (t75 (TL y lo w n)).val=cz (ij (il .i64 (w.2.1.length:Int) 1) (w.2.1.length:Int)) (cz (decide (B.2.2.2.1.length<=1099511627776)&&okW w.1 w.2.1) (cz (jy 0 (il .i64 (w.2.1.length:Int) 1) (w.2.1.length:Int))
  (bif b1 then cz (roomy 72 (bl.length+1)) (some (cp D3 (wk y lo (S.1,app bl [B],b1))))else
   bif decide (n=5)then cz (decide (bl.length+1<=549755813888)) (cz (decide (S.1.length+B.2.2.1.length<=1099511627776)) (some (cp D3 (wk y lo (S.1++B.2.2.1,jR S.1 bl 5 B.2.2.1 B.2.2.2.1,b1)))))else
   bif !decide (B.1=4)then cz (decide (S.1.length+B.2.2.2.1.length<=1099511627776)) (some (cp D3 (wk y lo (S.1++B.2.2.2.1,bl,b1|| !true))))else
    cz (decide (B.2.2.1.length<=1099511627776)) (cz (decide (S.1.length+B.2.2.2.1.length<=1099511627776)) (some (cp D3 (wk y lo (S.1++B.2.2.2.1,bl,b1|| !decide (B.2.2.1=B.2.2.2.1))))))))):=by
 subst hB;subst hbl;subst hS;subst hb
 kernel_rfl
abbrev wkA(y:cb tM)(lo:List Int)(w:W3)(l w9:List Int)(n:Int):cb yp:=(y.1,y.2.1,y.2.2.1,y.2.2.2.1,y.2.2.2.2.1,y.2.2.2.2.2.1,y.2.2.2.2.2.2.1,y.2.2.2.2.2.2.2.1,y.2.2.2.2.2.2.2.2.1,y.2.2.2.2.2.2.2.2.2.1,y.2.2.2.2.2.2.2.2.2.2.1,lo,w.1,w.2.1,w.2.2,l,w9,n,())
theorem ZL(y:cb tM)(lo:List Int)(w:W3)(L w9:List Int)(i:Int):(QX (cp yp (wkA y lo w L w9 i))).val=
 bif decide (0<=i)then cz (ij i (L.length:Int)) (cz (okW w.1 w.2.1) (cz (roomy 8 (w9.length+1)) (some (Rs.next (cp yp (wkA y lo ((jQ w.1 w.2.1 w.2.2 (L.getD i.toNat (cr i64))).2.1,w.2.1,(jQ w.1 w.2.1 w.2.2 (L.getD i.toNat (cr i64))).2.2) L (app w9 [(jQ w.1 w.2.1 w.2.2 (L.getD i.toNat (cr i64))).1]) (il .i64 i 1)))))))else some (Rs.out 0 (cp sA (TK y lo w w9))):=by kernel_rfl
def Q5{β:Type}(K:List Int->Option β):Nat->Nat->Int->List Int->Option β
 |0,_,_,_=>none
 |f+1,i,j,x=>bif decide ((i:Int)<j)then cz (ij j (x.length:Int)) (cz (ij (i:Int) (x.length:Int)) (cz (ij (i:Int) (x.length:Int)) (cz (ij j ((x.set i (x.getD j.toNat (cr i64))).length:Int)) (Q5 K f (i+1) (il .i64 j 1) ((x.set i (x.getD j.toNat (cr i64))).set j.toNat (x.getD i (cr i64)))))))else K x
theorem anR(y:cb tM)(lo:List Int)(w:W3)(L:List Int)(z:cb sA)(hz:z=oG QX yp sA (wkA y lo w L [] (il .i64 (L.length:Int) 1))):(t85 (TK y lo w L)).val=
 cz (xi QX yp sA (wkA y lo w L [] (il .i64 (L.length:Int) 1))) (Q5 (fun x=>cz (decide (z.2.2.2.2.2.2.2.2.2.2.2.2.1.length+x.length<=1099511627776)) (some (cp Gy (z.1,z.2.1,z.2.2.1,z.2.2.2.1,z.2.2.2.2.1,z.2.2.2.2.2.1,z.2.2.2.2.2.2.1,z.2.2.2.2.2.2.2.1,z.2.2.2.2.2.2.2.2.1,z.2.2.2.2.2.2.2.2.2.1,z.2.2.2.2.2.2.2.2.2.2.1,z.2.2.2.2.2.2.2.2.2.2.2.1,z.2.2.2.2.2.2.2.2.2.2.2.2.1++x,z.2.2.2.2.2.2.2.2.2.2.2.2.2.1,z.2.2.2.2.2.2.2.2.2.2.2.2.2.2.1,())))) 18 0 (il .i64 (z.2.2.2.2.2.2.2.2.2.2.2.2.2.2.2.1.length:Int) 1) z.2.2.2.2.2.2.2.2.2.2.2.2.2.2.2.1):=by
 subst hz
 kernel_rfl
abbrev iz(w:W3)(t:Int):W3:=((jQ w.1 w.2.1 w.2.2 t).2.1,w.2.1,(jQ w.1 w.2.1 w.2.2 t).2.2)
abbrev j7(w:W3)(L:List Int):W3:=((uO L w.2.1 L.length w.1 w.2.2).1,w.2.1,(uO L w.2.1 L.length w.1 w.2.2).2)
abbrev vF(w:W3):W3:=(w.1.take (iY w.2.1).2.1.toNat,w.2.1.set (w.2.1.length - 1) (wX (iY w.2.1)),w.2.2)
abbrev yS(w:W3)(l:Int):W3:=(w.1,w.2.1,bif decide ((w.2.1.length:Int)<=l)then true else w.2.2)
abbrev pz(w:W3)(L:List Int):W3:=(w.1++L,w.2.1,w.2.2)
abbrev kh(w:W3)(c:Bool):W3:=(w.1,w.2.1,w.2.2|| !c)
abbrev cW(w:W3):Bool:=okW w.1 w.2.1
abbrev cT(w:W3)(L:List Int):Bool:=decide (L.length<=1099511627776)&&okW w.1 w.2.1
abbrev cG(w:W3)(L:List Int):Bool:=decide (w.1.length+L.length<=1099511627776)
abbrev cL(w:W3)(l:Int):Bool:=decide (0<=l)&&decide (w.2.1.length<=1099511627776)
theorem anS(y:cb tM)(lo:List Int)(w:W3)(i:den tI):(t86 (sF y lo w i)).val=
 (let gl:=y.2.2.2.2.2.1
 let R:=fun(t:Int) (ok:Bool)=>bif (bif !decide (i.1=32)then !decide (i.1=35)else false)then cz (cW w) (bif (bif !decide (i.1=33)then !decide (i.1=36)else false)then cz (cG (iz (kh w ok) t) [t]) (some (cp wZ (wk y lo (pz (iz (kh w ok) t) [t]))))else some (cp wZ (wk y lo (iz (kh w ok) t))))
  else bif (bif !decide (i.1=33)then !decide (i.1=36)else false)then cz (cG w [t]) (some (cp wZ (wk y lo (pz (kh w ok) [t]))))else some (cp wZ (wk y lo (kh w ok)))
 let G:=cz (ij i.2.1 (gl.length:Int)&&bif decide (i.1=35)then true else ij i.2.1 (gl.length:Int)) (R (bif decide (i.1=35)then(gl.getD i.2.1.toNat (cr cI)).1 else(gl.getD i.2.1.toNat (cr cI)).1) (bif decide (i.1=35)then true else(gl.getD i.2.1.toNat (cr cI)).2.1))
 bif (bif decide (i.1<=34)then decide (i.2.1<(lo.length:Int))else false)then cz (ij i.2.1 (lo.length:Int)) (bif (bif decide (34<i.1)then decide (i.2.1<(gl.length:Int))else false)then G else R (lo.getD i.2.1.toNat (cr i64)) true)
  else bif (bif decide (34<i.1)then decide (i.2.1<(gl.length:Int))else false)then G else R 0 false):=by kernel_rfl
abbrev wkJ(y:cb tM)(lo:List Int)(w:W3)(last l:List Int)(n i:Int):cb w6:=(y.1,y.2.1,y.2.2.1,y.2.2.2.1,y.2.2.2.2.1,y.2.2.2.2.2.1,y.2.2.2.2.2.2.1,y.2.2.2.2.2.2.2.1,y.2.2.2.2.2.2.2.2.1,y.2.2.2.2.2.2.2.2.2.1,y.2.2.2.2.2.2.2.2.2.2.1,lo,w.1,w.2.1,w.2.2,last,l,n,i,())
theorem ZM(y:cb tM)(lo:List Int)(w:W3)(last L:List Int)(n i:Int)(l:Int)(hl:l=L.getD i.toNat (cr i64))(u:W3)(hu:u=kh (yS w l) (decide (((lN w.2.1 l).length:Int)=(last.length:Int))))(z:cb Gy)(hz:z=m85 (TK y lo u (lN w.2.1 l))):(L5 (cp w6 (wkJ y lo w last L n i))).val=
 bif decide (i<n)then cz (ij i (L.length:Int)) (cz (cL w l) (cz (k85 (TK y lo u (lN w.2.1 l))) (some (Rs.next (cp w6 (z.1,z.2.1,z.2.2.1,z.2.2.2.1,z.2.2.2.2.1,z.2.2.2.2.2.1,z.2.2.2.2.2.2.1,z.2.2.2.2.2.2.2.1,z.2.2.2.2.2.2.2.2.1,z.2.2.2.2.2.2.2.2.2.1,z.2.2.2.2.2.2.2.2.2.2.1,z.2.2.2.2.2.2.2.2.2.2.2.1,z.2.2.2.2.2.2.2.2.2.2.2.2.1,z.2.2.2.2.2.2.2.2.2.2.2.2.2.1,z.2.2.2.2.2.2.2.2.2.2.2.2.2.2.1,last,L,n,iA .i64 i 1,()))))))
 else some (Rs.out 0 (cp qp (TK y lo w last))):=by
 subst hz;subst hu;subst hl
 kernel_rfl
theorem air(y:cb tM)(lo:List Int)(w:W3)(i:den tI)(u:W3)(hu:u=yS (iz w 127) i.2.1)(T:List Int)(hT:T=lN w.2.1 i.2.1)(z:cb qp)(hz:z=oG L5 w6 qp (wkJ y lo u T i.2.2.2.2.2 (i.2.2.2.2.2.length:Int) 0)):(t77 (sF y lo w i)).val=
 (let D:=fun v:W3=>cz (cW v) (some (cp Be (wk y lo (vF v))))
 bif decide (i.1=0)then D w else
 bif decide (i.1=12)then cz (cL w i.2.1) (cz (cT (yS w i.2.1) T) (D (j7 (yS w i.2.1) T)))else
 bif decide (i.1=13)then cz (cW w) (cz (cL (iz w 127) i.2.1) (cz (cT u T) (cz (cG (j7 u T) T) (some (cp Be (wk y lo (pz (j7 u T) T)))))))else
 bif decide (i.1=14)then cz (cW w) (cz (cL (iz w 127) i.2.1) (cz (xi L5 w6 qp (wkJ y lo u T i.2.2.2.2.2 (i.2.2.2.2.2.length:Int) 0)) (
  let v:W3:=(z.2.2.2.2.2.2.2.2.2.2.2.2.1,z.2.2.2.2.2.2.2.2.2.2.2.2.2.1,z.2.2.2.2.2.2.2.2.2.2.2.2.2.2.1)
  let S:=j7 v z.2.2.2.2.2.2.2.2.2.2.2.2.2.2.2.1
  cz (cT v z.2.2.2.2.2.2.2.2.2.2.2.2.2.2.2.1) (cz (cW S) (some (cp Be (z.1,z.2.1,z.2.2.1,z.2.2.2.1,z.2.2.2.2.1,z.2.2.2.2.2.1,z.2.2.2.2.2.2.1,z.2.2.2.2.2.2.2.1,z.2.2.2.2.2.2.2.2.1,z.2.2.2.2.2.2.2.2.2.1,z.2.2.2.2.2.2.2.2.2.2.1,z.2.2.2.2.2.2.2.2.2.2.2.1,(vF S).1,(vF S).2.1,(vF S).2.2,())))))))else
 bif decide (i.1=15)then cz (ij 0 (w.2.1.length:Int)) (let O:=(w.2.1.getD 0 (cr iF)).2.2.2.1;cz (cT w O) (D (j7 w O)))else
 cz (k86 (sF y lo w i)) (some (cp Be (m86 (sF y lo w i))))):=by
 subst hz;subst hu;subst hT
 kernel_rfl
end Go.Proofs.Vd
