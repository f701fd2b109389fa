import Derived.Test.YtjeanplhkkpdmaaGreatDoorVdW
noncomputable section
namespace Go.Proofs.Vd
open Go.Ab Go.Ab.Lf
set_option maxRecDepth 100000
abbrev adR:List Ty:=.cq i64::.cq i64::mT [.cq i64,.cq i64,.cq jT,.bool]
def nh(t:List (den jK))(l:Int):den jK:=bif decide (0<=l)then jO t l else bif decide (l= -64)then([],[])else([],[jR .i64 l 128])
def su(t:List (den jK))(l:Int)(bad:Bool):Bool:=bif decide (0<=l)then bad|| !(kG t l)else bad
def e74:List (Nat×jJ):=[(75,s21),(173,s76)]
theorem amJ{V cb}(W:WorldC V cb):j1 cb e74:=.cons (O0 W) (.cons (Au W.toWorld) .nil)
def s74:jJ:=kR (Ps [qp 0,.n .i64]) [14] (Ps [.ag (Ps [.ow i64,.ow i64]),qp 14]) SW adR fun x=>match x with
 |(t,im,fs,tb,me,gl,ex,st,el,co,da,lo,ko,bl,bad,l,_)=>.ck (gT t) (.ok ((nh t l).1,(nh t l).2,t,im,fs,tb,me,gl,ex,st,el,co,da,lo,ko,bl,su t l bad,()))
theorem amK(t:List (den jK))(im:List (den kg))(fs:List Int)(tb me:List (den cF))(gl:List (den jQ))(ex:List (den kf))(st:Int)(el:List (den jS))(co:List (den jV))(da:List (den jZ))(lo ko:List Int)(bl:List (den jT))(bad:Bool)(l:Int):(mN (Ps [qp 0,.n .i64]) [14] (Ps [.ag (Ps [.ow i64,.ow i64]),qp 14]) (fun _=>none) Tryz.asS 3 (j7 e74 3) (cg SW (t,im,fs,tb,me,gl,ex,st,el,co,da,lo,ko,bl,bad,l,()))).val=
 bif decide (0<=l)then cy (gT t)<|some (cg adR ((jO t l).1,(jO t l).2,t,im,fs,tb,me,gl,ex,st,el,co,da,lo,ko,bl,bad|| !(kG t l),()))else bif decide (l= -64)then some (cg adR ([],[],t,im,fs,tb,me,gl,ex,st,el,co,da,lo,ko,bl,bad,()))else some (cg adR ([],[jR .i64 l 128],t,im,fs,tb,me,gl,ex,st,el,co,da,lo,ko,bl,bad,())):=by kernel_rfl
theorem amL{V cb}(W:WorldC V cb):s74.Ok 171 cb:=by
 refine j4 (W.toWorld.in (amJ W) 3) (W.st 171 _ rfl) rfl (cp _) (m:=3) rfl ?_;rintro⟨t,im,fs,tb,me,gl,ex,st,el,co,da,lo,ko,bl,bad,l,⟨⟩⟩ q h;obtain⟨h0,h⟩:=Lf.T.cw h;cases h;rw[amK,h0];unfold nh su;cases decide (0<=l)<;>cases decide (l= -64)<;>rfl
abbrev tOp:List Ty:=mT [.cq i64,.cq i64,.cq jT,.bool,i64,.cq i64,.cq i64]
def DJ(bl:List (den jT)):Bool:=bif decide ((0:Int)<(bl.length:Int))then(bif (kB bl).2.2.2.2.2 then !(kB bl).2.2.2.2.1 else false)else true
def mu(ko:List Int)(bl:List (den jT))(op:Int)(i o:List Int):List (den jT):=bl++[(op,(ko.length:Int),i,o,false,DJ bl)]
def s60:jJ:=kR (Ps [qp 0,.n .i64,.ag (Ps [.im i64,.im i64])]) [14] (Ps [.tu .nil,qp 14]) tOp EC fun x=>match x with
 |(t,im,fs,tb,me,gl,ex,st,el,co,da,lo,ko,bl,bad,op,i,o,_)=>.ck (decide (bl.length+1<=549755813888)) (.ok (t,im,fs,tb,me,gl,ex,st,el,co,da,lo,ko,mu ko bl op i o,bad,()))
theorem amM(t:List (den jK))(im:List (den kg))(fs:List Int)(tb me:List (den cF))(gl:List (den jQ))(ex:List (den kf))(st:Int)(el:List (den jS))(co:List (den jV))(da:List (den jZ))(lo ko:List Int)(bl:List (den jT))(bad:Bool)(op:Int)(i o:List Int):(mN (Ps [qp 0,.n .i64,.ag (Ps [.im i64,.im i64])]) [14] (Ps [.tu .nil,qp 14]) (fun _=>none) Tryz.asN 3 (j7 [] 3) (cg tOp (t,im,fs,tb,me,gl,ex,st,el,co,da,lo,ko,bl,bad,op,i,o,()))).val=
 bif decide ((0:Int)<(bl.length:Int))then bif jA (jF .i64 (bl.length:Int) 1) (bl.length:Int)then bif (bl.getD (jF .i64 (bl.length:Int) 1).toNat (cr jT)).2.2.2.2.2 then bif jA (jF .i64 (bl.length:Int) 1) (bl.length:Int)then
  bif roomy 72 (bl.length+1)then some (cg EC (t,im,fs,tb,me,gl,ex,st,el,co,da,lo,ko,app bl [(op,(ko.length:Int),i,o,false,!(bl.getD (jF .i64 (bl.length:Int) 1).toNat (cr jT)).2.2.2.2.1)],bad,()))else none else none
  else bif roomy 72 (bl.length+1)then some (cg EC (t,im,fs,tb,me,gl,ex,st,el,co,da,lo,ko,app bl [(op,(ko.length:Int),i,o,false,false)],bad,()))else none else none
 else bif roomy 72 (bl.length+1)then some (cg EC (t,im,fs,tb,me,gl,ex,st,el,co,da,lo,ko,app bl [(op,(ko.length:Int),i,o,false,true)],bad,()))else none:=by kernel_rfl
theorem O1{cb:cx}(W:World cb):s60.Ok 141 cb:=by
 refine j4 (W.in .nil 3) (W.st 141 _ rfl) rfl (cp _) (m:=3) rfl ?_;rintro⟨t,im,fs,tb,me,gl,ex,st,el,co,da,lo,ko,bl,bad,op,i,o,⟨⟩⟩ q h;obtain⟨h1,h2⟩:=Lf.T.cw h;cases h2;have h1:bl.length+1<=549755813888:=of_decide_eq_true h1;have hr:roomy 72 (bl.length+1)=true:=by
  rw[tC];constructor<;>omega
 rw[amM,hr];simp only[cZ];show _=some (cg EC (t,im,fs,tb,me,gl,ex,st,el,co,da,lo,ko,mu ko bl op i o,bad,()));unfold mu DJ;by_cases h0:0<bl.length
 ·have hb:jA ((bl.length - 1:Nat):Int) (bl.length:Int)=true:=kF (by omega);rw[JD h0 (by omega),hb,decide_eq_true (show(0:Int)<(bl.length:Int) by omega),Int.toNat_natCast];rw[show bl.getD (bl.length - 1) (cr jT)=kB bl from rfl];cases(kB bl).2.2.2.2.2<;>simp only[cond_true,cond_false]
 ·rw[decide_eq_false (show ¬ (0:Int)<(bl.length:Int) by omega)];simp only[cond_true,cond_false]
abbrev tLb:List Ty:=.cq i64::mT [.cq i64,.cq i64,.cq jT,.bool]
def s84:jJ:=kR (Ps [qp 0,.n .i64]) [14] (Ps [.im i64,qp 14]) SW tLb fun x=>match x with
 |(t,im,fs,tb,me,gl,ex,st,el,co,da,lo,ko,bl,bad,l,_)=>.ck (decide (0<=l)&&decide (bl.length<=1099511627776)) (.ok (pd bl l,t,im,fs,tb,me,gl,ex,st,el,co,da,lo,ko,bl,bif decide ((bl.length:Int)<=l)then true else bad,()))
theorem amN(t:List (den jK))(im:List (den kg))(fs:List Int)(tb me:List (den cF))(gl:List (den jQ))(ex:List (den kf))(st:Int)(el:List (den jS))(co:List (den jV))(da:List (den jZ))(lo ko:List Int)(bl:List (den jT))(bad:Bool)(l:Int):(mN (Ps [qp 0,.n .i64]) [14] (Ps [.im i64,qp 14]) (fun _=>none) Tryz.asW 3 (j7 [] 3) (cg SW (t,im,fs,tb,me,gl,ex,st,el,co,da,lo,ko,bl,bad,l,()))).val=
 bif decide ((bl.length:Int)<=l)then some (cg tLb ([],t,im,fs,tb,me,gl,ex,st,el,co,da,lo,ko,bl,true,()))else bif jA (jF .i64 (jF .i64 (Int.ofNat bl.length) 1) l) (Int.ofNat bl.length)then
  bif decide ((bl.getD (jF .i64 (jF .i64 (Int.ofNat bl.length) 1) l).toNat (cr jT)).1=3)then some (cg tLb ((bl.getD (jF .i64 (jF .i64 (Int.ofNat bl.length) 1) l).toNat (cr jT)).2.2.1,t,im,fs,tb,me,gl,ex,st,el,co,da,lo,ko,bl,bad,()))
  else some (cg tLb ((bl.getD (jF .i64 (jF .i64 (Int.ofNat bl.length) 1) l).toNat (cr jT)).2.2.2.1,t,im,fs,tb,me,gl,ex,st,el,co,da,lo,ko,bl,bad,()))else none:=by kernel_rfl
theorem ai'{l:Int}{n:Nat}(h0:0<=l)(h1: ¬ (n:Int)<=l)(hn:n<=1099511627776):jA (jF .i64 (jF .i64 (Int.ofNat n) 1) l) (Int.ofNat n)=true:=by
 have e1:jF .i64 (Int.ofNat n) 1=(n:Int) - 1:=by
  show kK .i64 ((n:Int) - 1)=_;exact wrap_i64 (by omega) (by omega)
 have e2:jF .i64 ((n:Int) - 1) l=(n:Int) - 1 - l:=by
  show kK .i64 ((n:Int) - 1 - l)=_;exact wrap_i64 (by omega) (by omega)
 rw[e1,e2];exact nZ.2 ⟨by omega,by show(n:Int) - 1 - l<(n:Int);omega⟩
theorem X8{cb:cx}(W:World cb):s84.Ok 195 cb:=by
 refine j4 (W.in .nil 3) (W.st 195 _ rfl) rfl (cp _) (m:=3) rfl ?_;rintro⟨t,im,fs,tb,me,gl,ex,st,el,co,da,lo,ko,bl,bad,l,⟨⟩⟩ q h;obtain⟨h1,h2⟩:=Lf.T.cw h;cases h2;simp only[Bool.and_eq_true,decide_eq_true_eq]at h1;rw[amN];show _=some (cg tLb (pd bl l,t,im,fs,tb,me,gl,ex,st,el,co,da,lo,ko,bl,bif decide ((bl.length:Int)<=l)then true else bad,()));unfold pd;by_cases hl:(bl.length:Int)<=l
 ·rw[decide_eq_true hl];simp only[cond_true]
 ·rw[decide_eq_false hl,ai' h1.1 hl h1.2];simp only[cond_true,cond_false];cases decide ((bl.getD (jF .i64 (jF .i64 (Int.ofNat bl.length) 1) l).toNat (cr jT)).1=3)<;>simp only[cond_true,cond_false]
abbrev t82:List Ty:=[.cq i64,.cq i64,i64,i64]
def l82:qV:=⟨0,mV Tryz.alF.code 0,[0,1,12,13],Ps [.im i64,.im i64,.n .i64,.n .i64],[⟨.s7,[],.nil⟩,⟨.rt,[4],Ps [.bo]⟩]⟩
theorem Gt(a b:List Int)(n i:Int):(l82.step (fun _=>none) (j7 [] 3) 3 (cg t82 (a,b,n,i,()))).val=
 bif decide (i<n)then bif (jA i (Int.ofNat a.length)&&jA i (Int.ofNat b.length))then bif !decide (a.getD i.toNat (cr i64)=b.getD i.toNat (cr i64))then some (Rs.out 1 (cg [.bool] (false,())))else some (Rs.next (cg t82 (a,b,n,jR .i64 i 1,())))else none else some (Rs.out 0 (cg [] ())):=by kernel_rfl
theorem QJ(a b:List Int)(n:Nat)(hn:n<=1099511627776): ∀ (k:Nat) (j:Nat),j+k=n->a.length=n->b.length=n->(∀ i,i<j->a.getD i (cr i64)=b.getD i (cr i64))->
 oU (l82.step (fun _=>none) (j7 [] 3) 3) (cg t82 (a,b,(n:Int),(j:Int),())) (bif decide (a=b)then 0 else 1) (bif decide (a=b)then cg [] ()else cg [.bool] (false,()))
 |0,j,hj,ha,hb,h=>by
  have hab:a=b:=by
   apply List.ext_getElem (ha.trans hb.symm);intro i h1 h2;have:=h i (by omega);rw[List.getD_eq_getElem?_getD,List.getD_eq_getElem?_getD,List.getElem?_eq_getElem h1,List.getElem?_eq_getElem h2]at this;exact this
  rw[decide_eq_true hab];refine .last ?_;rw[Gt,km (by omega)];rfl
 |k+1,j,hj,ha,hb,h=>by
  have hx:(jA (j:Int) (Int.ofNat a.length)&&jA (j:Int) (Int.ofNat b.length))=true:=by
   rw[kF (by omega),kF (by omega)];rfl
  by_cases hq:a.getD j (cr i64)=b.getD j (cr i64)
  ·refine .more ?_ (QJ a b n hn k (j+1) (by omega) ha hb (fun i hi=>by
    by_cases e:i=j
    ·subst e;exact hq
    ·exact h i (by omega)))
   rw[Gt,kY (by omega),hx,Int.toNat_natCast,decide_eq_true hq,rM (by omega)];rfl
  ·have hab: ¬ a=b:=fun e=>hq (by rw[e])
   rw[decide_eq_false hab];refine .last ?_;rw[Gt,kY (by omega),hx,Int.toNat_natCast,decide_eq_false hq];rfl
def g82:ca t82->T (Nat×List Pl):=fun x=>.ck ((decide (x.2.2.1=(x.1.length:Int))&&decide (x.2.2.2.1=0))&&(decide (x.2.1.length=x.1.length)&&decide (x.1.length<=1099511627776))) (.br (decide (x.1=x.2.1)) (.ok (0,cg [] ())) (.ok (1,cg [.bool] (false,()))))
theorem amP(x:ca t82)(k:Nat)(q:List Pl)(h:(g82 x).val=some (k,q)):oU (l82.step (fun _=>none) (j7 [] 3) 3) (cg t82 x) k q:=by
 obtain⟨a,b,n,i,⟨⟩⟩:=x;obtain⟨h1,h2⟩:=Lf.T.cw h;simp only[Bool.and_eq_true,decide_eq_true_eq]at h1;obtain⟨⟨b1,b2⟩,b3,b4⟩:=h1;subst b1;subst b2;have:=QJ a b a.length b4 a.length 0 (by omega) rfl b3 (fun i hi=>absurd hi (Nat.not_lt_zero i));rw[Lf.T.kX]at h2;cases hd:decide (a=b)with
 |true=>
  have Sc:decide ((a,b,(a.length:Int),(0:Int),()).1=(a,b,(a.length:Int),(0:Int),()).2.1)=true:=hd;rw[hd]at this;simp only[hd,cond_true]at h2;cases h2;exact this
 |false=>
  rw[hd]at this;simp only[hd,cond_false]at h2;cases h2;exact this
def L82:Nat->Option mB:=vF [(0,w6 l82 t82 g82)]
def s82:jJ:=kR (Ps [.im i64,.im i64]) [] (Ps [.bo]) [.cq i64,.cq i64] [.bool] fun x=>.ck (decide (x.1.length<=1099511627776)) (.ok (decide (x.1=x.2.1),()))
theorem amQ(a b:List Int):(mN (Ps [.im i64,.im i64]) [] (Ps [.bo]) L82 Tryz.alF 3 (j7 [] 3) (cg [.cq i64,.cq i64] (a,b,()))).val=
 bif !decide ((a.length:Int)=(b.length:Int))then some (cg [.bool] (false,()))else bif (decide ((a.length:Int)=(a.length:Int))&&decide ((0:Int)=0))&&(decide (b.length=a.length)&&decide (a.length<=1099511627776))then
  bif decide (a=b)then some (cg [.bool] (true,()))else some (cg [.bool] (false,()))else none:=by kernel_rfl
theorem amR{cb:cx}(W:World cb):s82.Ok 193 cb:=by
 have C:=W.in .nil 3;have hl:lE Rx.w (w6 l82 t82 g82) (fun n d=>nO (cb n d) n (.bl 0 (.lp l82.body))):=oW C (cp _) (m:=3) amP;refine j4 C (W.st 193 _ rfl) rfl (L:=L82) (mz.pH (.cons (b:=l82.body) (by kernel_rfl) hl .nil)) (m:=3) rfl ?_;rintro⟨a,b,⟨⟩⟩ q h;obtain⟨h1,h2⟩:=Lf.T.cw h;cases h2;have h1:a.length<=1099511627776:=of_decide_eq_true h1;rw[amQ];show _=some (cg [.bool] (decide (a=b),()));by_cases hl:a.length=b.length
 ·rw[decide_eq_true (show(a.length:Int)=(b.length:Int) by omega),decide_eq_true hl.symm,decide_eq_true h1];simp only[decide_true,Bool.and_self,Bool.not_true,cond_false,cond_true];cases decide (a=b)<;>simp only[cond_true,cond_false]
 ·rw[decide_eq_false (show ¬ (a.length:Int)=(b.length:Int) by omega),decide_eq_false (show ¬ a=b from fun e=>hl (by rw[e]))];simp only[Bool.not_false,cond_true]
end Go.Proofs.Vd
noncomputable section
namespace Go.Ab.Lf
def SX(to:List Ty)(t:T (List Pl)):Bool:=
 T.rec (motive:=fun _=>Bool) false (fun l=>(toT to l).isSome) (fun _ _ _ a b=>a&&b) (fun _ _ a=>a) t
def BW(t:T (List Pl)):List Bool:=T.rec (motive:=fun _=>List Bool) [] (fun _=>[]) (fun _ _ _ a b=>app a b) (fun c _ a=>c::a) t
theorem BX{to:List Ty}: ∀ {t:T (List Pl)},SX to t=true->(∀ c,c∈BW t->c=true)->mf to t=true
 | .bad,h,_=>by cases h
 | .ok l,h,_=>EA (t:=.ok l) h
 | .br c a b,h,k=>by
  have h:(SX to a&&SX to b)=true:=h;have k: ∀ d,d∈app (BW a) (BW b)->d=true:=k;rw[cZ]at k;obtain⟨h1,h2⟩:=Bool.and_eq_true_iff.1 h
  have q1:=BX h1 fun d hd=>k d (List.mem_append_left _ hd)
  have q2:=BX h2 fun d hd=>k d (List.mem_append_right _ hd)
  unfold mf at*;rw[T.kX];cases c
  ·exact q2
  ·exact q1
 | .ck c a,h,k=>by
  have h:SX to a=true:=h;have k: ∀ d,d∈c::BW a->d=true:=k
  have q1:=BX h fun d hd=>k d (List.mem_cons_of_mem _ hd)
  have hc:c=true:=k c (List.mem_cons_self ..);subst hc;unfold mf at*;rw[T.qS];exact q1
theorem atd{call:lL}{cb:cx}(C:vu call cb){f:FuncId}{b:Cv}(hb:sJ cb f b)(vU:Nat.ble b.ntmps 512=true){L:Nat->Option mB}(hL:pH Rx.w cb L b.code){m:Nat}{P:n9}{ptr:List Nat}{Q:n9}{ti to:List Ty}{out:ca ti->ca to}{g:ca ti->Bool}
 (h0:jC (fun g=> !(Nat.beq g 0)) ptr=true)(h1: ∀ x,SX to (mN P ptr Q L b m call (cg ti x))=true)(hc: ∀ x,g x=true-> ∀ c,c∈BW (mN P ptr Q L b m call (cg ti x))->c=true)(h2: ∀ x,out x=j9 to (mN P ptr Q L b m call (cg ti x))):(kR P ptr Q ti to fun x=>.ck (g x) (.ok (out x))).Ok f cb:=by
 refine j4 C hb vU hL (m:=m) h0 fun x y h=>?_
 obtain⟨k1,k2⟩:=T.cw h;cases k2;rw[h2];exact yh (BX (h1 x) (hc x k1))
end Go.Ab.Lf
namespace Go.Proofs.Vd
open Go.Ab Go.Ab.Lf
set_option maxRecDepth 100000
abbrev tFi:List Ty:=mT [.cq i64,.cq i64,.cq jT,.bool,i64,i64,i64,u64,u64,.cq i64,i64,i64,.bool,.cq i64,.cq i64]
abbrev ate:n9:=.ag (Ps [.n .i64,.n .i64,.bo,.im i64,.im i64])
def e70:List (Nat×jJ):=[(173,s76),(39,s81)]
theorem amS{cb:cx}(W:World cb):j1 cb e70:=.cons (Au W) (.cons (Xp W) .nil)
def t70(x:ca tFi):Lf.T (List Pl):=mN (Ps [qp 0,pI,ate]) [14] (Ps [.tu .nil,qp 14]) (fun _=>none) Tryz.asP 20 (j7 e70 20) (cg tFi x)
def adS(x:ca tFi):ca EC:=j9 EC (t70 x)
def adT(x:ca tFi):Bool:=match x with
 |(t,im,fs,tb,me,gl,ex,st,el,co,da,lo,ko,bl,bad,_,_,_,_,_,_,_,zh,_,_,_,_)=>decide (0<=zh)
def s70:jJ:=kR (Ps [qp 0,pI,ate]) [14] (Ps [.tu .nil,qp 14]) tFi EC fun x=>.ck (adT x) (.ok (adS x))
theorem amT{cb:cx}(W:World cb):s70.Ok 167 cb:=by
 refine atd (W.in (amS W) 20) (W.st 167 _ rfl) rfl (cp _) (m:=20) rfl ?_ ?_ (fun _=>rfl)
 ·rintro⟨t,im,fs,tb,me,gl,ex,st,el,co,da,lo,ko,bl,bad,o,a,b,l1,l2,l,f,zh,pl,i2,o2,⟨⟩⟩
  kernel_rfl
 ·rintro⟨t,im,fs,tb,me,gl,ex,st,el,co,da,lo,ko,bl,bad,o,a,b,l1,l2,l,f,zh,pl,i2,o2,⟨⟩⟩ h c hc
  have e:BW (t70 (t,im,fs,tb,me,gl,ex,st,el,co,da,lo,ko,bl,bad,o,a,b,l1,l2,l,f,zh,pl,i2,o2,()))=List.replicate 6 (decide (0<=zh)):=by kernel_rfl
  have hc:c∈BW (t70 (t,im,fs,tb,me,gl,ex,st,el,co,da,lo,ko,bl,bad,o,a,b,l1,l2,l,f,zh,pl,i2,o2,())):=hc;rw[e]at hc;exact(List.eq_of_mem_replicate hc).trans h
end Go.Proofs.Vd
noncomputable section
namespace Go.Proofs.Vd
open Go.Ab Go.Ab.Lf
set_option maxRecDepth 100000
def Wx(n:Nat)(F:wc)(bs:List Int)(p:Bool):Prop:=bs.length<=n/\ ∀ s:St,s.1.length+n<=1099511627776-> ∀ (α:Type) (K:St->Option α),F α s K=K (s.1++bs,s.2|| !p)
section
variable {n m:Nat}{F G:wc}{bs cs:List Int}{p q:Bool}
theorem Wx.le(h:Wx n F bs p)(hm:n<=m):Wx m F bs p:=⟨Nat.le_trans h.1 hm,fun s hs=>h.2 s (by omega)⟩
theorem Wx.seq(h1:Wx n F bs p)(h2:Wx m G cs q):Wx (n+m) (fun α s K=>F α s fun s=>G α s K) (bs++cs) (p&&q):=by
 refine⟨?_,fun s hs α K=>?_⟩
 ·have:=h1.1;have:=h2.1;simp only[List.length_append];omega
 ·show F α s _=_;have l1:=h1.1;rw[h1.2 s (by omega)];show G α (s.1++bs,s.2|| !p) K=_;rw[h2.2 (s.1++bs,s.2|| !p) (by simp only[List.length_append];omega)]
  have e:(s.2|| !p|| !q)=(s.2|| !(p&&q)):=by cases s.2<;>cases p<;>cases q<;>rfl
  simp only[List.append_assoc,e]
theorem Wx.bif{c:Bool}(h1:Wx n F bs p)(h2:Wx n G cs q):Wx n (fun α s K=>bif c then F α s K else G α s K) (bif c then bs else cs) (bif c then p else q):=by
 cases c
 ·exact h2
 ·exact h1
theorem Wx.eq(h:Wx n F bs p)(e1:bs=cs)(e2:p=q):Wx n F cs q:=by subst e1;subst e2;exact h
theorem Wx.mw(h:Wx n F bs p){s:St}(hs:s.1.length+n<=1099511627776):mW F s=(s.1++bs,s.2|| !p):=by
 unfold mW;rw[h.2 s hs];rfl
end
theorem pe(c:Bool):Wx 0 (qd c) [] c:=⟨Nat.le_refl _,fun s _ α K=>by simp[qd]⟩
theorem lN(l:List Int):Wx l.length (oZ l) l true:=⟨Nat.le_refl _,fun s hs α K=>by unfold oZ cy;rw[decide_eq_true hs];simp⟩
def nb(n:Int):List Int:=qc (cI .u64 n)
def og(n:Int):Bool:=decide (0<=n)&&decide (n<4294967296)
def yW(t:Int):Bool:=decide (t=127)||(decide (t=126)||decide (t=123))
def Im(l:List Int):List Int:=l.foldr (fun n r=>nb n++r) []
def kbs(l:List Int):List Int:=l.map (cI .u8)
theorem w9(n:Int):(nb n).length<=10:=qZ _
theorem QK: ∀ l:List Int,(Im l).length<=10*l.length
 | []=>Nat.le_refl _
 |x::l=>by
  have h1:=w9 x;have h2:=QK l;show(nb x++Im l).length<=_;simp only[List.length_append,List.length_cons];omega
theorem yp(l:List Int): ∀ s:St,jU s l=(s.1++Im l,s.2|| !(l.all og)):=by
 induction l with
 |nil=>intro s;simp[jU,Im]
 |cons x l ih=>
  intro s;show jU (BR s x) l=_;rw[ih];have e:(s.2|| !og x|| !(l.all og))=(s.2|| !((x::l).all og)):=by
   simp only[List.all_cons];cases s.2<;>cases og x<;>cases l.all og<;>rfl
  show((s.1++nb x)++Im l,s.2|| !og x|| !(l.all og))=_;rw[e,List.append_assoc];rfl
theorem Ip(l:List Int): ∀ s:St,mG s l=(s.1++kbs l,s.2|| !(l.all yW)):=by
 induction l with
 |nil=>intro s;simp[mG,kbs]
 |cons x l ih=>
  intro s;show mG (w8 s x) l=_;rw[ih];have e:(s.2|| !yW x|| !(l.all yW))=(s.2|| !((x::l).all yW)):=by
   simp only[List.all_cons];cases s.2<;>cases yW x<;>cases l.all yW<;>rfl
  show((s.1++[cI .u8 x])++kbs l,s.2|| !yW x|| !(l.all yW))=_;rw[e,List.append_assoc];rfl
theorem lW(l:List Int):Wx (10*l.length) (oB l) (Im l) (l.all og):=⟨QK l,fun s hs α K=>by unfold oB cy;rw[decide_eq_true hs,yp];rfl⟩
theorem wh(l:List Int):Wx l.length (Ar l) (kbs l) (l.all yW):=⟨by unfold kbs;simp,fun s hs α K=>by unfold Ar cy;rw[decide_eq_true hs,Ip];rfl⟩
theorem JP(l:List Int):Wx l.length (Hm l) l true:=⟨Nat.le_refl _,fun s hs α K=>by unfold Hm cy;rw[jW (by omega) hs,cZ];simp⟩
theorem wj{ok:Bool}{n:Nat}{F:wc}{bs:List Int}{p:Bool}(h:Wx n F bs p)(ho:ok=true):Wx n (wT ok n F) bs p:=⟨h.1,fun s hs α K=>by unfold wT cy;rw[ho,decide_eq_true hs,h.mw hs];rfl⟩
theorem Gu(c:List (den tI))(h:wI c=true):Wx (xI c) (Uh (c,())) (wb c) (decide (uI c=0)):=by
 have h':=h;simp only[wI,Bool.and_eq_true,decide_eq_true_eq]at h';have hl:=Gk c h'.1;exact⟨hl,fun s hs α K=>by show cy (wI c) (cy (roomy 1 (s.1.length+(wb c).length)) _)=_;unfold cy;rw[h,jW (by omega) (by omega)];simp only[cZ];rfl⟩
structure Iq{α:Type}(A:Item α) where
 bs:α->List Int
 p:α->Bool
 wx: ∀ x,A.ok x=true->Wx (A.wt x) (A.G x) (bs x) (p x)
def Av{α:Type}{A:Item α}(B:Iq A)(l:List α):List Int:=l.foldr (fun x r=>B.bs x++r) []
theorem Gv{α:Type}{A:Item α}(B:Iq A): ∀ (l:List α),jC A.ok l=true->(Av B l).length<=rE A.wt l
 | [],_=>Nat.le_refl _
 |x::l,h=>by
  obtain⟨h1,h2⟩:=qz h;have:=(B.wx x h1).1;have:=Gv B l h2;show(B.bs x++Av B l).length<=_;rw[ym];simp only[List.length_append];omega
theorem QL{α:Type}{A:Item α}(B:Iq A): ∀ (l:List α),jC A.ok l=true-> ∀ s:St,s.1.length+rE A.wt l<=1099511627776->At A.G s l=(s.1++Av B l,s.2|| !(l.all B.p))
 | [],_,s,_=>by simp[At,Av]
 |x::l,h,s,hs=>by
  obtain⟨h1,h2⟩:=qz h;rw[ym]at hs;have e:=(B.wx x h1).mw (s:=s) (by omega);have hl:=(B.wx x h1).1;show At A.G (mW (A.G x) s) l=_;rw[e,QL B l h2 _ (by simp only[List.length_append];omega)];have e2:(s.2|| !B.p x|| !(l.all B.p))=(s.2|| !((x::l).all B.p)):=by
   simp only[List.all_cons];cases s.2<;>cases B.p x<;>cases l.all B.p<;>rfl
  show((s.1++B.bs x)++Av B l,s.2|| !B.p x|| !(l.all B.p))=_;rw[e2,List.append_assoc];rfl
theorem X9(id:Int)(b:List Int)(k:Bool):Wx (11+b.length) (F47 (id,b,k,())) (id::(nb (b.length:Int)++b)) (!k&&og (b.length:Int)):=by
 refine(((pe (!k)).seq ((lN [id]).seq ((lW [(b.length:Int)]).seq (JP b)))).le (m:=11+b.length) (by simp only[List.length_cons,List.length_nil];omega)).eq ?_ ?_
 ·show []++([id]++((nb _++[])++b))=_;simp
 ·simp
theorem adU(id:Int)(b:List Int)(k:Bool):DZ (id,b,k,())=11+b.length:=by
 show 0+(1+(10+b.length))=_;omega
theorem aAT(id:Int)(b:List Int)(k:Bool)(s:St)(h:s.1.length+(11+b.length)<=1099511627776)(α:Type)(K:St->Option α):
 wT true (DZ (id,b,k,())) (F47 (id,b,k,())) α s K=K (s.1++(id::(nb (b.length:Int)++b)),s.2|| !(!k&&og (b.length:Int))):=by
 rw[adU];exact(wj (X9 id b k) rfl).2 s h α K
def wm{α:Type}{A:Item α}(B:Iq A)(id:Int)(l:List α):List Int:=bif decide ((l.length:Int)=0)then []else id::(nb ((nb (l.length:Int)++Av B l).length:Int)++(nb (l.length:Int)++Av B l))
def nU{α:Type}{A:Item α}(B:Iq A)(most:Int)(l:List α):Bool:=decide ((l.length:Int)<=most)&&bif decide ((l.length:Int)=0)then true else
 ((og (l.length:Int)&&l.all B.p)&&og ((nb (l.length:Int)++Av B l).length:Int))
theorem atf{t:Ty}{A:Item (den t)}(B:Iq A)(id most:Int)(l:List (den t))(h:jC A.ok l=true):Wx (21+rE A.wt l) (FS A (id,most,l,())) (wm B id l) (nU B most l):=by
 have hr:=Gv B l h;have hn:=w9 (l.length:Int);refine⟨?_,fun s hs α K=>?_⟩
 ·unfold wm;cases decide ((l.length:Int)=0)with
  |true=>exact Nat.zero_le _
  |false=>
   have:=w9 ((nb (l.length:Int)++Av B l).length:Int);simp only[cond_false,List.length_cons,List.length_append]at this ⊢;omega
 ·show qd _ α s (fun s=>bif decide ((l.length:Int)=0)then K s else _)=_;unfold qd
  show(bif decide ((l.length:Int)=0)then K (s.1,s.2|| !decide ((l.length:Int)<=most))else cy (decide (([]:List Int).length+10*[(l.length:Int)].length<=1099511627776)) (cy ((decide ((l.length:Int)=(l.length:Int))&&decide ((0:Int)=0))&&(jC A.ok l&&decide ((jU ([],s.2|| !decide ((l.length:Int)<=most)) [(l.length:Int)]).1.length+rE A.wt l<=1099511627776)))
   (wT true (DZ (id,(At A.G (jU ([],s.2|| !decide ((l.length:Int)<=most)) [(l.length:Int)]) l).1,(At A.G (jU ([],s.2|| !decide ((l.length:Int)<=most)) [(l.length:Int)]) l).2,())) (F47 (id,(At A.G (jU ([],s.2|| !decide ((l.length:Int)<=most)) [(l.length:Int)]) l).1,(At A.G (jU ([],s.2|| !decide ((l.length:Int)<=most)) [(l.length:Int)]) l).2,())) α (s.1,s.2|| !decide ((l.length:Int)<=most)) K)))=_
  unfold wm nU;generalize hm:decide ((l.length:Int)<=most)=c;cases h0:decide ((l.length:Int)=0)with
  |true=>simp
  |false=>
   have e1:jU ([],s.2|| !c) [(l.length:Int)]=(nb (l.length:Int),s.2|| !c|| !(og (l.length:Int))):=by
    rw[yp];show([]++(nb _++[]),_)=_;simp
   have e2:=QL B l h (nb (l.length:Int),s.2|| !c|| !(og (l.length:Int))) (Nat.le_trans (Nat.add_le_add_right hn _) (by omega));rw[e1,e2,h];have c2:(nb (l.length:Int)).length+rE A.wt l<=1099511627776:=Nat.le_trans (Nat.add_le_add_right hn _) (by omega)
   have c3:(nb (l.length:Int)++Av B l).length<=10+rE A.wt l:=by rw[List.length_append];omega
   have k1:((decide ((l.length:Int)=(l.length:Int))&&decide ((0:Int)=0))&&(true&&decide ((nb (l.length:Int),s.2|| !c|| !(og (l.length:Int))).1.length+rE A.wt l<=1099511627776)))=true:=by
    rw[Bool.and_eq_true,Bool.and_eq_true,Bool.and_eq_true];exact⟨⟨decide_eq_true rfl,decide_eq_true rfl⟩,rfl,decide_eq_true c2⟩
   have c0:decide (([]:List Int).length+10*[(l.length:Int)].length<=1099511627776)=true:=decide_eq_true (by simp only[List.length_cons,List.length_nil];omega);rw[k1,c0,aAT id _ _ (s.1,s.2|| !c) (Nat.le_trans (Nat.add_le_add_left (Nat.add_le_add_left c3 11) s.1.length) (by omega))];unfold cy;rw[cond_true,cond_true,cond_false,cond_false];congr 2;generalize og (l.length:Int)=u1;generalize og ((nb (l.length:Int)++Av B l).length:Int)=u2;generalize l.all B.p=u3;cases s.2<;>cases c<;>cases u1<;>cases u2<;>cases u3<;>rfl
end Go.Proofs.Vd
noncomputable section
namespace Go.Proofs.Vd
open Go.Ab Go.Ab.Lf
set_option maxRecDepth 100000
def b36(s:ByteArray):List Int:=[]++(Im [(s.size:Int)]++mSt s)
def p36(V:ByteArray->Bool)(s:ByteArray):Bool:=V s&&([(s.size:Int)].all og&&true)
theorem JQ(V:ByteArray->Bool)(s:ByteArray)(hg:Ik s=true):Wx (BU (s,())) (Xy V (s,())) (b36 s) (p36 V s):=by
 have e:Xy V (s,())=fun α t K=>qd (V s) α t fun t=>oB [(s.size:Int)] α t fun t=>Hm (mSt s) α t K:=by
  unfold Xy;rw[show Ik (s,()).1=true from hg];rfl
 rw[e];refine((pe (V s)).seq ((lW [(s.size:Int)]).seq (JP (mSt s)))).le ?_;rw[QF];show _<=10+s.size;simp only[List.length_cons,List.length_nil];omega
def b41(x:den cF):List Int:=[]++bif decide (x.2= -1)then [0]++Im [x.1]else [1]++Im [x.1,x.2]
def p41(mo:Int)(x:den cF):Bool:=decide (x.1<=mo)&&bif decide (x.2= -1)then true&&[x.1].all og else true&&[x.1,x.2].all og
theorem Ya(mo:Int)(x:den cF):Wx 21 (F41 (x.1,x.2,mo,())) (b41 x) (p41 mo x):=
 ((pe _).seq (.bif (((lN [0]).seq (lW [x.1])).le (m:=21) (by simp)) ((lN [1]).seq (lW [x.1,x.2])))).le (by simp)
def Yb:Iq XH:=⟨fun x=>bif decide ((x.1.length:Int)<=32)then []++([96]++(Im [(x.1.length:Int)]++(kbs x.1++(Im [(x.2.length:Int)]++kbs x.2))))else []++([96]++(Im [(x.1.length:Int)]++(kbs x.1++(Im [(x.2.length:Int)]++kbs x.2)))),
 fun x=>bif decide ((x.1.length:Int)<=32)then decide ((x.2.length:Int)<=32)&&(true&&([(x.1.length:Int)].all og&&(x.1.all yW&&([(x.2.length:Int)].all og&&x.2.all yW))))else false&&(true&&([(x.1.length:Int)].all og&&(x.1.all yW&&([(x.2.length:Int)].all og&&x.2.all yW)))),
 fun x _=>.bif ((pe _).seq ((lN [96]).seq ((lW [(x.1.length:Int)]).seq ((wh x.1).seq ((lW [(x.2.length:Int)]).seq (wh x.2))))))
  ((pe _).seq ((lN [96]).seq ((lW [(x.1.length:Int)]).seq ((wh x.1).seq ((lW [(x.2.length:Int)]).seq (wh x.2))))))⟩
def Yc(V:ByteArray->Bool):Iq (XI V):=⟨fun x=>b36 x.1++(b36 x.2.1++([0]++Im [x.2.2])),fun x=>p36 V x.1&&(p36 V x.2.1&&(true&&[x.2.2].all og)),
 fun x h=>(wj (JQ V x.1 (Bool.and_eq_true _ _▸h).1) (Bool.and_eq_true _ _▸h).1).seq ((wj (JQ V x.2.1 (Bool.and_eq_true _ _▸h).2) (Bool.and_eq_true _ _▸h).2).seq ((lN [0]).seq (lW [x.2.2])))⟩
def Yd:Iq XD:=⟨fun x=>Im [x],fun x=>[x].all og,fun x _=>lW [x]⟩
def Ye:Iq XJ:=⟨fun x=>[112]++b41 x,fun x=>true&&p41 1024 x,fun x _=>(lN [112]).seq (wj (Ya 1024 x) rfl)⟩
def Yf:Iq XK:=⟨b41,p41 16,fun x _=>wj (Ya 16 x) rfl⟩
def Yg:Iq XL:=⟨fun x=>kbs [x.1]++bif x.2.1 then [1]++wb x.2.2 else [0]++wb x.2.2,fun x=>[x.1].all yW&&bif x.2.1 then true&&decide (uI x.2.2=0)else true&&decide (uI x.2.2=0),
 fun x h=>(wh [x.1]).seq (.bif ((lN [1]).seq (wj (Gu x.2.2 h) h)) ((lN [0]).seq (wj (Gu x.2.2 h) h)))⟩
def Yh(V:ByteArray->Bool):Iq (XM V):=⟨fun x=>bif decide (0<=x.2.1)then []++(b36 x.1++([cI .u8 x.2.1]++Im [x.2.2]))else []++(b36 x.1++([cI .u8 x.2.1]++Im [x.2.2])),
 fun x=>bif decide (0<=x.2.1)then decide (x.2.1<=3)&&(p36 V x.1&&(true&&[x.2.2].all og))else false&&(p36 V x.1&&(true&&[x.2.2].all og)),
 fun x h=>.bif ((pe _).seq ((wj (JQ V x.1 h) h).seq ((lN [_]).seq (lW [x.2.2])))) ((pe _).seq ((wj (JQ V x.1 h) h).seq ((lN [_]).seq (lW [x.2.2]))))⟩
def SY:Iq SP:=⟨fun x=>[]++([0]++(wb x.1++(Im [(x.2.length:Int)]++Im x.2))),fun x=>decide ((x.2.length:Int)<=1024)&&(true&&(decide (uI x.1=0)&&([(x.2.length:Int)].all og&&x.2.all og))),
 fun x h=>(pe _).seq ((lN [0]).seq ((wj (Gu x.1 h) h).seq ((lW [(x.2.length:Int)]).seq (lW x.2))))⟩
def SZ:Iq SQ:=⟨fun x=>[0]++(wb x.1++(Im [(x.2.length:Int)]++x.2)),fun x=>true&&(decide (uI x.1=0)&&([(x.2.length:Int)].all og&&true)),
 fun x h=>(lN [0]).seq ((wj (Gu x.1 h) h).seq ((lW [(x.2.length:Int)]).seq (lN x.2)))⟩
def JR(L:List Int):Nat->Nat->List Int
 |0,_=>[]
 |k+1,i=>if i<L.length then nb (oe L (i:Int):Int)++([cI .u8 (L.getD i (cr i64))]++JR L k (i+oe L (i:Int)))else []
def MC(L:List Int):Nat->Nat->Bool
 |0,_=>true
 |k+1,i=>if i<L.length then og (oe L (i:Int):Int)&&(yW (L.getD i (cr i64))&&MC L k (i+oe L (i:Int)))else true
theorem Gw(L:List Int): ∀ (k:Nat) (s:St) (i:Nat),yn L k s i=(s.1++JR L k i,s.2|| !(MC L k i))
 |0,s,i=>by simp[yn,JR,MC]
 |k+1,s,i=>by
  unfold yn JR MC;by_cases h:i<L.length
  ·rw[if_pos h,if_pos h,if_pos h,Gw L k,Ip,yp];have e:(s.2|| !([(oe L (i:Int):Int)].all og)|| !([L.getD i (cr i64)].all yW)|| !(MC L k (i+oe L (i:Int))))=(s.2|| !(og (oe L (i:Int):Int)&&(yW (L.getD i (cr i64))&&MC L k (i+oe L (i:Int))))):=by
    simp only[List.all_cons,List.all_nil,Bool.and_true];cases s.2<;>cases og (oe L (i:Int):Int)<;>cases yW (L.getD i (cr i64))<;>cases MC L k (i+oe L (i:Int))<;>rfl
   show((s.1++(nb _++[]))++[cI .u8 (L.getD i (cr i64))]++JR L k (i+oe L (i:Int)),_)=_;simp only[e,List.append_assoc,List.append_nil]
  ·rw[if_neg h,if_neg h,if_neg h];simp
def D6(x:den jV):List Int:=nb (kL x.1 0)++(JR x.1 x.1.length 0++wb x.2)
def S4(x:den jV):Bool:=og (kL x.1 0)&&(MC x.1 x.1.length 0&&decide (uI x.2=0))
theorem amV(x:den jV)(h:wI x.2=true):Wx (Gp (x.1,x.2,())) (F52 (x.1,x.2,())) (nb ((D6 x).length:Int)++D6 x) (decide ((x.1.length:Int)<=512)&&(S4 x&&og ((D6 x).length:Int))):=by
 obtain⟨L,c⟩:=x
 have hw:=(Gu c h)
 have hn:=w9 (kL L 0);have h1: ∀ (L0:L.length<=1099511627776) (hs:10+11*L.length<=1099511627776),(JR L L.length 0).length<=11*L.length:=by
  intro L0 hs;have:=Mz ([],false) L L0 (by show 0+_<=_;omega);unfold D3 at this;rw[Gw]at this
  simpa using this
 have key: ∀ s:St,s.1.length+Gp (L,c,())<=1099511627776->(JR L L.length 0).length<=11*L.length:=by
  intro s hs;have hs:s.1.length+(20+11*L.length+xI c)<=1099511627776:=hs;exact h1 (by omega) (by omega)
 have lc:(JR L L.length 0).length<=11*L.length:=by
  have: ∀ (k i:Nat),L.length<=i+k->i<=L.length->(JR L k i).length<=11*(L.length - i):=by
   intro k
   induction k with
   |zero=>intro i _ _;exact Nat.zero_le _
   |succ k ih=>
    intro i a b;unfold JR;split
    ·rename_i hi
     obtain⟨r1,r2⟩:=JN L i hi;have:=ih (i+oe L (i:Int)) (by omega) r2;have:=w9 (oe L (i:Int):Int);simp only[List.length_append,List.length_cons,List.length_nil];omega
    ·exact Nat.zero_le _
  simpa using this L.length 0 (by omega) (by omega)
 have cl:(D6 (L,c)).length<=10+11*L.length+xI c:=by
  have:=hw.1;unfold D6;simp only[List.length_append];omega
 refine⟨?_,fun s hs α K=>?_⟩
 ·have:=w9 ((D6 (L,c)).length:Int);show _<=20+11*L.length+xI c;simp only[List.length_append];omega
 ·have hs':s.1.length+(20+11*L.length+xI c)<=1099511627776:=hs
  have hL:L.length<=1099511627776:=by omega
  have e1:jU ([],false) [kL L 0]=(nb (kL L 0),!(og (kL L 0))):=by
   rw[yp];show([]++(nb _++[]),_)=_;simp
  have e2:D3 (nb (kL L 0),!(og (kL L 0))) L=(nb (kL L 0)++JR L L.length 0,!(og (kL L 0))|| !(MC L L.length 0)):=by
   unfold D3;rw[Gw]
  have c1:(nb (kL L 0)).length+11*L.length<=1099511627776:=by omega
  have c2:(nb (kL L 0)++JR L L.length 0).length+xI c<=1099511627776:=by simp only[List.length_append];omega
  have e4:(nb (kL L 0)++JR L L.length 0)++wb c=D6 (L,c):=by
   unfold D6;rw[List.append_assoc]
  have e5:((!(og (kL L 0))|| !(MC L L.length 0))|| !(decide (uI c=0)))= !(S4 (L,c)):=by
   unfold S4;generalize og (kL L 0)=u1;generalize MC L L.length 0=u2;generalize decide (uI c=0)=u3;cases u1<;>cases u2<;>cases u3<;>rfl
  have e3: ∀ (α:Type) (K:St->Option α),wT (wI c) (xI c) (Uh (c,())) α (nb (kL L 0)++JR L L.length 0,!(og (kL L 0))|| !(MC L L.length 0)) K=K (D6 (L,c),!(S4 (L,c))):=fun α K=>by
   rw[(wj hw h).2 (nb (kL L 0)++JR L L.length 0,!(og (kL L 0))|| !(MC L L.length 0)) c2];exact congrArg K (Prod.ext e4 e5)
  have c0:decide (([]:List Int).length+10*[kL L 0].length<=1099511627776)=true:=decide_eq_true (by simp only[List.length_cons,List.length_nil];omega);have k1:((decide ((L.length:Int)=(L.length:Int))&&decide ((0:Int)=0))&&decide (L.length<=1099511627776))=true:=by
   rw[Bool.and_eq_true,Bool.and_eq_true];exact⟨⟨decide_eq_true rfl,decide_eq_true rfl⟩,decide_eq_true hL⟩
  have k2:((decide ((0:Int)=0)&&decide (L.length<=1099511627776))&&decide ((nb (kL L 0)).length+11*L.length<=1099511627776))=true:=by
   rw[Bool.and_eq_true,Bool.and_eq_true];exact⟨⟨decide_eq_true rfl,decide_eq_true hL⟩,decide_eq_true c1⟩
  have e6:=((pe (!(!(S4 (L,c))))).seq ((lW [((D6 (L,c)).length:Int)]).seq (JP (D6 (L,c))))).2 (s.1,s.2|| !decide ((L.length:Int)<=512)) (by
   show s.1.length+_<=_;simp only[List.length_cons,List.length_nil]
   omega) α K
  show cy ((decide ((L.length:Int)=(L.length:Int))&&decide ((0:Int)=0))&&decide (L.length<=1099511627776)) (cy (decide (([]:List Int).length+10*[kL L 0].length<=1099511627776)) (cy ((decide ((0:Int)=0)&&decide (L.length<=1099511627776))&&decide ((jU ([],false) [kL L 0]).1.length+11*L.length<=1099511627776)) (wT (wI c) (xI c) (Uh (c,())) α (D3 (jU ([],false) [kL L 0]) L) fun q=>qd (!q.2) α (s.1,s.2|| !decide ((L.length:Int)<=512)) fun s=>oB [(q.1.length:Int)] α s fun s=>Hm q.1 α s K)))=_;rw[e1,e2,e3,k1,k2,c0];unfold cy;rw[cond_true,cond_true,cond_true];refine Eq.trans e6 ?_;congr 2
  ·show s.1++([]++((nb _++[])++D6 (L,c)))=_;simp
  ·show((s.2|| !decide ((L.length:Int)<=512))|| !(!(!(S4 (L,c)))&&((og _&&true)&&true)))=_;generalize decide ((L.length:Int)<=512)=u1;generalize og ((D6 (L,c)).length:Int)=u2;cases s.2<;>cases u1<;>cases S4 (L,c)<;>cases u2<;>rfl
def D7:Iq Nz:=⟨fun x=>nb ((D6 x).length:Int)++D6 x,fun x=>decide ((x.1.length:Int)<=512)&&(S4 x&&og ((D6 x).length:Int)),fun x h=>amV x h⟩
def amW(V:ByteArray->Bool)(y:ca tM):List Int:=wm Yb 1 y.1++(wm (Yc V) 2 y.2.1++(wm Yd 3 y.2.2.1++(wm Ye 4 y.2.2.2.1++(wm Yf 5 y.2.2.2.2.1++(wm Yg 6 y.2.2.2.2.2.1++wm (Yh V) 7 y.2.2.2.2.2.2.1)))))
def Yi(y:ca tM):List Int:=wm SY 9 y.2.2.2.2.2.2.2.2.1++(wm D7 10 y.2.2.2.2.2.2.2.2.2.1++wm SZ 11 y.2.2.2.2.2.2.2.2.2.2.1)
def stB(n:Int):List Int:=bif decide (0<=n)then 8::(nb ((nb n).length:Int)++nb n)else []
def amX(V:ByteArray->Bool)(y:ca tM):Bool:=nU Yb 256 y.1&&(nU (Yc V) 512 y.2.1&&(nU Yd 512 y.2.2.1&&(nU Ye 512 y.2.2.2.1&&(nU Yf 512 y.2.2.2.2.1&&(nU Yg 512 y.2.2.2.2.2.1&&nU (Yh V) 512 y.2.2.2.2.2.2.1)))))
def amY(y:ca tM):Bool:=nU SY 512 y.2.2.2.2.2.2.2.2.1&&(nU D7 512 y.2.2.2.2.2.2.2.2.2.1&&nU SZ 512 y.2.2.2.2.2.2.2.2.2.2.1)
def stP(n:Int):Bool:=decide (-1<=n)&&bif decide (0<=n)then og n&&og ((nb n).length:Int)else true
def enP(V:ByteArray->Bool)(y:ca tM):Bool:=decide ((y.2.2.1.length:Int)=(y.2.2.2.2.2.2.2.2.2.1.length:Int))&&(amX V y&&(stP y.2.2.2.2.2.2.2.1&&amY y))
def enB(V:ByteArray->Bool)(y:ca tM):List Int:=amW V y++(stB y.2.2.2.2.2.2.2.1++Yi y)
theorem S5(n:Int):Wx 21 (XZ n) (8::(nb ((nb n).length:Int)++nb n)) (og n&&og ((nb n).length:Int)):=by
 have hn:=w9 n;have h:=X9 8 (nb n) (!(og n));refine⟨Nat.le_trans h.1 (by omega),fun s hs α K=>?_⟩;have e1:jU ([],false) [n]=(nb n,!(og n)):=by
  rw[yp];show([]++(nb _++[]),_)=_;simp
 show cy (decide (([]:List Int).length+10*[n].length<=1099511627776)) (wT true (DZ (8,(jU ([],false) [n]).1,(jU ([],false) [n]).2,())) (F47 (8,(jU ([],false) [n]).1,(jU ([],false) [n]).2,())) α s K)=_;rw[e1];have c:s.1.length+DZ (8,nb n,!(og n),())<=1099511627776:=by
  show s.1.length+(0+(1+(10+(nb n).length)))<=_;omega
 show wT true (DZ (8,nb n,!(og n),())) (F47 (8,nb n,!(og n),())) α s K=_;unfold wT;rw[decide_eq_true c,h.mw (by omega)];show K _=_;congr 2;generalize og n=u1;generalize og ((nb n).length:Int)=u2;cases s.2<;>cases u1<;>cases u2<;>rfl
theorem rT{t:Ty}{A:Item (den t)}(B:Iq A)(id most:Int)(l:List (den t))(h:jC A.ok l=true):Wx (21+rE A.wt l) (D4 A id most l) (wm B id l) (nU B most l):=wj (atf B id most l h) h
theorem QM(y:ca tM)(h1:jC SP.ok y.2.2.2.2.2.2.2.2.1=true)(h2:jC Nz.ok y.2.2.2.2.2.2.2.2.2.1=true)(h3:jC SQ.ok y.2.2.2.2.2.2.2.2.2.2.1=true):Wx (QG y) (adM y) (Yi y) (amY y):=
 (rT SY 9 512 _ h1).seq ((rT D7 10 512 _ h2).seq (rT SZ 11 512 _ h3))
theorem am0(V:ByteArray->Bool)(y:ca tM)(h:okM V y=true):Wx (OW V y) (F18 V y) (enB V y) (enP V y):=by
 unfold okM at h;simp only[Bool.and_eq_true]at h;obtain⟨h1,h2,h3,h4,h5,h6,h7,h8,h9,h10⟩:=h;have k9:=Wx.bif (c:=decide (0<=y.2.2.2.2.2.2.2.1)) ((S5 y.2.2.2.2.2.2.2.1).seq (QM y h8 h9 h10)) ((QM y h8 h9 h10).le (m:=21+QG y) (Nat.le_add_left _ _));have k8:=(pe (decide (-1<=y.2.2.2.2.2.2.2.1))).seq k9;have k7:=(rT (Yh V) 7 512 _ h7).seq k8;have k6:=(rT Yg 6 512 _ h6).seq k7;have k5:=(rT Yf 5 512 _ h5).seq k6;have k4:=(rT Ye 4 512 _ h4).seq k5;have k3:=(rT Yd 3 512 _ h3).seq k4;have k2:=(rT (Yc V) 2 512 _ h2).seq k3;have k1:=(rT Yb 1 256 _ h1).seq k2;have k0:=(pe (decide ((y.2.2.1.length:Int)=(y.2.2.2.2.2.2.2.2.2.1.length:Int)))).seq k1;refine Wx.eq (F:=F18 V y) k0 ?_ ?_
 ·unfold enB amW stB;generalize decide (0<=y.2.2.2.2.2.2.2.1)=u;cases u<;>simp only[cond_true,cond_false,List.nil_append,List.append_assoc]
 ·unfold enP amX stP;generalize decide (0<=y.2.2.2.2.2.2.2.1)=u;cases u<;>simp only[cond_true,cond_false,Bool.and_assoc,Bool.true_and,Bool.and_true]
theorem JS{V:ByteArray->Bool}{y:ca tM}(h:OX V y=true):Da V y=(s0.1++enB V y,!(enP V y)):=by
 unfold OX at h;simp only[Bool.and_eq_true,decide_eq_true_eq]at h;unfold Da;rw[(am0 V y h.1).mw (s:=s0) h.2];rfl
abbrev Yj:List Ty:=mT [.cq i64,.cq i64,.cq jT,.bool,i64,i64,i64,u64,u64,.cq i64]
abbrev BZ:List Ty:=mT [.cq i64,.cq i64,.cq jT,.bool]
def e86:List (Nat×jJ):=[(169,s72),(170,s73),(173,s76)]
theorem am1{V cb}(W:WorldC V cb):j1 cb (e86):=(.cons (Gr W.toWorld) (.cons (Gq W.toWorld) (.cons (Au W.toWorld) .nil)))
def t86(x:ca Yj):Lf.T (List Pl):=mN (Ps [qp 0,pI]) [14] (Ps [.tu .nil,qp 14]) (fun _=>none) Tryz.asX 3 (j7 (e86) 3) (cg Yj x)
def k86(x:ca Yj):Bool:=mf BZ (t86 x)
def m86(x:ca Yj):ca BZ:=j9 BZ (t86 x)
def s86:jJ:=kR (Ps [qp 0,pI]) [14] (Ps [.tu .nil,qp 14]) Yj BZ fun x=>.ck (k86 x) (.ok (m86 x))
theorem am2{V cb}(W:WorldC V cb):(s86).Ok 197 cb:=
 jP (W.toWorld.in (am1 W) 3) (W.toWorld.st 197 _ rfl) rfl (cp _) (m:=3) rfl (fun _=>rfl) (fun _=>rfl)
abbrev DK:List Ty:=mT [.cq i64,.cq i64,.cq jT,.bool,.cq i64,.cq i64,i64]
abbrev xd:List Ty:=mT [.cq i64,.cq i64,.cq jT,.bool,.cq i64]
def adW:qV:=⟨0,mV Tryz.alG.code 0,[0,1,4,5],(Ps [qp 14,.im i64,.ow i64,.n .i64]),[⟨.s7,[0,4],Ps [qp 14,.ow i64]⟩]⟩
def atj:List (Nat×jJ):=[(170,s73)]
theorem adY{V cb}(W:WorldC V cb):j1 cb (atj):=(.cons (Gq W.toWorld) .nil)
def Yk:List Pl->Lf.T Rs:=adW.step (fun _=>none) (j7 (atj) 3) 3
def atk:mB:=vY adW (Yk) DK xd
theorem adZ{V cb}(W:WorldC V cb):lE Rx.w (atk) (fun n d=>nO (cb n d) n (.bl 0 (.lp adW.body))):=mg (W.toWorld.in (adY W) 3) (cp _) (m:=3) DK xd
def L85:Nat->Option mB:=vF [(0,atk)]
abbrev S6:List Ty:=mT [.cq i64,.cq i64,.cq jT,.bool,.cq i64]
abbrev MD:List Ty:=mT [.cq i64,.cq i64,.cq jT,.bool]
def e85:List (Nat×jJ):=[(169,s72)]
theorem am3{V cb}(W:WorldC V cb):j1 cb (e85):=(.cons (Gr W.toWorld) .nil)
def t85(x:ca S6):Lf.T (List Pl):=mN (Ps [qp 0,.im i64]) [14] (Ps [.tu .nil,qp 14]) L85 Tryz.alG 18 (j7 (e85) 18) (cg S6 x)
def k85(x:ca S6):Bool:=mf MD (t85 x)
def m85(x:ca S6):ca MD:=j9 MD (t85 x)
def s85:jJ:=kR (Ps [qp 0,.im i64]) [14] (Ps [.tu .nil,qp 14]) S6 MD fun x=>.ck (k85 x) (.ok (m85 x))
theorem am4{V cb}(W:WorldC V cb):(s85).Ok 196 cb:=
 jP (W.toWorld.in (am3 W) 18) (W.toWorld.st 196 _ rfl) rfl (mz.pH (.cons (b:=adW.body) (by kernel_rfl) (adZ W) .nil)) (m:=18) rfl (fun _=>rfl) (fun _=>rfl)
abbrev B0:List Ty:=mT [.cq i64,.cq i64,.cq jT,.bool,.cq i64,.cq i64,i64,i64]
abbrev uU:List Ty:=mT [.cq i64,.cq i64,.cq jT,.bool,.cq i64]
def ad0:qV:=⟨1,mV Tryz.alC.code 1,[0,5,51,52,53],(Ps [qp 14,.im i64,.im i64,.n .i64,.n .i64]),[⟨.s7,[0,5],Ps [qp 14,.im i64]⟩]⟩
def atm:List (Nat×jJ):=[(173,s76),(195,s84),(196,s85)]
theorem ad2{V cb}(W:WorldC V cb):j1 cb (atm):=(.cons (Au W.toWorld) (.cons (X8 W.toWorld) (.cons (am4 W) .nil)))
def S7:List Pl->Lf.T Rs:=ad0.step (fun _=>none) (j7 (atm) 3) 3
def atn:mB:=vY ad0 (S7) B0 uU
theorem ad3{V cb}(W:WorldC V cb):lE Rx.w (atn) (fun n d=>nO (cb n d) n (.bl 1 (.lp ad0.body))):=mg (W.toWorld.in (ad2 W) 3) (cp _) (m:=3) B0 uU
def L77:Nat->Option mB:=vF [(1,atn)]
abbrev Yl:List Ty:=mT [.cq i64,.cq i64,.cq jT,.bool,i64,i64,i64,u64,u64,.cq i64]
abbrev Gx:List Ty:=mT [.cq i64,.cq i64,.cq jT,.bool]
def e77:List (Nat×jJ):=[(168,s71),(169,s72),(170,s73),(194,s83),(195,s84),(197,s86)]
theorem am5{V cb}(W:WorldC V cb):j1 cb (e77):=(.cons (OZ W.toWorld) (.cons (Gr W.toWorld) (.cons (Gq W.toWorld) (.cons (amE W.toWorld) (.cons (X8 W.toWorld) (.cons (am2 W) .nil))))))
def t77(x:ca Yl):Lf.T (List Pl):=mN (Ps [qp 0,pI]) [14] (Ps [.tu .nil,qp 14]) L77 Tryz.alC 3 (j7 (e77) 3) (cg Yl x)
def k77(x:ca Yl):Bool:=mf Gx (t77 x)
def m77(x:ca Yl):ca Gx:=j9 Gx (t77 x)
def s77:jJ:=kR (Ps [qp 0,pI]) [14] (Ps [.tu .nil,qp 14]) Yl Gx fun x=>.ck (k77 x) (.ok (m77 x))
theorem am6{V cb}(W:WorldC V cb):(s77).Ok 174 cb:=
 jP (W.toWorld.in (am5 W) 3) (W.toWorld.st 174 _ rfl) rfl (mz.pH (.cons (b:=ad0.body) (by kernel_rfl) (ad3 W) .nil)) (m:=3) rfl (fun _=>rfl) (fun _=>rfl)
abbrev S8:List Ty:=mT [.cq i64,.cq i64,.cq jT,.bool,i64]
abbrev JT:List Ty:=mT [.cq i64,.cq i64,.cq jT,.bool]
def e75:List (Nat×jJ):=[(141,s60),(168,s71),(169,s72),(173,s76),(193,s82)]
theorem am7{V cb}(W:WorldC V cb):j1 cb (e75):=(.cons (O1 W.toWorld) (.cons (OZ W.toWorld) (.cons (Gr W.toWorld) (.cons (Au W.toWorld) (.cons (amR W.toWorld) .nil)))))
def t75(x:ca S8):Lf.T (List Pl):=mN (Ps [qp 0,.n .i64]) [14] (Ps [.tu .nil,qp 14]) (fun _=>none) Tryz.asU 3 (j7 (e75) 3) (cg S8 x)
def k75(x:ca S8):Bool:=mf JT (t75 x)
def m75(x:ca S8):ca JT:=j9 JT (t75 x)
def s75:jJ:=kR (Ps [qp 0,.n .i64]) [14] (Ps [.tu .nil,qp 14]) S8 JT fun x=>.ck (k75 x) (.ok (m75 x))
theorem am8{V cb}(W:WorldC V cb):(s75).Ok 172 cb:=
 jP (W.toWorld.in (am7 W) 3) (W.toWorld.st 172 _ rfl) rfl (cp _) (m:=3) rfl (fun _=>rfl) (fun _=>rfl)
abbrev O2:List Ty:=mT [.cq i64,.cq i64,.cq jT,.bool,i64,i64,i64,u64,u64,.cq i64]
abbrev tc:List Ty:=mT [.cq i64,.cq i64,.cq jT,.bool]
def e62:List (Nat×jJ):=[(29,s10),(25,s11),(75,s21),(141,s60),(167,s70),(168,s71),(169,s72),(170,s73),(171,s74),(172,s75),(173,s76),(174,s77)]
theorem am9{V cb}(W:WorldC V cb):j1 cb (e62):=(.cons (Gs W) (.cons (C6 W.toWorld) (.cons (O0 W) (.cons (O1 W.toWorld) (.cons (amT W.toWorld) (.cons (OZ W.toWorld) (.cons (Gr W.toWorld) (.cons (Gq W.toWorld) (.cons (amL W) (.cons (am8 W) (.cons (Au W.toWorld) (.cons (am6 W) .nil))))))))))))
def t62(x:ca O2):Lf.T (List Pl):=mN (Ps [qp 0,pI]) [14] (Ps [.tu .nil,qp 14]) (fun _=>none) Tryz.asO 3 (j7 (e62) 3) (cg O2 x)
def k62(x:ca O2):Bool:=mf tc (t62 x)
def Ir(x:ca O2):ca tc:=j9 tc (t62 x)
def s62:jJ:=kR (Ps [qp 0,pI]) [14] (Ps [.tu .nil,qp 14]) O2 tc fun x=>.ck (k62 x) (.ok (Ir x))
theorem ana{V cb}(W:WorldC V cb):(s62).Ok 143 cb:=
 jP (W.toWorld.in (am9 W) 3) (W.toWorld.st 143 _ rfl) rfl (cp _) (m:=3) rfl (fun _=>rfl) (fun _=>rfl)
abbrev B3:List Ty:=[.cq (.cq i64),i64,.cq (.cq i64),i64,i64]
abbrev tf:List Ty:=[.cq (.cq i64),i64]
def ad4:qV:=⟨0,mV Tryz.adt.code 0,[0,3,9,10,11],(Ps [.im (.cq i64),.n .i64,.im (.cq i64),.n .i64,.n .i64]),[⟨.s7,[0,3],Ps [.im (.cq i64),.n .i64]⟩]⟩
def atu:List (Nat×jJ):=[]
theorem ad5{V cb}(W:WorldC V cb):j1 cb (atu):=.nil
def O3:List Pl->Lf.T Rs:=ad4.step (fun _=>none) (j7 (atu) 3) 3
def atv:mB:=vY ad4 (O3) B3 tf
theorem ad6{V cb}(W:WorldC V cb):lE Rx.w (atv) (fun n d=>nO (cb n d) n (.bl 0 (.lp ad4.body))):=mg (W.toWorld.in (ad5 W) 3) (cp _) (m:=3) B3 tf
abbrev zO:List Ty:=[.cq i64,.cq (.cq i64),i64,i64]
abbrev th:List Ty:=[.cq i64]
def ad7:qV:=⟨2,mV Tryz.adt.code 2,[6,25,26,27],(Ps [.ow i64,.im (.cq i64),.n .i64,.n .i64]),[⟨.s7,[6],Ps [.ow i64]⟩]⟩
def atw:List (Nat×jJ):=[]
theorem ad8{V cb}(W:WorldC V cb):j1 cb (atw):=.nil
def ME:List Pl->Lf.T Rs:=ad7.step (fun _=>none) (j7 (atw) 3) 3
def atx:mB:=vY ad7 (ME) zO th
theorem ad9{V cb}(W:WorldC V cb):lE Rx.w (atx) (fun n d=>nO (cb n d) n (.bl 2 (.lp ad7.body))):=mg (W.toWorld.in (ad8 W) 3) (cp _) (m:=3) zO th
def L59:Nat->Option mB:=vF [(0,atv),(2,atx)]
abbrev Ym:List Ty:=[.cq (.cq i64)]
abbrev O4:List Ty:=[.cq i64]
def e59:List (Nat×jJ):=[]
theorem anb{V cb}(W:WorldC V cb):j1 cb (e59):=.nil
def t59(x:ca Ym):Lf.T (List Pl):=mN (Ps [.im (.cq i64)]) [] (Ps [.ow i64]) L59 Tryz.adt 3 (j7 (e59) 3) (cg Ym x)
def k59(x:ca Ym):Bool:=mf O4 (t59 x)
def m59(x:ca Ym):ca O4:=j9 O4 (t59 x)
def s59:jJ:=kR (Ps [.im (.cq i64)]) [] (Ps [.ow i64]) Ym O4 fun x=>.ck (k59 x) (.ok (m59 x))
theorem ane{V cb}(W:WorldC V cb):(s59).Ok 140 cb:=
 jP (W.toWorld.in (anb W) 3) (W.toWorld.st 140 _ rfl) rfl (mz.pH (.cons (b:=ad4.body) (by kernel_rfl) (ad6 W) (.cons (b:=ad7.body) (by kernel_rfl) (ad9 W) .nil))) (m:=3) rfl (fun _=>rfl) (fun _=>rfl)
abbrev B4:List Ty:=[.cq (.cq cF),i64,.cq (.cq cF),i64,i64]
abbrev tj:List Ty:=[.cq (.cq cF),i64]
def ad':qV:=⟨0,mV Tryz.ads.code 0,[0,3,9,10,11],(Ps [.im (.cq cF),.n .i64,.im (.cq cF),.n .i64,.n .i64]),[⟨.s7,[0,3],Ps [.im (.cq cF),.n .i64]⟩]⟩
def atA:List (Nat×jJ):=[]
theorem aea{V cb}(W:WorldC V cb):j1 cb (atA):=.nil
def O5:List Pl->Lf.T Rs:=ad'.step (fun _=>none) (j7 (atA) 3) 3
def atB:mB:=vY ad' (O5) B4 tj
theorem aeb{V cb}(W:WorldC V cb):lE Rx.w (atB) (fun n d=>nO (cb n d) n (.bl 0 (.lp ad'.body))):=mg (W.toWorld.in (aea W) 3) (cp _) (m:=3) B4 tj
abbrev zP:List Ty:=[.cq cF,.cq (.cq cF),i64,i64]
abbrev tl:List Ty:=[.cq cF]
def aec:qV:=⟨2,mV Tryz.ads.code 2,[6,25,26,27],(Ps [.ow cF,.im (.cq cF),.n .i64,.n .i64]),[⟨.s7,[6],Ps [.ow cF]⟩]⟩
def atC:List (Nat×jJ):=[]
theorem aed{V cb}(W:WorldC V cb):j1 cb (atC):=.nil
def MF:List Pl->Lf.T Rs:=aec.step (fun _=>none) (j7 (atC) 3) 3
def atD:mB:=vY aec (MF) zP tl
theorem aee{V cb}(W:WorldC V cb):lE Rx.w (atD) (fun n d=>nO (cb n d) n (.bl 2 (.lp aec.body))):=mg (W.toWorld.in (aed W) 3) (cp _) (m:=3) zP tl
def L55:Nat->Option mB:=vF [(0,atB),(2,atD)]
abbrev Yn:List Ty:=[.cq (.cq cF)]
abbrev O6:List Ty:=[.cq cF]
def e55:List (Nat×jJ):=[]
theorem anf{V cb}(W:WorldC V cb):j1 cb (e55):=.nil
def t55(x:ca Yn):Lf.T (List Pl):=mN (Ps [.im (.cq cF)]) [] (Ps [.ow cF]) L55 Tryz.ads 3 (j7 (e55) 3) (cg Yn x)
def k55(x:ca Yn):Bool:=mf O6 (t55 x)
def m55(x:ca Yn):ca O6:=j9 O6 (t55 x)
def s55:jJ:=kR (Ps [.im (.cq cF)]) [] (Ps [.ow cF]) Yn O6 fun x=>.ck (k55 x) (.ok (m55 x))
theorem anh{V cb}(W:WorldC V cb):(s55).Ok 136 cb:=
 jP (W.toWorld.in (anf W) 3) (W.toWorld.st 136 _ rfl) rfl (mz.pH (.cons (b:=ad'.body) (by kernel_rfl) (aeb W) (.cons (b:=aec.body) (by kernel_rfl) (aee W) .nil))) (m:=3) rfl (fun _=>rfl) (fun _=>rfl)
abbrev Aw:Ty:=.pair .bool (.pair i64 i64)
abbrev QN:n9:=.pt 0 (Ps [.im jK,.im kg,.im i64,.im cF,.im cF,.im jQ,.im kf,.n .i64,.im jS,.im jV,.im jZ])
abbrev zQ:List Ty:=mT [.cq i64,.cq i64,.cq jT,.bool,.cq Aw,i64,i64,i64,i64,u64,u64,.cq i64,.cq tI,i64,i64,i64,i64,i64]
abbrev tp:List Ty:=mT [.cq i64,.cq i64,.cq jT,.bool,.cq Aw,i64,i64,i64,i64,u64,u64,.cq i64,.cq tI,i64,i64,i64]
def aef:qV:=⟨2,mV Tryz.x83.code 2,[8,9,11,12,57,58,59,10,80,81,82],(Ps [qp 0,.ow Aw,.n .i64,pBI,.im tI,.n .i64,.n .i64,.n .i64,.oo 12 1,.n .i64,.n .i64]),[⟨.s7,[8,9,11,12,57,58,59,10],Ps [qp 0,.ow Aw,.n .i64,pBI,.im tI,.n .i64,.n .i64,.n .i64]⟩]⟩
def atF:List (Nat×jJ):=[]
theorem aeg{V cb}(W:WorldC V cb):j1 cb (atF):=.nil
def f202:List Pl->Lf.T Rs:=aef.step (fun _=>none) (j7 (atF) 3) 3
def atG:mB:=vY aef (f202) zQ tp
theorem aeh{V cb}(W:WorldC V cb):lE Rx.w (atG) (fun n d=>nO (cb n d) n (.bl 2 (.lp aef.body))):=mg (W.toWorld.in (aeg W) 3) (cp _) (m:=3) zQ tp
def aA0:Nat->Option mB:=vF [(2,atG)]
abbrev oD:List Ty:=mT [.cq i64,.cq i64,.cq jT,.bool,.cq Aw,.cq tI,i64,i64]
abbrev nv:List Ty:=[.cq Aw]
abbrev oE:List Ty:=[.cq Aw,.bool]
def aei:qV:=⟨0,mV Tryz.x83.code 0,[8,9,57,58,59],(Ps [qp 0,.ow Aw,.im tI,.n .i64,.n .i64]),[⟨.s7,[9],Ps [.ow Aw]⟩,⟨.rt,[4,5],Ps [.ow Aw,.bo]⟩]⟩
def atH:List (Nat×jJ):=[(143,s62)]
theorem aej{V cb}(W:WorldC V cb):j1 cb (atH):=(.cons (ana W) .nil)
def f200:List Pl->Lf.T Rs:=aei.step aA0 (j7 (atH) 3) 3
def atI:mB:=F9 aei (f200) oD nv oE
theorem aek{V cb}(W:WorldC V cb):lE Rx.w (atI) (fun n d=>nO (cb n d) n (.bl 0 (.lp aei.body))):=rR (W.toWorld.in (aej W) 3) (mz.pH (.cons (b:=aef.body) (by kernel_rfl) (aeh W) .nil)) (m:=3) oD nv oE
def L20:Nat->Option mB:=vF [(0,atI)]
abbrev Yo:List Ty:=mT [i64]
abbrev JU:List Ty:=[.cq Aw,.bool]
def e20:List (Nat×jJ):=[(29,s10),(140,s59),(141,s60)]
theorem ani{V cb}(W:WorldC V cb):j1 cb (e20):=(.cons (Gs W) (.cons (ane W) (.cons (O1 W.toWorld) .nil)))
def t20(x:ca Yo):Lf.T (List Pl):=mN (Ps [pM,.n .i64]) [] (Ps [.tu (Ps [.ow Aw,.bo])]) L20 Tryz.x83 3 (j7 (e20) 3) (cg Yo x)
def k20(x:ca Yo):Bool:=mf JU (t20 x)
def m20(x:ca Yo):ca JU:=j9 JU (t20 x)
def s20:jJ:=kR (Ps [pM,.n .i64]) [] (Ps [.tu (Ps [.ow Aw,.bo])]) Yo JU fun x=>.ck (k20 x) (.ok (m20 x))
theorem anj{V cb}(W:WorldC V cb):(s20).Ok 83 cb:=
 jP (W.toWorld.in (ani W) 3) (W.toWorld.st 83 _ rfl) rfl (mz.pH (.cons (b:=aei.body) (by kernel_rfl) (aek W) .nil)) (m:=3) rfl (fun _=>rfl) (fun _=>rfl)
abbrev yq:List Ty:=i64::mT [.cq jS,i64,i64,.cq i64,i64,i64]
abbrev xe:List Ty:=i64::mT [.cq jS,i64,i64]
abbrev yX:List Ty:=[.bool]
def ael:qV:=⟨2,mV Tryz.Xi.code 2,[1,2,12,13,14,29,30,31],(Ps [.n .i64,QN,.im jS,.n .i64,.n .i64,.im i64,.n .i64,.n .i64]),[⟨.s7,[1,2,12,13,14],Ps [.n .i64,QN,.im jS,.n .i64,.n .i64]⟩,⟨.rt,[4],Ps [.bo]⟩]⟩
def atK:List (Nat×jJ):=[]
theorem aem{V cb}(W:WorldC V cb):j1 cb (atK):=.nil
def O7:List Pl->Lf.T Rs:=ael.step (fun _=>none) (j7 (atK) 3) 3
def atL:mB:=F9 ael (O7) yq xe yX
theorem aen{V cb}(W:WorldC V cb):lE Rx.w (atL) (fun n d=>nO (cb n d) n (.bl 2 (.lp ael.body))):=rR (W.toWorld.in (aem W) 3) (cp _) (m:=3) yq xe yX
def aA2:Nat->Option mB:=vF [(2,atL)]
abbrev xD:List Ty:=i64::mT [.cq jS,i64,i64]
abbrev uV:List Ty:=mT []
abbrev uW:List Ty:=[.bool]
def aeo:qV:=⟨0,mV Tryz.Xi.code 0,[1,2,12,13,14],(Ps [.n .i64,QN,.im jS,.n .i64,.n .i64]),[⟨.s7,[2],Ps [QN]⟩,⟨.rt,[4],Ps [.bo]⟩]⟩
def atM:List (Nat×jJ):=[(137,s56)]
theorem aep{V cb}(W:WorldC V cb):j1 cb (atM):=(.cons (OY W.toWorld) .nil)
def O8:List Pl->Lf.T Rs:=aeo.step aA2 (j7 (atM) 3) 3
def atN:mB:=F9 aeo (O8) xD uV uW
theorem aeq{V cb}(W:WorldC V cb):lE Rx.w (atN) (fun n d=>nO (cb n d) n (.bl 0 (.lp aeo.body))):=rR (W.toWorld.in (aep W) 3) (mz.pH (.cons (b:=ael.body) (by kernel_rfl) (aen W) .nil)) (m:=3) xD uV uW
abbrev zR:List Ty:=mT [.cq jZ,i64,i64]
abbrev yY:List Ty:=[]
abbrev xf:List Ty:=[.bool]
def aer:qV:=⟨4,mV Tryz.Xi.code 4,[2,41,42,43],(Ps [QN,.im jZ,.n .i64,.n .i64]),[⟨.s7,[],.nil⟩,⟨.rt,[4],Ps [.bo]⟩]⟩
def atO:List (Nat×jJ):=[(137,s56)]
theorem aes{V cb}(W:WorldC V cb):j1 cb (atO):=(.cons (OY W.toWorld) .nil)
def S9:List Pl->Lf.T Rs:=aer.step (fun _=>none) (j7 (atO) 3) 3
def atP:mB:=F9 aer (S9) zR yY xf
theorem aet{V cb}(W:WorldC V cb):lE Rx.w (atP) (fun n d=>nO (cb n d) n (.bl 4 (.lp aer.body))):=rR (W.toWorld.in (aes W) 3) (cp _) (m:=3) zR yY xf
def L58:Nat->Option mB:=vF [(0,atN),(4,atP)]
abbrev Yp:List Ty:=mT [i64]
abbrev MG:List Ty:=[.bool]
def e58:List (Nat×jJ):=[]
theorem ank{V cb}(W:WorldC V cb):j1 cb (e58):=.nil
def t58(x:ca Yp):Lf.T (List Pl):=mN (Ps [pM,.n .i64]) [] (Ps [.bo]) L58 Tryz.Xi 3 (j7 (e58) 3) (cg Yp x)
def k58(x:ca Yp):Bool:=mf MG (t58 x)
def m58(x:ca Yp):ca MG:=j9 MG (t58 x)
def s58:jJ:=kR (Ps [pM,.n .i64]) [] (Ps [.bo]) Yp MG fun x=>.ck (k58 x) (.ok (m58 x))
theorem anl{V cb}(W:WorldC V cb):(s58).Ok 139 cb:=
 jP (W.toWorld.in (ank W) 3) (W.toWorld.st 139 _ rfl) rfl (mz.pH (.cons (b:=aeo.body) (by kernel_rfl) (aeq W) (.cons (b:=aer.body) (by kernel_rfl) (aet W) .nil))) (m:=3) rfl (fun _=>rfl) (fun _=>rfl)
end Go.Proofs.Vd
noncomputable section
namespace Go.Proofs
abbrev Nx:=ByteArray×Int×Int
def rK(s:ByteArray)(ns:List ByteArray):Bool:= @decide (s∈ns) (Classical.propDecidable _)
def aA5(cs:List Int)(xs:List Nx)(k:Nat):Bool:= !(rK (xs.getD k (ByteArray.empty,0,0)).1 ((xs.take k).map Prod.fst))&& !decide (cs.getD (xs.getD k (ByteArray.empty,0,0)).2.1.toNat 0<=(xs.getD k (ByteArray.empty,0,0)).2.2)
def atT(cs:List Int)(xs:List Nx):Bool:=(List.range xs.length).all (aA5 cs xs)
end Go.Proofs
noncomputable section
namespace Go.Proofs.Vd
open Go.Ab Go.Ab.Lf
set_option maxRecDepth 100000
def anm(t:List (den jK))(im:List (den kg))(fs:List Int)(st:Int):Bool:=bif decide (st= -1)then true else
 bif kG t (kI im fs st)then(bif decide (((jO t (kI im fs st)).1.length:Int)=0)then decide (((jO t (kI im fs st)).2.length:Int)=0)else false)else false
def gNx(ex:List (den kf)):Bool:=decide (ex.length=0)
def Yq(x:ca tMN):Bool:=jC (fun e=>decide (0<=e.2.1)&&decide (e.2.1<=3)) x.2.2.2.2.2.2.1&&((decide (x.2.2.2.2.2.2.2.1<9223372036854775808)&&decide (x.2.1.length<=1099511627776))&&decide (x.2.2.2.2.2.2.1.length<=1099511627776))&&gNx x.2.2.2.2.2.2.1&&gT x.1
def mNm(x:ca tMN):Bool:=bif atT [x.2.2.2.2.2.2.2.2.2.2.2.1,(x.2.2.2.1.length:Int),(x.2.2.2.2.1.length:Int),(x.2.2.2.2.2.1.length:Int)] x.2.2.2.2.2.2.1 then anm x.1 x.2.1 x.2.2.1 x.2.2.2.2.2.2.2.1 else false
def s57:jJ:=kR (Ps [pM,.n .i64]) [] (Ps [.bo]) tMN [.bool] fun x=>.ck (Yq x) (.ok (mNm x,()))
structure WorldN(V:ByteArray->Bool)(cb:cx):Prop extends WorldC V cb where
 nm:s57.Ok 138 cb
abbrev wo:List Ty:=i64::mT [i64,i64]
abbrev tt:List Ty:=i64::mT []
abbrev uX:List Ty:=[.bool]
def aeu:qV:=⟨0,mV Tryz.x82.code 0,[3,1,18,19],(Ps [.n .i64,QN,.n .i64,.n .i64]),[⟨.s7,[3,1],Ps [.n .i64,QN]⟩,⟨.rt,[2],Ps [.bo]⟩]⟩
def atU:List (Nat×jJ):=[(29,s10)]
theorem aev{V cb}(W:WorldN V cb):j1 cb (atU):=(.cons (Gs W.toWorldC) .nil)
def f190:List Pl->Lf.T Rs:=aeu.step (fun _=>none) (j7 (atU) 3) 3
def atV:mB:=F9 aeu (f190) wo tt uX
theorem aew{V cb}(W:WorldN V cb):lE Rx.w (atV) (fun n d=>nO (cb n d) n (.bl 0 (.lp aeu.body))):=rR (W.toWorld.in (aev W) 3) (cp _) (m:=3) wo tt uX
abbrev yt:List Ty:=i64::mT [.cq cF,i64,i64]
abbrev uY:List Ty:=i64::mT []
abbrev xg:List Ty:=[.bool]
def aex:qV:=⟨2,mV Tryz.x82.code 2,[3,1,46,47,48],(Ps [.n .i64,QN,.im cF,.n .i64,.n .i64]),[⟨.s7,[3,1],Ps [.n .i64,QN]⟩,⟨.rt,[2],Ps [.bo]⟩]⟩
def atW:List (Nat×jJ):=[]
theorem aey{V cb}(W:WorldN V cb):j1 cb (atW):=.nil
def f192:List Pl->Lf.T Rs:=aex.step (fun _=>none) (j7 (atW) 3) 3
def atX:mB:=F9 aex (f192) yt uY xg
theorem aez{V cb}(W:WorldN V cb):lE Rx.w (atX) (fun n d=>nO (cb n d) n (.bl 2 (.lp aex.body))):=rR (W.toWorld.in (aey W) 3) (cp _) (m:=3) yt uY xg
abbrev yu:List Ty:=i64::mT [.cq jQ,i64,i64]
abbrev uZ:List Ty:=i64::mT []
abbrev xh:List Ty:=[.bool]
def aeA:qV:=⟨4,mV Tryz.x82.code 4,[3,1,76,77,78],(Ps [.n .i64,QN,.im jQ,.n .i64,.n .i64]),[⟨.s7,[3,1],Ps [.n .i64,QN]⟩,⟨.rt,[2],Ps [.bo]⟩]⟩
def atY:List (Nat×jJ):=[(137,s56)]
theorem aeB{V cb}(W:WorldN V cb):j1 cb (atY):=(.cons (OY W.toWorld) .nil)
def f194:List Pl->Lf.T Rs:=aeA.step (fun _=>none) (j7 (atY) 3) 3
def atZ:mB:=F9 aeA (f194) yu uZ xh
theorem aeC{V cb}(W:WorldN V cb):lE Rx.w (atZ) (fun n d=>nO (cb n d) n (.bl 4 (.lp aeA.body))):=rR (W.toWorld.in (aeB W) 3) (cp _) (m:=3) yu uZ xh
def L19:Nat->Option mB:=vF [(0,atV),(2,atX),(4,atZ)]
abbrev Yr:List Ty:=mT []
abbrev D8:List Ty:=[.bool]
def e19:List (Nat×jJ):=[(136,s55),(138,s57),(139,s58)]
theorem ano{V cb}(W:WorldN V cb):j1 cb (e19):=(.cons (anh W.toWorldC) (.cons W.nm (.cons (anl W.toWorldC) .nil)))
def t19(x:ca Yr):Lf.T (List Pl):=mN (Ps [pM]) [] (Ps [.bo]) L19 Tryz.x82 3 (j7 (e19) 3) (cg Yr x)
def k19(x:ca Yr):Bool:=mf D8 (t19 x)
def m19(x:ca Yr):ca D8:=j9 D8 (t19 x)
def s19:jJ:=kR (Ps [pM]) [] (Ps [.bo]) Yr D8 fun x=>.ck (k19 x) (.ok (m19 x))
theorem anp{V cb}(W:WorldN V cb):(s19).Ok 82 cb:=
 jP (W.toWorld.in (ano W) 3) (W.toWorld.st 82 _ rfl) rfl (mz.pH (.cons (b:=aeu.body) (by kernel_rfl) (aew W) (.cons (b:=aex.body) (by kernel_rfl) (aez W) (.cons (b:=aeA.body) (by kernel_rfl) (aeC W) .nil)))) (m:=3) rfl (fun _=>rfl) (fun _=>rfl)
abbrev JV:List Ty:=mT [i64,i64]
abbrev Db:List Ty:=[]
abbrev Ay:List Ty:=[i64]
def l8x:qV:=⟨0,mV Tryz.x50.code 0,[1,21,22],(Ps [QN,.n .i64,.n .i64]),[⟨.s7,[],.nil⟩,⟨.rt,[2],Ps [.n .i64]⟩]⟩
def e8x:List (Nat×jJ):=[(83,s20)]
theorem anq{V cb}(W:WorldN V cb):j1 cb (e8x):=(.cons (anj W.toWorldC) .nil)
def f8x:List Pl->Lf.T Rs:=l8x.step (fun _=>none) (j7 (e8x) 3) 3
def c8x:mB:=F9 l8x (f8x) JV Db Ay
theorem anr{V cb}(W:WorldN V cb):lE Rx.w (c8x) (fun n d=>nO (cb n d) n (.bl 0 (.lp l8x.body))):=rR (W.toWorld.in (anq W) 3) (cp _) (m:=3) JV Db Ay
def L8:Nat->Option mB:=vF [(0,c8x)]
abbrev ti8:List Ty:=mT []
abbrev to8:List Ty:=[i64]
def e8(V:ByteArray->Bool):List (Nat×jJ):=[(81,s18 V),(82,s19)]
theorem at3{V cb}(W:WorldN V cb):j1 cb (e8 V):=(.cons (amw W.toWorldV) (.cons (anp W) .nil))
def t8(V:ByteArray->Bool)(x:ca ti8):Lf.T (List Pl):=mN (Ps [pM]) [] (Ps [.n .i64]) L8 Tryz.x50 3 (j7 (e8 V) 3) (cg ti8 x)
def k8(V:ByteArray->Bool)(x:ca ti8):Bool:=mf to8 (t8 V x)
def m8(V:ByteArray->Bool)(x:ca ti8):ca to8:=j9 to8 (t8 V x)
def s8(V:ByteArray->Bool):jJ:=kR (Ps [pM]) [] (Ps [.n .i64]) ti8 to8 fun x=>.ck (k8 V x) (.ok (m8 V x))
theorem at4{V cb}(W:WorldN V cb):(s8 V).Ok 50 cb:=
 jP (W.toWorld.in (at3 W) 3) (W.toWorld.st 50 _ rfl) rfl (mz.pH (.cons (b:=l8x.body) (by kernel_rfl) (anr W) .nil)) (m:=3) rfl (fun _=>rfl) (fun _=>rfl)
abbrev W3:=List Int×List (den jT)×Bool
abbrev wk(y:ca tM)(lo:List Int)(w:W3):ca EC:=(mF y (lo,w.1,w.2.1,w.2.2,()))
abbrev xi(y:ca tM)(lo:List Int)(w:W3)(i:den tI):ca O2:=(mF y (lo,w.1,w.2.1,w.2.2,i.1,i.2.1,i.2.2.1,i.2.2.2.1,i.2.2.2.2.1,i.2.2.2.2.2,()))
abbrev wkL(y:ca tM)(lo:List Int)(w:W3)(l:List Int):ca S6:=(mF y (lo,w.1,w.2.1,w.2.2,l,()))
abbrev wkN(y:ca tM)(lo:List Int)(w:W3)(n:Int):ca S8:=(mF y (lo,w.1,w.2.1,w.2.2,n,()))
theorem aA8(y:ca tM)(lo:List Int)(w:W3)(n:Int)(B:den jT)(hB:B=w.2.1.getD (jF .i64 (w.2.1.length:Int) 1).toNat (cr jT))(bl:List (den jT))(hbl:bl=(w.2.1.drop 0).take ((jF .i64 (w.2.1.length:Int) 1).toNat - 0))
 (S:List Int×Bool)(hS:S=zt B.2.2.2.1 w.2.1 B.2.2.2.1.length w.1 w.2.2)(b1:Bool)(hb:b1=(S.2|| !decide ((S.1.length:Int)=B.2.1))):
 (t75 (wkN y lo w n)).val=cy (jA (jF .i64 (w.2.1.length:Int) 1) (w.2.1.length:Int)) (cy (decide (B.2.2.2.1.length<=1099511627776)&&okW w.1 w.2.1) (cy (mS 0 (jF .i64 (w.2.1.length:Int) 1) (w.2.1.length:Int))
  (bif b1 then cy (roomy 72 (bl.length+1)) (some (cg JT (wk y lo (S.1,app bl [B],b1))))else
   bif decide (n=5)then cy (decide (bl.length+1<=549755813888)) (cy (decide (S.1.length+B.2.2.1.length<=1099511627776)) (some (cg JT (wk y lo (S.1++B.2.2.1,mu S.1 bl 5 B.2.2.1 B.2.2.2.1,b1)))))else
   bif !decide (B.1=4)then cy (decide (S.1.length+B.2.2.2.1.length<=1099511627776)) (some (cg JT (wk y lo (S.1++B.2.2.2.1,bl,b1|| !true))))else
    cy (decide (B.2.2.1.length<=1099511627776)) (cy (decide (S.1.length+B.2.2.2.1.length<=1099511627776)) (some (cg JT (wk y lo (S.1++B.2.2.2.1,bl,b1|| !decide (B.2.2.1=B.2.2.2.1))))))))):=by
 subst hB;subst hbl;subst hS;subst hb
 kernel_rfl
abbrev wkA(y:ca tM)(lo:List Int)(w:W3)(l B5:List Int)(n:Int):ca DK:=(mF y (lo,w.1,w.2.1,w.2.2,l,B5,n,()))
theorem aja(y:ca tM)(lo:List Int)(w:W3)(L B5:List Int)(i:Int):(Yk (cg DK (wkA y lo w L B5 i))).val=
 bif decide (0<=i)then cy (jA i (L.length:Int)) (cy (okW w.1 w.2.1) (cy (roomy 8 (B5.length+1)) (some (Rs.next (cg DK (wkA y lo ((mr w.1 w.2.1 w.2.2 (L.getD i.toNat (cr i64))).2.1,w.2.1,(mr w.1 w.2.1 w.2.2 (L.getD i.toNat (cr i64))).2.2) L (app B5 [(mr w.1 w.2.1 w.2.2 (L.getD i.toNat (cr i64))).1]) (jF .i64 i 1)))))))else some (Rs.out 0 (cg xd (wkL y lo w B5))):=by kernel_rfl
def Ys{β:Type}(K:List Int->Option β):Nat->Nat->Int->List Int->Option β
 |0,_,_,_=>none
 |f+1,i,j,x=>bif decide ((i:Int)<j)then cy (jA j (x.length:Int)) (cy (jA (i:Int) (x.length:Int)) (cy (jA (i:Int) (x.length:Int)) (cy (jA j ((x.set i (x.getD j.toNat (cr i64))).length:Int)) (Ys K f (i+1) (jF .i64 j 1) ((x.set i (x.getD j.toNat (cr i64))).set j.toNat (x.getD i (cr i64)))))))else K x
theorem aA9(y:ca tM)(lo:List Int)(w:W3)(L:List Int)(z:ca xd)(hz:z=qb Yk DK xd (wkA y lo w L [] (jF .i64 (L.length:Int) 1))):(t85 (wkL y lo w L)).val=
 cy (uF Yk DK xd (wkA y lo w L [] (jF .i64 (L.length:Int) 1))) (Ys (fun x=>cy (decide (z.2.2.2.2.2.2.2.2.2.2.2.2.1.length+x.length<=1099511627776)) (some (cg MD (mF z (z.2.2.2.2.2.2.2.2.2.2.2.1,z.2.2.2.2.2.2.2.2.2.2.2.2.1++x,z.2.2.2.2.2.2.2.2.2.2.2.2.2.1,z.2.2.2.2.2.2.2.2.2.2.2.2.2.2.1,()))))) 18 0 (jF .i64 (z.2.2.2.2.2.2.2.2.2.2.2.2.2.2.2.1.length:Int) 1) z.2.2.2.2.2.2.2.2.2.2.2.2.2.2.2.1):=by
 subst hz
 kernel_rfl
abbrev jM(w:W3)(t:Int):W3:=((mr w.1 w.2.1 w.2.2 t).2.1,w.2.1,(mr w.1 w.2.1 w.2.2 t).2.2)
abbrev lX(w:W3)(L:List Int):W3:=((zt L w.2.1 L.length w.1 w.2.2).1,w.2.1,(zt L w.2.1 L.length w.1 w.2.2).2)
abbrev Az(w:W3):W3:=(w.1.take (kB w.2.1).2.1.toNat,w.2.1.set (w.2.1.length - 1) (BV (kB w.2.1)),w.2.2)
abbrev D9(w:W3)(l:Int):W3:=(w.1,w.2.1,bif decide ((w.2.1.length:Int)<=l)then true else w.2.2)
abbrev q9(w:W3)(L:List Int):W3:=(w.1++L,w.2.1,w.2.2)
abbrev mh(w:W3)(c:Bool):W3:=(w.1,w.2.1,w.2.2|| !c)
abbrev cW(w:W3):Bool:=okW w.1 w.2.1
abbrev cT(w:W3)(L:List Int):Bool:=decide (L.length<=1099511627776)&&okW w.1 w.2.1
abbrev cG(w:W3)(L:List Int):Bool:=decide (w.1.length+L.length<=1099511627776)
abbrev cL(w:W3)(l:Int):Bool:=decide (0<=l)&&decide (w.2.1.length<=1099511627776)
theorem aA'(y:ca tM)(lo:List Int)(w:W3)(i:den tI):(t86 (xi y lo w i)).val=
 (let gl:=y.2.2.2.2.2.1
 let R:=fun(t:Int) (ok:Bool)=>bif (bif !decide (i.1=32)then !decide (i.1=35)else false)then cy (cW w) (bif (bif !decide (i.1=33)then !decide (i.1=36)else false)then cy (cG (jM (mh w ok) t) [t]) (some (cg BZ (wk y lo (q9 (jM (mh w ok) t) [t]))))else some (cg BZ (wk y lo (jM (mh w ok) t))))
  else bif (bif !decide (i.1=33)then !decide (i.1=36)else false)then cy (cG w [t]) (some (cg BZ (wk y lo (q9 (mh w ok) [t]))))else some (cg BZ (wk y lo (mh w ok)))
 let G:=cy (jA i.2.1 (gl.length:Int)&&bif decide (i.1=35)then true else jA i.2.1 (gl.length:Int)) (R (bif decide (i.1=35)then(gl.getD i.2.1.toNat (cr jQ)).1 else(gl.getD i.2.1.toNat (cr jQ)).1) (bif decide (i.1=35)then true else(gl.getD i.2.1.toNat (cr jQ)).2.1))
 bif (bif decide (i.1<=34)then decide (i.2.1<(lo.length:Int))else false)then cy (jA i.2.1 (lo.length:Int)) (bif (bif decide (34<i.1)then decide (i.2.1<(gl.length:Int))else false)then G else R (lo.getD i.2.1.toNat (cr i64)) true)
  else bif (bif decide (34<i.1)then decide (i.2.1<(gl.length:Int))else false)then G else R 0 false):=by kernel_rfl
abbrev wkJ(y:ca tM)(lo:List Int)(w:W3)(last l:List Int)(n i:Int):ca B0:=(mF y (lo,w.1,w.2.1,w.2.2,last,l,n,i,()))
theorem ajb(y:ca tM)(lo:List Int)(w:W3)(last L:List Int)(n i:Int)(l:Int)(hl:l=L.getD i.toNat (cr i64))(u:W3)(hu:u=mh (D9 w l) (decide (((pd w.2.1 l).length:Int)=(last.length:Int))))(z:ca MD)(hz:z=m85 (wkL y lo u (pd w.2.1 l))):(S7 (cg B0 (wkJ y lo w last L n i))).val=
 bif decide (i<n)then cy (jA i (L.length:Int)) (cy (cL w l) (cy (k85 (wkL y lo u (pd w.2.1 l))) (some (Rs.next (cg B0 (mF z (z.2.2.2.2.2.2.2.2.2.2.2.1,z.2.2.2.2.2.2.2.2.2.2.2.2.1,z.2.2.2.2.2.2.2.2.2.2.2.2.2.1,z.2.2.2.2.2.2.2.2.2.2.2.2.2.2.1,last,L,n,jR .i64 i 1,())))))))
 else some (Rs.out 0 (cg uU (wkL y lo w last))):=by
 subst hz;subst hu;subst hl
 kernel_rfl
theorem at7(y:ca tM)(lo:List Int)(w:W3)(i:den tI)(u:W3)(hu:u=D9 (jM w 127) i.2.1)(T:List Int)(hT:T=pd w.2.1 i.2.1)(z:ca uU)(hz:z=qb S7 B0 uU (wkJ y lo u T i.2.2.2.2.2 (i.2.2.2.2.2.length:Int) 0)):(t77 (xi y lo w i)).val=
 (let D:=fun v:W3=>cy (cW v) (some (cg Gx (wk y lo (Az v))))
 bif decide (i.1=0)then D w else
 bif decide (i.1=12)then cy (cL w i.2.1) (cy (cT (D9 w i.2.1) T) (D (lX (D9 w i.2.1) T)))else
 bif decide (i.1=13)then cy (cW w) (cy (cL (jM w 127) i.2.1) (cy (cT u T) (cy (cG (lX u T) T) (some (cg Gx (wk y lo (q9 (lX u T) T)))))))else
 bif decide (i.1=14)then cy (cW w) (cy (cL (jM w 127) i.2.1) (cy (uF S7 B0 uU (wkJ y lo u T i.2.2.2.2.2 (i.2.2.2.2.2.length:Int) 0)) (
  let v:W3:=(z.2.2.2.2.2.2.2.2.2.2.2.2.1,z.2.2.2.2.2.2.2.2.2.2.2.2.2.1,z.2.2.2.2.2.2.2.2.2.2.2.2.2.2.1)
  let S:=lX v z.2.2.2.2.2.2.2.2.2.2.2.2.2.2.2.1
  cy (cT v z.2.2.2.2.2.2.2.2.2.2.2.2.2.2.2.1) (cy (cW S) (some (cg Gx (mF z (z.2.2.2.2.2.2.2.2.2.2.2.1,(Az S).1,(Az S).2.1,(Az S).2.2,()))))))))else
 bif decide (i.1=15)then cy (jA 0 (w.2.1.length:Int)) (let O:=(w.2.1.getD 0 (cr jT)).2.2.2.1;cy (cT w O) (D (lX w O)))else
 cy (k86 (xi y lo w i)) (some (cg Gx (m86 (xi y lo w i))))):=by
 subst hz;subst hu;subst hT
 kernel_rfl
abbrev wkF(y:ca tM)(lo:List Int)(w:W3)(i:den tI)(f:ca sr):ca tFi:=(mF y (lo,w.1,w.2.1,w.2.2,i.1,i.2.1,i.2.2.1,i.2.2.2.1,i.2.2.2.2.1,i.2.2.2.2.2,f.1,f.2.1,f.2.2.1,f.2.2.2.1,f.2.2.2.2.1,()))
theorem aua(gt:Bool)(y:ca tM)(hgt:gt=gT y.1)(lo:List Int)(w:W3)(i:den tI)(f:ca sr)(hf:f=kZ i.1)(z:ca EC)(hz:z=adS (wkF y lo w i f))(g:den jK)(hg:g=nh y.1 i.2.1)(c:den jK)(hc:c=jO y.1 (kI y.2.1 y.2.2.1 i.2.1))(d:den jK)(hd:d=jO y.1 i.2.1):(t62 (xi y lo w i)).val=
 (let o:=i.1
 let a:=i.2.1
 let ret:=fun v:W3=>some (cg tc (wk y lo v))
 let B2:=fun v:W3=>(
  let u:W3:=(v.1,v.2.1,su y.1 a v.2.2)
  cy gt<|cy (cT u g.1) (let S:=lX u g.1
   cy (decide (S.2.1.length+1<=549755813888)) (let Q:W3:=(S.1,mu S.1 S.2.1 o g.1 g.2,S.2.2)
    cy (cG Q g.1) (ret (q9 Q g.1)))))
 let Gy:=bif decide (o=4)then cy (cW w) (B2 (jM w 127))else B2 w
 let CL:=cy (k75 (wkN y lo w o)) (some (cg tc (m75 (wkN y lo w o))))
 let I:=fun ok:Bool=>(let v:=jM (mh w ok) 127
  cy (cW w) (cy (cT v d.1) (let S:=lX v d.1
   cy (cG S d.2) (ret (q9 S d.2)))))
 bif f.2.2.1 then cy (adT (wkF y lo w i f)) (let v:W3:=(z.2.2.2.2.2.2.2.2.2.2.2.2.1,z.2.2.2.2.2.2.2.2.2.2.2.2.2.1,z.2.2.2.2.2.2.2.2.2.2.2.2.2.2.1)
  cy (cT v f.2.2.2.1) (let S:=lX v f.2.2.2.1
   cy (cG S f.2.2.2.2.1) (some (cg tc (mF z (z.2.2.2.2.2.2.2.2.2.2.2.1,S.1++f.2.2.2.2.1,S.2.1,S.2.2,()))))))
 else bif decide (o=2)then Gy else bif decide (o=3)then Gy else bif decide (o=4)then Gy else
 bif decide (o=5)then CL else bif decide (o=11)then CL else
 bif decide (o=26)then cy (cW w) (ret (jM w 0))else
 bif decide (o=27)then cy (cW w) (let v:=jM w 127
  cy (cW v) (let t:=(mr v.1 v.2.1 v.2.2 0).1
   let u:=jM v 0
   cy (cW u) (let r:=(mr u.1 u.2.1 u.2.2 t).1
    let q:=jM u t
    cy (cG q [r]) (ret (q9 q [r])))))else
 bif decide (o=16)then cy (gt&&(decide (a<9223372036854775808)&&decide (y.2.1.length<=1099511627776))) (
  let v:=mh w (kG y.1 (kI y.2.1 y.2.2.1 a))
  cy (cT v c.1) (let S:=lX v c.1
   cy (cG S c.2) (ret (q9 S c.2))))else
 bif decide (o=17)then cy gt (bif kG y.1 a then(bif decide (0<(y.2.2.2.1.length:Int))then I (decide (i.2.2.1=0))else I false)else I false)else
 cy (k77 (xi y lo w i)) (some (cg tc (m77 (xi y lo w i))))):=by
 subst hgt;subst hf;subst hz;subst hg;subst hc;subst hd
 kernel_rfl
theorem aBa(y:ca tM)(hT:gT y.1=true)(lo:List Int)(w:W3)(i:den tI)(f:ca sr)(hf:f=kZ i.1)(z:ca EC)(hz:z=adS (wkF y lo w i f))(g:den jK)(hg:g=nh y.1 i.2.1)(c:den jK)(hc:c=jO y.1 (kI y.2.1 y.2.2.1 i.2.1))(d:den jK)(hd:d=jO y.1 i.2.1):(t62 (xi y lo w i)).val=
 (let o:=i.1
 let a:=i.2.1
 let ret:=fun v:W3=>some (cg tc (wk y lo v))
 let B2:=fun v:W3=>(
  let u:W3:=(v.1,v.2.1,su y.1 a v.2.2)
  cy (cT u g.1) (let S:=lX u g.1
   cy (decide (S.2.1.length+1<=549755813888)) (let Q:W3:=(S.1,mu S.1 S.2.1 o g.1 g.2,S.2.2)
    cy (cG Q g.1) (ret (q9 Q g.1)))))
 let Gy:=bif decide (o=4)then cy (cW w) (B2 (jM w 127))else B2 w
 let CL:=cy (k75 (wkN y lo w o)) (some (cg tc (m75 (wkN y lo w o))))
 let I:=fun ok:Bool=>(let v:=jM (mh w ok) 127
  cy (cW w) (cy (cT v d.1) (let S:=lX v d.1
   cy (cG S d.2) (ret (q9 S d.2)))))
 bif f.2.2.1 then cy (adT (wkF y lo w i f)) (let v:W3:=(z.2.2.2.2.2.2.2.2.2.2.2.2.1,z.2.2.2.2.2.2.2.2.2.2.2.2.2.1,z.2.2.2.2.2.2.2.2.2.2.2.2.2.2.1)
  cy (cT v f.2.2.2.1) (let S:=lX v f.2.2.2.1
   cy (cG S f.2.2.2.2.1) (some (cg tc (mF z (z.2.2.2.2.2.2.2.2.2.2.2.1,S.1++f.2.2.2.2.1,S.2.1,S.2.2,()))))))
 else bif decide (o=2)then Gy else bif decide (o=3)then Gy else bif decide (o=4)then Gy else
 bif decide (o=5)then CL else bif decide (o=11)then CL else
 bif decide (o=26)then cy (cW w) (ret (jM w 0))else
 bif decide (o=27)then cy (cW w) (let v:=jM w 127
  cy (cW v) (let t:=(mr v.1 v.2.1 v.2.2 0).1
   let u:=jM v 0
   cy (cW u) (let r:=(mr u.1 u.2.1 u.2.2 t).1
    let q:=jM u t
    cy (cG q [r]) (ret (q9 q [r])))))else
 bif decide (o=16)then cy (decide (a<9223372036854775808)&&decide (y.2.1.length<=1099511627776)) (
  let v:=mh w (kG y.1 (kI y.2.1 y.2.2.1 a))
  cy (cT v c.1) (let S:=lX v c.1
   cy (cG S c.2) (ret (q9 S c.2))))else
 bif decide (o=17)then(bif kG y.1 a then(bif decide (0<(y.2.2.2.1.length:Int))then I (decide (i.2.2.1=0))else I false)else I false)else
 cy (k77 (xi y lo w i)) (some (cg tc (m77 (xi y lo w i))))):=by
 refine Eq.trans (aua true y hT.symm lo w i f hf z hz g hg c hc d hd) ?_
 kernel_rfl
end Go.Proofs.Vd
