import Derived.Test.YtooeifemoidnoaaDoorVdW
noncomputable section
variable {cal:Go.Ab.Lf.CallN}
namespace Go.Proofs.Vd
open Go.Ab Go.Ab.Lf
set_option maxRecDepth 100000
def mOne(c:List (den tI))(t:Int):Bool:=bif !decide ((c.length:Int)=2)then false else
 let o:=(c.getD 0 (dflt tI)).1
 bif decide (o=65)then decide (t=127)else bif decide (o=66)then decide (t=126)else bif decide (o=64780)then decide (t=123)else false
def s56:Fsp:=mkF (Ps [.im tI,.n .i64]) [] (Ps [.bo]) [.sli tI,i64] [.bool] fun x=>.ok (mOne x.1 x.2.1,())
theorem s56_ok(W:World cal):s56.Ok 56 cal:=by
 refine mkF_ok (W.in .nil 3) (W.st 56 _ rfl) rfl (okL_none _) (m:=3) rfl ?_
 rintro⟨c,t,⟨⟩⟩ q h
 cases h
 have e:(fnT (Ps [.im tI,.n .i64]) [] (Ps [.bo]) (fun _=>none) Tryd.x56 3 (inD [] 3) (ofT [.sli tI,i64] (c,t,()))).val=bif !decide ((c.length:Int)=2)then some (ofT [.bool] (false,()))else bif ixOk 0 (Int.ofNat c.length)then
  bif decide ((c.getD 0 (dflt tI)).1=65)then some (ofT [.bool] (decide (t=127),()))else bif decide ((c.getD 0 (dflt tI)).1=66)then some (ofT [.bool] (decide (t=126),()))else bif decide ((c.getD 0 (dflt tI)).1=64780)then some (ofT [.bool] (decide (t=123),()))else some (ofT [.bool] (false,()))else none:=by kernel_rfl
 rw[e]
 show _=some (ofT [.bool] (mOne c t,()))
 unfold mOne
 dsimp only
 cases h2:decide ((c.length:Int)=2)with
 |false=>rfl
 |true=>
  have:(c.length:Int)=2:=of_decide_eq_true h2
  have hx:ixOk 0 (Int.ofNat c.length)=true:=ix_nat (j:=0) (by omega)
  rw[hx]
  cases decide ((c.getD 0 (dflt tI)).1=65)<;>cases decide ((c.getD 0 (dflt tI)).1=66)<;>cases decide ((c.getD 0 (dflt tI)).1=64780)<;>rfl
abbrev tBlk:Ty:=.pair i64 (.pair i64 (.pair (.sli i64) (.pair (.sli i64) (.pair .bool .bool))))
abbrev pWk(g:Nat):Pat:=.pt g (Ps [.im tSig,.im tImp,.im i64,.im tLim,.im tLim,.im tGlo,.im tExp,.n .i64,.im tEle,.im tCod,.im tDat,.ow i64,.ow i64,.ow tBlk,.bo])
abbrev tWk:List Ty:=[.sli tSig,.sli tImp,.sli i64,.sli tLim,.sli tLim,.sli tGlo,.sli tExp,i64,.sli tEle,.sli tCod,.sli tDat,.sli i64,.sli i64,.sli tBlk,.bool]
abbrev tWkN:List Ty:=[.sli tSig,.sli tImp,.sli i64,.sli tLim,.sli tLim,.sli tGlo,.sli tExp,i64,.sli tEle,.sli tCod,.sli tDat,.sli i64,.sli i64,.sli tBlk,.bool,i64]
abbrev tNWk:List Ty:=[i64,.sli tSig,.sli tImp,.sli i64,.sli tLim,.sli tLim,.sli tGlo,.sli tExp,i64,.sli tEle,.sli tCod,.sli tDat,.sli i64,.sli i64,.sli tBlk,.bool]
abbrev tWkB:List Ty:=[.sli tSig,.sli tImp,.sli i64,.sli tLim,.sli tLim,.sli tGlo,.sli tExp,i64,.sli tEle,.sli tCod,.sli tDat,.sli i64,.sli i64,.sli tBlk,.bool,.bool]
def s76:Fsp:=mkF (Ps [pWk 0,.bo]) [14] (Ps [.tu .nil,pWk 14]) tWkB tWk fun x=>match x with
 |(t,im,fs,tb,me,gl,ex,st,el,co,da,lo,stk,bl,bad,ok,_)=>.ok (t,im,fs,tb,me,gl,ex,st,el,co,da,lo,stk,bl,bad|| !ok,())
theorem s76_ok(W:World cal):s76.Ok 76 cal:=by
 refine mkF_ok (W.in .nil 3) (W.st 76 _ rfl) rfl (okL_none _) (m:=3) rfl ?_
 rintro⟨t,im,fs,tb,me,gl,ex,st,el,co,da,lo,stk,bl,bad,ok,⟨⟩⟩ q h
 cases h
 cases bad<;>kernel_rfl
def mTop(bl:List (den tBlk)):den tBlk:=bl.getD (bl.length - 1) (dflt tBlk)
def okW(stk:List Int)(bl:List (den tBlk)):Bool:=(decide (0<bl.length)&&(decide (bl.length<=1099511627776)&&decide (stk.length<=1099511627776)))&&(decide (0<=(mTop bl).2.1)&&decide ((mTop bl).2.1<=(stk.length:Int)))
def mTake(stk:List Int)(bl:List (den tBlk))(bad:Bool)(want:Int):Int×List Int×Bool:=
 bif decide ((stk.length:Int)=(mTop bl).2.1)then(want,stk,bad|| !(mTop bl).2.2.2.2.1)else
 let t:=stk.getD (stk.length - 1) (dflt i64)
 (bif decide (t=0)then want else t,stk.take (stk.length - 1),bad|| !(bif decide (t=want)then true else bif decide (t=0)then true else decide (want=0)))
def s73:Fsp:=mkF (Ps [pWk 0,.n .i64]) [14] (Ps [.n .i64,pWk 14]) tWkN tNWk fun x=>match x with
 |(t,im,fs,tb,me,gl,ex,st,el,co,da,lo,stk,bl,bad,want,_)=>.ck (okW stk bl) (let y:=mTake stk bl bad want; .ok (y.1,t,im,fs,tb,me,gl,ex,st,el,co,da,lo,y.2.1,bl,y.2.2,()))
theorem s73_ok(W:World cal):s73.Ok 73 cal:=by
 refine mkF_ok (W.in .nil 3) (W.st 73 _ rfl) rfl (okL_none _) (m:=3) rfl ?_
 rintro⟨t,im,fs,tb,me,gl,ex,st,el,co,da,lo,stk,bl,bad,want,⟨⟩⟩ q h
 obtain⟨h1,h2⟩:=Lf.T.ck_some h
 cases h2
 unfold okW at h1
 simp only[Bool.and_eq_true,decide_eq_true_eq]at h1
 obtain⟨⟨b1,b2,b3⟩,b4,b5⟩:=h1
 let R (w:Int) (s:List Int) (b:Bool):Option (List Pl):=some (ofT tNWk (w,t,im,fs,tb,me,gl,ex,st,el,co,da,lo,s,bl,b,()))
 have e: ∀ (B:den tBlk) (T:Int),B=bl.getD (subW .i64 (Int.ofNat bl.length) 1).toNat (dflt tBlk)->T=stk.getD (subW .i64 (Int.ofNat stk.length) 1).toNat (dflt i64)->
  (fnT (Ps [pWk 0,.n .i64]) [14] (Ps [.n .i64,pWk 14]) (fun _=>none) Tryd.x73 3 (inD [] 3) (ofT tWkN (t,im,fs,tb,me,gl,ex,st,el,co,da,lo,stk,bl,bad,want,()))).val=
  bif ixOk (subW .i64 (Int.ofNat bl.length) 1) (Int.ofNat bl.length)then bif decide (Int.ofNat stk.length=B.2.1)then(bif bad then R want stk true else R want stk (!B.2.2.2.2.1))else
   bif ixOk (subW .i64 (Int.ofNat stk.length) 1) (Int.ofNat stk.length)then bif cutOk 0 (subW .i64 (Int.ofNat stk.length) 1) (Int.ofNat stk.length)then
    let S:=(stk.drop 0).take ((subW .i64 (Int.ofNat stk.length) 1).toNat - 0)
    let E:=fun b=>bif decide (T=0)then R want S b else R T S b
    bif decide (T=want)then(bif bad then E true else E (!true))else bif decide (T=0)then(bif bad then E true else E (!true))else(bif bad then E true else E (!decide (want=0)))
   else none else none else none:=by
  intro B T hB hT
  subst hB;subst hT
  kernel_rfl
 rw[e _ _ rfl rfl,show Int.ofNat bl.length=(bl.length:Int)from rfl,show Int.ofNat stk.length=(stk.length:Int)from rfl,sub1 b1 (by omega),Int.toNat_natCast]
 have hb:ixOk ((bl.length - 1:Nat):Int) (bl.length:Int)=true:=ix_nat (by omega)
 rw[hb,cond_true]
 show(bif decide ((stk.length:Int)=(mTop bl).2.1)then _ else _)=some (ofT tNWk ((mTake stk bl bad want).1,t,im,fs,tb,me,gl,ex,st,el,co,da,lo,(mTake stk bl bad want).2.1,bl,(mTake stk bl bad want).2.2,()))
 unfold mTake
 cases hh:decide ((stk.length:Int)=(mTop bl).2.1)with
 |true=>cases bad<;>rfl
 |false=>
  have hne: ¬ (stk.length:Int)=(mTop bl).2.1:=of_decide_eq_false hh
  have hp:0<stk.length:=by omega
  have hs:ixOk ((stk.length - 1:Nat):Int) (stk.length:Int)=true:=ix_nat (by omega)
  have hc:cutOk 0 ((stk.length - 1:Nat):Int) (stk.length:Int)=true:=by unfold cutOk;simp
  rw[sub1 hp (by omega),hs,hc,Int.toNat_natCast]
  simp only[cond_true,cond_false,List.drop_zero,Nat.sub_zero]
  cases decide (stk.getD (stk.length - 1) (dflt i64)=want)<;>cases decide (stk.getD (stk.length - 1) (dflt i64)=0)<;>cases bad<;>rfl
end Go.Proofs.Vd

noncomputable section
variable {cal:Go.Ab.Lf.CallN}
namespace Go.Proofs.Vd
open Go.Ab Go.Ab.Lf
set_option maxRecDepth 100000
theorem mTake_ok{stk:List Int}{bl:List (den tBlk)}(bad:Bool)(want:Int)(h:okW stk bl=true):okW (mTake stk bl bad want).2.1 bl=true:=by
 have h0:=h
 unfold okW at h ⊢
 simp only[Bool.and_eq_true,decide_eq_true_eq]at h ⊢
 obtain⟨⟨b1,b2,b3⟩,b4,b5⟩:=h
 unfold mTake
 cases hh:decide ((stk.length:Int)=(mTop bl).2.1)with
 |true=>exact⟨⟨b1,b2,b3⟩,b4,b5⟩
 |false=>
  have hne: ¬ (stk.length:Int)=(mTop bl).2.1:=of_decide_eq_false hh
  simp only[cond_false,List.length_take]
  refine⟨⟨b1,b2,by omega⟩,b4,by omega⟩
def mTks(L:List Int)(bl:List (den tBlk)):Nat->List Int->Bool->List Int×Bool
 |0,stk,bad=>(stk,bad)
 |n+1,stk,bad=>mTks L bl n (mTake stk bl bad (L.getD n (dflt i64))).2.1 (mTake stk bl bad (L.getD n (dflt i64))).2.2
abbrev tTk:List Ty:=[.sli tSig,.sli tImp,.sli i64,.sli tLim,.sli tLim,.sli tGlo,.sli tExp,i64,.sli tEle,.sli tCod,.sli tDat,.sli i64,.sli i64,.sli tBlk,.bool,.sli i64,i64]
abbrev tTkA:List Ty:=[.sli tSig,.sli tImp,.sli i64,.sli tLim,.sli tLim,.sli tGlo,.sli tExp,i64,.sli tEle,.sli tCod,.sli tDat,.sli i64,.sli i64,.sli tBlk,.bool,.sli i64]
def l71:Lop:=⟨0,lpOf Tryd.x71.code 0,[0,1,4],Ps [pWk 14,.im i64,.n .i64],[⟨.brk,[0],Ps [pWk 14]⟩]⟩
def e71:List (Nat×Fsp):=[(73,s73),(76,s76)]
theorem e71_ok(W:World cal):EnOk cal e71:=.cons (s73_ok W) (.cons (s76_ok W) .nil)
theorem l71_step(t:List (den tSig))(im:List (den tImp))(fs:List Int)(tb me:List (den tLim))(gl:List (den tGlo))(ex:List (den tExp))(st:Int)(el:List (den tEle))(co:List (den tCod))(da:List (den tDat))(lo stk:List Int)(bl:List (den tBlk))(bad:Bool)(L:List Int)(i:Int):
 (l71.step (fun _=>none) (inD e71 3) 3 (ofT tTk (t,im,fs,tb,me,gl,ex,st,el,co,da,lo,stk,bl,bad,L,i,()))).val=
 bif decide (0<=i)then bif ixOk i (Int.ofNat L.length)then bif okW stk bl then some (Rs.next (ofT tTk (t,im,fs,tb,me,gl,ex,st,el,co,da,lo,(mTake stk bl bad (L.getD i.toNat (dflt i64))).2.1,bl,(mTake stk bl bad (L.getD i.toNat (dflt i64))).2.2,L,subW .i64 i 1,())))else none else none
 else some (Rs.out 0 (ofT tWk (t,im,fs,tb,me,gl,ex,st,el,co,da,lo,stk,bl,bad,()))):=by kernel_rfl
theorem l71_rch(t:List (den tSig))(im:List (den tImp))(fs:List Int)(tb me:List (den tLim))(gl:List (den tGlo))(ex:List (den tExp))(st:Int)(el:List (den tEle))(co:List (den tCod))(da:List (den tDat))(lo:List Int)(bl:List (den tBlk))(L:List Int)(hL:L.length<=1099511627776): ∀ (n:Nat) (stk:List Int) (bad:Bool),n<=L.length->okW stk bl=true->
 Rch (l71.step (fun _=>none) (inD e71 3) 3) (ofT tTk (t,im,fs,tb,me,gl,ex,st,el,co,da,lo,stk,bl,bad,L,(n:Int) - 1,())) 0 (ofT tWk (t,im,fs,tb,me,gl,ex,st,el,co,da,lo,(mTks L bl n stk bad).1,bl,(mTks L bl n stk bad).2,()))
 |0,stk,bad,_,_=>by
  refine .last ?_
  rw[l71_step,decide_eq_false (by omega)]
  rfl
 |n+1,stk,bad,hn,h=>by
  have e:((n+1:Nat):Int) - 1=(n:Int):=by omega
  rw[e]
  have es:subW .i64 (n:Int) 1=(n:Int) - 1:=by
   show wrapF .i64 ((n:Int) - 1)=_
   exact wrap_i64 (by omega) (by omega)
  refine .more ?_ (l71_rch t im fs tb me gl ex st el co da lo bl L hL n (mTake stk bl bad (L.getD n (dflt i64))).2.1 (mTake stk bl bad (L.getD n (dflt i64))).2.2 (by omega) (mTake_ok _ _ h))
  rw[l71_step,decide_eq_true (show(0:Int)<=(n:Int) by omega),ix_nat (show n<L.length by omega),h,Int.toNat_natCast,es]
  rfl
def g71:denT tTk->T (Nat×List Pl):=fun x=>match x with
 |(t,im,fs,tb,me,gl,ex,st,el,co,da,lo,stk,bl,bad,L,i,_)=>.ck ((decide (i=subW .i64 (L.length:Int) 1)&&decide (L.length<=1099511627776))&&okW stk bl) (.ok (0,ofT tWk (t,im,fs,tb,me,gl,ex,st,el,co,da,lo,(mTks L bl L.length stk bad).1,bl,(mTks L bl L.length stk bad).2,())))
theorem g71_ok(x:denT tTk)(k:Nat)(q:List Pl)(h:(g71 x).val=some (k,q)):Rch (l71.step (fun _=>none) (inD e71 3) 3) (ofT tTk x) k q:=by
 obtain⟨t,im,fs,tb,me,gl,ex,st,el,co,da,lo,stk,bl,bad,L,i,⟨⟩⟩:=x
 obtain⟨h1,h2⟩:=Lf.T.ck_some h
 cases h2
 simp only[Bool.and_eq_true,decide_eq_true_eq]at h1
 obtain⟨⟨b1,b2⟩,b3⟩:=h1
 have es:subW .i64 (L.length:Int) 1=(L.length:Int) - 1:=by
  show wrapF .i64 ((L.length:Int) - 1)=_
  exact wrap_i64 (by omega) (by omega)
 rw[es]at b1
 subst b1
 exact l71_rch t im fs tb me gl ex st el co da lo bl L b2 L.length stk bad (Nat.le_refl _) b3
def L71:Nat->Option CdR:=pcL [(0,mkL l71 tTk g71)]
def s71:Fsp:=mkF (Ps [pWk 0,.im i64]) [14] (Ps [.tu .nil,pWk 14]) tTkA tWk fun x=>match x with
 |(t,im,fs,tb,me,gl,ex,st,el,co,da,lo,stk,bl,bad,L,_)=>.ck (decide (L.length<=1099511627776)&&okW stk bl) (.ok (t,im,fs,tb,me,gl,ex,st,el,co,da,lo,(mTks L bl L.length stk bad).1,bl,(mTks L bl L.length stk bad).2,()))
theorem s71_eq(t:List (den tSig))(im:List (den tImp))(fs:List Int)(tb me:List (den tLim))(gl:List (den tGlo))(ex:List (den tExp))(st:Int)(el:List (den tEle))(co:List (den tCod))(da:List (den tDat))(lo stk:List Int)(bl:List (den tBlk))(bad:Bool)(L:List Int):(fnT (Ps [pWk 0,.im i64]) [14] (Ps [.tu .nil,pWk 14]) L71 Tryd.x71 3 (inD e71 3) (ofT tTkA (t,im,fs,tb,me,gl,ex,st,el,co,da,lo,stk,bl,bad,L,()))).val=
 bif (decide (subW .i64 (L.length:Int) 1=subW .i64 (L.length:Int) 1)&&decide (L.length<=1099511627776))&&okW stk bl then some (ofT tWk (t,im,fs,tb,me,gl,ex,st,el,co,da,lo,(mTks L bl L.length stk bad).1,bl,(mTks L bl L.length stk bad).2,()))else none:=by kernel_rfl
theorem s71_ok(W:World cal):s71.Ok 71 cal:=by
 have C:=W.in (e71_ok W) 3
 have hl:SimD Rx.w (mkL l71 tTk g71) (fun n d=>aCd (cal n d) n (.bl 0 (.lp l71.body))):=mkL_ok C (okL_none _) (m:=3) g71_ok
 refine mkF_ok C (W.st 71 _ rfl) rfl (L:=L71) (PcOk.okL (.cons (b:=l71.body) (by kernel_rfl) hl .nil)) (m:=3) rfl ?_
 rintro⟨t,im,fs,tb,me,gl,ex,st,el,co,da,lo,stk,bl,bad,L,⟨⟩⟩ q h
 obtain⟨h1,h2⟩:=Lf.T.ck_some h
 cases h2
 rw[s71_eq,decide_eq_true (rfl:subW .i64 (L.length:Int) 1=subW .i64 (L.length:Int) 1),Bool.true_and,h1]
 rfl
def s72:Fsp:=mkF (Ps [pWk 0,.im i64]) [14] (Ps [.tu .nil,pWk 14]) tTkA tWk fun x=>match x with
 |(t,im,fs,tb,me,gl,ex,st,el,co,da,lo,stk,bl,bad,L,_)=>.ck (decide (stk.length+L.length<=1099511627776)) (.ok (t,im,fs,tb,me,gl,ex,st,el,co,da,lo,stk++L,bl,bad,()))
theorem s72_eq(t:List (den tSig))(im:List (den tImp))(fs:List Int)(tb me:List (den tLim))(gl:List (den tGlo))(ex:List (den tExp))(st:Int)(el:List (den tEle))(co:List (den tCod))(da:List (den tDat))(lo stk:List Int)(bl:List (den tBlk))(bad:Bool)(L:List Int):(fnT (Ps [pWk 0,.im i64]) [14] (Ps [.tu .nil,pWk 14]) (fun _=>none) Tryd.x72 3 (inD [] 3) (ofT tTkA (t,im,fs,tb,me,gl,ex,st,el,co,da,lo,stk,bl,bad,L,()))).val=
 bif roomy 8 (stk.length+L.length)then some (ofT tWk (t,im,fs,tb,me,gl,ex,st,el,co,da,lo,app stk L,bl,bad,()))else none:=by kernel_rfl
theorem s72_ok(W:World cal):s72.Ok 72 cal:=by
 refine mkF_ok (W.in .nil 3) (W.st 72 _ rfl) rfl (okL_none _) (m:=3) rfl ?_
 rintro⟨t,im,fs,tb,me,gl,ex,st,el,co,da,lo,stk,bl,bad,L,⟨⟩⟩ q h
 obtain⟨h1,h2⟩:=Lf.T.ck_some h
 cases h2
 rw[s72_eq,roomy_le (by omega) (of_decide_eq_true h1),app_eq]
 rfl
def mDead(b:den tBlk):den tBlk:=(b.1,b.2.1,b.2.2.1,b.2.2.2.1,true,b.2.2.2.2.2)
def s83:Fsp:=mkF (Ps [pWk 0]) [14] (Ps [.tu .nil,pWk 14]) tWk tWk fun x=>match x with
 |(t,im,fs,tb,me,gl,ex,st,el,co,da,lo,stk,bl,bad,_)=>.ck (okW stk bl) (.ok (t,im,fs,tb,me,gl,ex,st,el,co,da,lo,stk.take (mTop bl).2.1.toNat,bl.set (bl.length - 1) (mDead (mTop bl)),bad,()))
theorem s83_eq(t:List (den tSig))(im:List (den tImp))(fs:List Int)(tb me:List (den tLim))(gl:List (den tGlo))(ex:List (den tExp))(st:Int)(el:List (den tEle))(co:List (den tCod))(da:List (den tDat))(lo stk:List Int)(bl:List (den tBlk))(bad:Bool):(fnT (Ps [pWk 0]) [14] (Ps [.tu .nil,pWk 14]) (fun _=>none) Tryd.x83 3 (inD [] 3) (ofT tWk (t,im,fs,tb,me,gl,ex,st,el,co,da,lo,stk,bl,bad,()))).val=
 bif ixOk (subW .i64 (Int.ofNat bl.length) 1) (Int.ofNat bl.length)then bif cutOk 0 (bl.getD (subW .i64 (Int.ofNat bl.length) 1).toNat (dflt tBlk)).2.1 (Int.ofNat stk.length)then
  some (ofT tWk (t,im,fs,tb,me,gl,ex,st,el,co,da,lo,(stk.drop 0).take ((bl.getD (subW .i64 (Int.ofNat bl.length) 1).toNat (dflt tBlk)).2.1.toNat - 0),bl.set (subW .i64 (Int.ofNat bl.length) 1).toNat (mDead (bl.getD (subW .i64 (Int.ofNat bl.length) 1).toNat (dflt tBlk))),bad,()))else none else none:=by kernel_rfl
theorem s83_ok(W:World cal):s83.Ok 83 cal:=by
 refine mkF_ok (W.in .nil 3) (W.st 83 _ rfl) rfl (okL_none _) (m:=3) rfl ?_
 rintro⟨t,im,fs,tb,me,gl,ex,st,el,co,da,lo,stk,bl,bad,⟨⟩⟩ q h
 obtain⟨h1,h2⟩:=Lf.T.ck_some h
 cases h2
 unfold okW at h1
 simp only[Bool.and_eq_true,decide_eq_true_eq]at h1
 obtain⟨⟨b1,b2,b3⟩,b4,b5⟩:=h1
 have hb:ixOk ((bl.length - 1:Nat):Int) (bl.length:Int)=true:=ix_nat (by omega)
 rw[s83_eq,show Int.ofNat bl.length=(bl.length:Int)from rfl,show Int.ofNat stk.length=(stk.length:Int)from rfl,sub1 b1 (by omega),Int.toNat_natCast,hb,cond_true]
 have hc:cutOk 0 (mTop bl).2.1 (stk.length:Int)=true:=by unfold cutOk;simp;omega
 show(bif cutOk 0 (mTop bl).2.1 (stk.length:Int)then _ else _)=_
 rw[hc,List.drop_zero,Nat.sub_zero]
 rfl
end Go.Proofs.Vd

noncomputable section
variable {V:ByteArray→Bool}{cal:Go.Ab.Lf.CallN}
namespace Go.Proofs.Vd
open Go.Ab Go.Ab.Lf
set_option maxRecDepth 100000
def s63:Fsp:=mkF (Ps [.im i64]) [] (Ps [.ow i64]) [.sli i64] [.sli i64] fun x=>.ck (decide (x.1.length<=1099511627776)) (.ok (x.1,()))
structure WorldC(V:ByteArray->Bool)(cal:CallN):Prop extends WorldV V cal where
 cl:s63.Ok 63 cal
abbrev tMN:List Ty:=[.sli tSig,.sli tImp,.sli i64,.sli tLim,.sli tLim,.sli tGlo,.sli tExp,i64,.sli tEle,.sli tCod,.sli tDat,i64]
abbrev tSgO:List Ty:=[.sli i64,.sli i64,.bool]
abbrev qSg:Pat:=Ps [.tu (Ps [.ag (Ps [.ow i64,.ow i64]),.bo])]
def mKindO(t:List (den tSig))(k:Int):Bool:= !(bif decide (k<0)then true else decide ((t.length:Int)<=k))
def mKindS(t:List (den tSig))(k:Int):den tSig:=bif mKindO t k then t.getD k.toNat (dflt tSig)else([],[])
def gT(t:List (den tSig)):Bool:=List.all t fun s=>decide (List.length s.1<=1099511627776)&&decide (List.length s.2<=1099511627776)
def s21:Fsp:=mkF (Ps [pM,.n .i64]) [] qSg tMN tSgO fun x=>match x with
 |(t,im,fs,tb,me,gl,ex,st,el,co,da,k,_)=>.ck (gT t) (.ok ((mKindS t k).1,(mKindS t k).2,mKindO t k,()))
def e21:List (Nat×Fsp):=[(63,s63)]
theorem e21_ok(W:WorldC V cal):EnOk cal e21:=.cons W.cl .nil
theorem s21_eq(t:List (den tSig))(im:List (den tImp))(fs:List Int)(tb me:List (den tLim))(gl:List (den tGlo))(ex:List (den tExp))(st:Int)(el:List (den tEle))(co:List (den tCod))(da:List (den tDat))(k:Int):(fnT (Ps [pM,.n .i64]) [] qSg (fun _=>none) Tryd.x21 3 (inD e21 3) (ofT tMN (t,im,fs,tb,me,gl,ex,st,el,co,da,k,()))).val=
 bif (bif decide (k<0)then true else decide ((t.length:Int)<=k))then some (ofT tSgO ([],[],false,()))else ckO (ixOk k (Int.ofNat t.length)) (ckO (decide ((t.getD k.toNat (dflt tSig)).1.length<=1099511627776)) (ckO (decide ((t.getD k.toNat (dflt tSig)).2.length<=1099511627776)) (some (ofT tSgO ((t.getD k.toNat (dflt tSig)).1,(t.getD k.toNat (dflt tSig)).2,true,()))))):=by kernel_rfl
theorem s21_ok(W:WorldC V cal):s21.Ok 21 cal:=by
 refine mkF_ok (W.toWorld.in (e21_ok W) 3) (W.st 21 _ rfl) rfl (okL_none _) (m:=3) rfl ?_
 rintro⟨t,im,fs,tb,me,gl,ex,st,el,co,da,k,⟨⟩⟩ q h
 obtain⟨h0,h⟩:=Lf.T.ck_some h
 cases h
 rw[s21_eq]
 unfold mKindS mKindO
 by_cases h1:k<0
 ·rw[decide_eq_true h1];rfl
 ·by_cases h2:(t.length:Int)<=k
  ·rw[decide_eq_false h1,decide_eq_true h2];rfl
  ·have hx:ixOk k (Int.ofNat t.length)=true:=ixOk_iff.2 ⟨Int.not_lt.1 h1,Int.not_le.1 h2⟩
   have hm:(t.getD k.toNat (dflt tSig))∈t:=by
    have key: ∀ (k:Int) (n:Nat),¬ k<0-> ¬ (n:Int)<=k->k.toNat<n:=fun k n _ _=>by omega
    have:k.toNat<t.length:=key k _ h1 h2
    rw[List.getD_eq_getElem?_getD,List.getElem?_eq_getElem this]
    exact List.getElem_mem this
   unfold gT at h0
   have h0:=List.all_eq_true.1 h0 _ hm
   rw[Bool.and_eq_true]at h0
   rw[decide_eq_false h1,decide_eq_false h2,hx,h0.1,h0.2];rfl
def mLab(bl:List (den tBlk))(l:Int):List Int:=bif decide ((bl.length:Int)<=l)then []else
 let b:=bl.getD (subW .i64 (subW .i64 (Int.ofNat bl.length) 1) l).toNat (dflt tBlk)
 bif decide (b.1=3)then b.2.2.1 else b.2.2.2.1
theorem subK{k:Int}{n:Nat}(h1:(n:Int)<=k)(h2:k<9223372036854775808):0<=subW .i64 k (n:Int):=by
 have es:subW .i64 k (n:Int)=k - (n:Int):=by
  show wrapF .i64 (k - (n:Int))=_
  exact wrap_i64 (by omega) (by omega)
 rw[es]
 omega
def mSigK(im:List (den tImp))(fs:List Int)(k:Int):Int:=
 bif (bif decide (0<=k)then decide (k<(im.length:Int))else false)then(im.getD k.toNat (dflt tImp)).2.2 else
 bif (bif decide ((im.length:Int)<=k)then decide (subW .i64 k (im.length:Int)<(fs.length:Int))else false)then fs.getD (subW .i64 k (im.length:Int)).toNat (dflt i64)else -1
def s10:Fsp:=mkF (Ps [pM,.n .i64]) [] qSg tMN tSgO fun x=>match x with
 |(t,im,fs,tb,me,gl,ex,st,el,co,da,k,_)=>.ck (gT t&&(decide (k<9223372036854775808)&&decide (im.length<=1099511627776))) (.ok ((mKindS t (mSigK im fs k)).1,(mKindS t (mSigK im fs k)).2,mKindO t (mSigK im fs k),()))
def e10:List (Nat×Fsp):=[(21,s21)]
theorem e10_ok(W:WorldC V cal):EnOk cal e10:=.cons (s21_ok W) .nil
theorem s10_eq(t:List (den tSig))(im:List (den tImp))(fs:List Int)(tb me:List (den tLim))(gl:List (den tGlo))(ex:List (den tExp))(st:Int)(el:List (den tEle))(co:List (den tCod))(da:List (den tDat))(k:Int):(fnT (Ps [pM,.n .i64]) [] qSg (fun _=>none) Tryd.x10 3 (inD e10 3) (ofT tMN (t,im,fs,tb,me,gl,ex,st,el,co,da,k,()))).val=
 bif (bif decide (0<=k)then decide (k<(im.length:Int))else false)then ckO (ixOk k (Int.ofNat im.length)) (ckO (gT t) (some (ofT tSgO ((mKindS t (im.getD k.toNat (dflt tImp)).2.2).1,(mKindS t (im.getD k.toNat (dflt tImp)).2.2).2,mKindO t (im.getD k.toNat (dflt tImp)).2.2,()))))
 else bif (bif decide ((im.length:Int)<=k)then decide (subW .i64 k (im.length:Int)<(fs.length:Int))else false)then ckO (ixOk (subW .i64 k (im.length:Int)) (Int.ofNat fs.length)) (ckO (gT t) (
  some (ofT tSgO ((mKindS t (fs.getD (subW .i64 k (im.length:Int)).toNat (dflt i64))).1,(mKindS t (fs.getD (subW .i64 k (im.length:Int)).toNat (dflt i64))).2,mKindO t (fs.getD (subW .i64 k (im.length:Int)).toNat (dflt i64)),()))))
 else ckO (gT t)<|some (ofT tSgO ((mKindS t (-1)).1,(mKindS t (-1)).2,mKindO t (-1),())):=by kernel_rfl
theorem s10_ok(W:WorldC V cal):s10.Ok 10 cal:=by
 refine mkF_ok (W.toWorld.in (e10_ok W) 3) (W.st 10 _ rfl) rfl (okL_none _) (m:=3) rfl ?_
 rintro⟨t,im,fs,tb,me,gl,ex,st,el,co,da,k,⟨⟩⟩ q h
 obtain⟨h1,h2⟩:=Lf.T.ck_some h
 cases h2
 simp only[Bool.and_eq_true,decide_eq_true_eq]at h1
 obtain⟨b0,b1,b2⟩:=h1
 rw[s10_eq,b0]
 have goal: ∀ j:Int,j=mSigK im fs k->some (ofT tSgO ((mKindS t j).1,(mKindS t j).2,mKindO t j,()))=some (ofT tSgO ((mKindS t (mSigK im fs k)).1,(mKindS t (mSigK im fs k)).2,mKindO t (mSigK im fs k),())):=by
  rintro j rfl;rfl
 cases c1:(bif decide ((0:Int)<=k)then decide (k<(im.length:Int))else false)with
 |true=>
  have hx:ixOk k (Int.ofNat im.length)=true:=by
   rw[Bool.cond_false_right,Bool.and_eq_true,decide_eq_true_eq,decide_eq_true_eq]at c1
   exact ixOk_iff.2 c1
  rw[hx]
  exact goal _ (by unfold mSigK;rw[c1];rfl)
 |false=>
  cases c2:(bif decide ((im.length:Int)<=k)then decide (subW .i64 k (im.length:Int)<(fs.length:Int))else false)with
  |true=>
   have hx:ixOk (subW .i64 k (im.length:Int)) (Int.ofNat fs.length)=true:=by
    rw[Bool.cond_false_right,Bool.and_eq_true,decide_eq_true_eq,decide_eq_true_eq]at c2
    exact ixOk_iff.2 ⟨subK c2.1 b1,c2.2⟩
   rw[hx]
   exact goal _ (by unfold mSigK;rw[c1,c2];rfl)
  |false=>exact goal _ (by unfold mSigK;rw[c1,c2];rfl)
end Go.Proofs.Vd

noncomputable section
variable {V:ByteArray→Bool}{cal:Go.Ab.Lf.CallN}
namespace Go.Proofs.Vd
open Go.Ab Go.Ab.Lf
set_option maxRecDepth 100000
abbrev tSgW:List Ty:=[.sli i64,.sli i64,.sli tSig,.sli tImp,.sli i64,.sli tLim,.sli tLim,.sli tGlo,.sli tExp,i64,.sli tEle,.sli tCod,.sli tDat,.sli i64,.sli i64,.sli tBlk,.bool]
def mSgS(t:List (den tSig))(l:Int):den tSig:=bif decide (0<=l)then mKindS t l else bif decide (l= -64)then([],[])else([],[addW .i64 l 128])
def mSgB(t:List (den tSig))(l:Int)(bad:Bool):Bool:=bif decide (0<=l)then bad|| !(mKindO t l)else bad
def e74:List (Nat×Fsp):=[(21,s21),(76,s76)]
theorem e74_ok(W:WorldC V cal):EnOk cal e74:=.cons (s21_ok W) (.cons (s76_ok W.toWorld) .nil)
def s74:Fsp:=mkF (Ps [pWk 0,.n .i64]) [14] (Ps [.ag (Ps [.ow i64,.ow i64]),pWk 14]) tWkN tSgW fun x=>match x with
 |(t,im,fs,tb,me,gl,ex,st,el,co,da,lo,stk,bl,bad,l,_)=>.ck (gT t) (.ok ((mSgS t l).1,(mSgS t l).2,t,im,fs,tb,me,gl,ex,st,el,co,da,lo,stk,bl,mSgB t l bad,()))
theorem s74_eq(t:List (den tSig))(im:List (den tImp))(fs:List Int)(tb me:List (den tLim))(gl:List (den tGlo))(ex:List (den tExp))(st:Int)(el:List (den tEle))(co:List (den tCod))(da:List (den tDat))(lo stk:List Int)(bl:List (den tBlk))(bad:Bool)(l:Int):(fnT (Ps [pWk 0,.n .i64]) [14] (Ps [.ag (Ps [.ow i64,.ow i64]),pWk 14]) (fun _=>none) Tryd.x74 3 (inD e74 3) (ofT tWkN (t,im,fs,tb,me,gl,ex,st,el,co,da,lo,stk,bl,bad,l,()))).val=
 bif decide (0<=l)then ckO (gT t)<|some (ofT tSgW ((mKindS t l).1,(mKindS t l).2,t,im,fs,tb,me,gl,ex,st,el,co,da,lo,stk,bl,bad|| !(mKindO t l),()))else bif decide (l= -64)then some (ofT tSgW ([],[],t,im,fs,tb,me,gl,ex,st,el,co,da,lo,stk,bl,bad,()))else some (ofT tSgW ([],[addW .i64 l 128],t,im,fs,tb,me,gl,ex,st,el,co,da,lo,stk,bl,bad,())):=by kernel_rfl
theorem s74_ok(W:WorldC V cal):s74.Ok 74 cal:=by
 refine mkF_ok (W.toWorld.in (e74_ok W) 3) (W.st 74 _ rfl) rfl (okL_none _) (m:=3) rfl ?_
 rintro⟨t,im,fs,tb,me,gl,ex,st,el,co,da,lo,stk,bl,bad,l,⟨⟩⟩ q h
 obtain⟨h0,h⟩:=Lf.T.ck_some h
 cases h
 rw[s74_eq,h0]
 unfold mSgS mSgB
 cases decide (0<=l)<;>cases decide (l= -64)<;>rfl
abbrev tOp:List Ty:=[.sli tSig,.sli tImp,.sli i64,.sli tLim,.sli tLim,.sli tGlo,.sli tExp,i64,.sli tEle,.sli tCod,.sli tDat,.sli i64,.sli i64,.sli tBlk,.bool,i64,.sli i64,.sli i64]
def mLive(bl:List (den tBlk)):Bool:=bif decide ((0:Int)<(bl.length:Int))then(bif (mTop bl).2.2.2.2.2 then !(mTop bl).2.2.2.2.1 else false)else true
def mOpen(stk:List Int)(bl:List (den tBlk))(op:Int)(i o:List Int):List (den tBlk):=bl++[(op,(stk.length:Int),i,o,false,mLive bl)]
def s60:Fsp:=mkF (Ps [pWk 0,.n .i64,.ag (Ps [.im i64,.im i64])]) [14] (Ps [.tu .nil,pWk 14]) tOp tWk fun x=>match x with
 |(t,im,fs,tb,me,gl,ex,st,el,co,da,lo,stk,bl,bad,op,i,o,_)=>.ck (decide (bl.length+1<=549755813888)) (.ok (t,im,fs,tb,me,gl,ex,st,el,co,da,lo,stk,mOpen stk bl op i o,bad,()))
theorem s60_eq(t:List (den tSig))(im:List (den tImp))(fs:List Int)(tb me:List (den tLim))(gl:List (den tGlo))(ex:List (den tExp))(st:Int)(el:List (den tEle))(co:List (den tCod))(da:List (den tDat))(lo stk:List Int)(bl:List (den tBlk))(bad:Bool)(op:Int)(i o:List Int):(fnT (Ps [pWk 0,.n .i64,.ag (Ps [.im i64,.im i64])]) [14] (Ps [.tu .nil,pWk 14]) (fun _=>none) Tryd.x60 3 (inD [] 3) (ofT tOp (t,im,fs,tb,me,gl,ex,st,el,co,da,lo,stk,bl,bad,op,i,o,()))).val=
 bif decide ((0:Int)<(bl.length:Int))then bif ixOk (subW .i64 (bl.length:Int) 1) (bl.length:Int)then bif (bl.getD (subW .i64 (bl.length:Int) 1).toNat (dflt tBlk)).2.2.2.2.2 then bif ixOk (subW .i64 (bl.length:Int) 1) (bl.length:Int)then
  bif roomy 72 (bl.length+1)then some (ofT tWk (t,im,fs,tb,me,gl,ex,st,el,co,da,lo,stk,app bl [(op,(stk.length:Int),i,o,false,!(bl.getD (subW .i64 (bl.length:Int) 1).toNat (dflt tBlk)).2.2.2.2.1)],bad,()))else none else none
  else bif roomy 72 (bl.length+1)then some (ofT tWk (t,im,fs,tb,me,gl,ex,st,el,co,da,lo,stk,app bl [(op,(stk.length:Int),i,o,false,false)],bad,()))else none else none
 else bif roomy 72 (bl.length+1)then some (ofT tWk (t,im,fs,tb,me,gl,ex,st,el,co,da,lo,stk,app bl [(op,(stk.length:Int),i,o,false,true)],bad,()))else none:=by kernel_rfl
theorem s60_ok(W:World cal):s60.Ok 60 cal:=by
 refine mkF_ok (W.in .nil 3) (W.st 60 _ rfl) rfl (okL_none _) (m:=3) rfl ?_
 rintro⟨t,im,fs,tb,me,gl,ex,st,el,co,da,lo,stk,bl,bad,op,i,o,⟨⟩⟩ q h
 obtain⟨h1,h2⟩:=Lf.T.ck_some h
 cases h2
 have h1:bl.length+1<=549755813888:=of_decide_eq_true h1
 have hr:roomy 72 (bl.length+1)=true:=by
  rw[roomy_iff]
  constructor<;>omega
 rw[s60_eq,hr]
 simp only[app_eq]
 show _=some (ofT tWk (t,im,fs,tb,me,gl,ex,st,el,co,da,lo,stk,mOpen stk bl op i o,bad,()))
 unfold mOpen mLive
 by_cases h0:0<bl.length
 ·have hb:ixOk ((bl.length - 1:Nat):Int) (bl.length:Int)=true:=ix_nat (by omega)
  rw[sub1 h0 (by omega),hb,decide_eq_true (show(0:Int)<(bl.length:Int) by omega),Int.toNat_natCast]
  rw[show bl.getD (bl.length - 1) (dflt tBlk)=mTop bl from rfl]
  cases(mTop bl).2.2.2.2.2<;>simp only[cond_true,cond_false]
 ·rw[decide_eq_false (show ¬ (0:Int)<(bl.length:Int) by omega)]
  simp only[cond_true,cond_false]
end Go.Proofs.Vd

noncomputable section
variable {cal:Go.Ab.Lf.CallN}
namespace Go.Proofs.Vd
open Go.Ab Go.Ab.Lf
set_option maxRecDepth 100000
abbrev tLb:List Ty:=[.sli i64,.sli tSig,.sli tImp,.sli i64,.sli tLim,.sli tLim,.sli tGlo,.sli tExp,i64,.sli tEle,.sli tCod,.sli tDat,.sli i64,.sli i64,.sli tBlk,.bool]
def s84:Fsp:=mkF (Ps [pWk 0,.n .i64]) [14] (Ps [.im i64,pWk 14]) tWkN tLb fun x=>match x with
 |(t,im,fs,tb,me,gl,ex,st,el,co,da,lo,stk,bl,bad,l,_)=>.ck (decide (0<=l)&&decide (bl.length<=1099511627776)) (.ok (mLab bl l,t,im,fs,tb,me,gl,ex,st,el,co,da,lo,stk,bl,bif decide ((bl.length:Int)<=l)then true else bad,()))
theorem s84_eq(t:List (den tSig))(im:List (den tImp))(fs:List Int)(tb me:List (den tLim))(gl:List (den tGlo))(ex:List (den tExp))(st:Int)(el:List (den tEle))(co:List (den tCod))(da:List (den tDat))(lo stk:List Int)(bl:List (den tBlk))(bad:Bool)(l:Int):(fnT (Ps [pWk 0,.n .i64]) [14] (Ps [.im i64,pWk 14]) (fun _=>none) Tryd.x84 3 (inD [] 3) (ofT tWkN (t,im,fs,tb,me,gl,ex,st,el,co,da,lo,stk,bl,bad,l,()))).val=
 bif decide ((bl.length:Int)<=l)then some (ofT tLb ([],t,im,fs,tb,me,gl,ex,st,el,co,da,lo,stk,bl,true,()))else bif ixOk (subW .i64 (subW .i64 (Int.ofNat bl.length) 1) l) (Int.ofNat bl.length)then
  bif decide ((bl.getD (subW .i64 (subW .i64 (Int.ofNat bl.length) 1) l).toNat (dflt tBlk)).1=3)then some (ofT tLb ((bl.getD (subW .i64 (subW .i64 (Int.ofNat bl.length) 1) l).toNat (dflt tBlk)).2.2.1,t,im,fs,tb,me,gl,ex,st,el,co,da,lo,stk,bl,bad,()))
  else some (ofT tLb ((bl.getD (subW .i64 (subW .i64 (Int.ofNat bl.length) 1) l).toNat (dflt tBlk)).2.2.2.1,t,im,fs,tb,me,gl,ex,st,el,co,da,lo,stk,bl,bad,()))else none:=by kernel_rfl
theorem labIx{l:Int}{n:Nat}(h0:0<=l)(h1: ¬ (n:Int)<=l)(hn:n<=1099511627776):ixOk (subW .i64 (subW .i64 (Int.ofNat n) 1) l) (Int.ofNat n)=true:=by
 have e1:subW .i64 (Int.ofNat n) 1=(n:Int) - 1:=by
  show wrapF .i64 ((n:Int) - 1)=_
  exact wrap_i64 (by omega) (by omega)
 have e2:subW .i64 ((n:Int) - 1) l=(n:Int) - 1 - l:=by
  show wrapF .i64 ((n:Int) - 1 - l)=_
  exact wrap_i64 (by omega) (by omega)
 rw[e1,e2]
 exact ixOk_iff.2 ⟨by omega,by show(n:Int) - 1 - l<(n:Int);omega⟩
theorem s84_ok(W:World cal):s84.Ok 84 cal:=by
 refine mkF_ok (W.in .nil 3) (W.st 84 _ rfl) rfl (okL_none _) (m:=3) rfl ?_
 rintro⟨t,im,fs,tb,me,gl,ex,st,el,co,da,lo,stk,bl,bad,l,⟨⟩⟩ q h
 obtain⟨h1,h2⟩:=Lf.T.ck_some h
 cases h2
 simp only[Bool.and_eq_true,decide_eq_true_eq]at h1
 rw[s84_eq]
 show _=some (ofT tLb (mLab bl l,t,im,fs,tb,me,gl,ex,st,el,co,da,lo,stk,bl,bif decide ((bl.length:Int)<=l)then true else bad,()))
 unfold mLab
 by_cases hl:(bl.length:Int)<=l
 ·rw[decide_eq_true hl]
  simp only[cond_true]
 ·rw[decide_eq_false hl,labIx h1.1 hl h1.2]
  simp only[cond_true,cond_false]
  cases decide ((bl.getD (subW .i64 (subW .i64 (Int.ofNat bl.length) 1) l).toNat (dflt tBlk)).1=3)<;>simp only[cond_true,cond_false]
abbrev t82:List Ty:=[.sli i64,.sli i64,i64,i64]
def l82:Lop:=⟨0,lpOf Tryd.x82.code 0,[0,1,12,13],Ps [.im i64,.im i64,.n .i64,.n .i64],[⟨.brk,[],.nil⟩,⟨.rt,[4],Ps [.bo]⟩]⟩
theorem l82_step(a b:List Int)(n i:Int):(l82.step (fun _=>none) (inD [] 3) 3 (ofT t82 (a,b,n,i,()))).val=
 bif decide (i<n)then bif (ixOk i (Int.ofNat a.length)&&ixOk i (Int.ofNat b.length))then bif !decide (a.getD i.toNat (dflt i64)=b.getD i.toNat (dflt i64))then some (Rs.out 1 (ofT [.bool] (false,())))else some (Rs.next (ofT t82 (a,b,n,addW .i64 i 1,())))else none else some (Rs.out 0 (ofT [] ())):=by kernel_rfl
theorem l82_rch(a b:List Int)(n:Nat)(hn:n<=1099511627776): ∀ (k:Nat) (j:Nat),j+k=n->a.length=n->b.length=n->(∀ i,i<j->a.getD i (dflt i64)=b.getD i (dflt i64))->
 Rch (l82.step (fun _=>none) (inD [] 3) 3) (ofT t82 (a,b,(n:Int),(j:Int),())) (bif decide (a=b)then 0 else 1) (bif decide (a=b)then ofT [] ()else ofT [.bool] (false,()))
 |0,j,hj,ha,hb,h=>by
  have hab:a=b:=by
   apply List.ext_getElem (ha.trans hb.symm)
   intro i h1 h2
   have:=h i (by omega)
   rw[List.getD_eq_getElem?_getD,List.getD_eq_getElem?_getD,List.getElem?_eq_getElem h1,List.getElem?_eq_getElem h2]at this
   exact this
  rw[decide_eq_true hab]
  refine .last ?_
  rw[l82_step,lt_natF (by omega)]
  rfl
 |k+1,j,hj,ha,hb,h=>by
  have hx:(ixOk (j:Int) (Int.ofNat a.length)&&ixOk (j:Int) (Int.ofNat b.length))=true:=by
   rw[ix_nat (by omega),ix_nat (by omega)];rfl
  by_cases hq:a.getD j (dflt i64)=b.getD j (dflt i64)
  ·refine .more ?_ (l82_rch a b n hn k (j+1) (by omega) ha hb (fun i hi=>by
    by_cases e:i=j
    ·subst e;exact hq
    ·exact h i (by omega)))
   rw[l82_step,lt_nat (by omega),hx,Int.toNat_natCast,decide_eq_true hq,add1 (by omega)]
   rfl
  ·have hab: ¬ a=b:=fun e=>hq (by rw[e])
   rw[decide_eq_false hab]
   refine .last ?_
   rw[l82_step,lt_nat (by omega),hx,Int.toNat_natCast,decide_eq_false hq]
   rfl
def g82:denT t82->T (Nat×List Pl):=fun x=>.ck ((decide (x.2.2.1=(x.1.length:Int))&&decide (x.2.2.2.1=0))&&(decide (x.2.1.length=x.1.length)&&decide (x.1.length<=1099511627776))) (.br (decide (x.1=x.2.1)) (.ok (0,ofT [] ())) (.ok (1,ofT [.bool] (false,()))))
theorem g82_ok(x:denT t82)(k:Nat)(q:List Pl)(h:(g82 x).val=some (k,q)):Rch (l82.step (fun _=>none) (inD [] 3) 3) (ofT t82 x) k q:=by
 obtain⟨a,b,n,i,⟨⟩⟩:=x
 obtain⟨h1,h2⟩:=Lf.T.ck_some h
 simp only[Bool.and_eq_true,decide_eq_true_eq]at h1
 obtain⟨⟨b1,b2⟩,b3,b4⟩:=h1
 subst b1;subst b2
 have:=l82_rch a b a.length b4 a.length 0 (by omega) rfl b3 (fun i hi=>absurd hi (Nat.not_lt_zero i))
 rw[Lf.T.val_br]at h2
 cases hd:decide (a=b)with
 |true=>
  have hd':decide ((a,b,(a.length:Int),(0:Int),()).1=(a,b,(a.length:Int),(0:Int),()).2.1)=true:=hd
  rw[hd]at this
  simp only[hd,cond_true]at h2
  cases h2
  exact this
 |false=>
  rw[hd]at this
  simp only[hd,cond_false]at h2
  cases h2
  exact this
def L82:Nat->Option CdR:=pcL [(0,mkL l82 t82 g82)]
def s82:Fsp:=mkF (Ps [.im i64,.im i64]) [] (Ps [.bo]) [.sli i64,.sli i64] [.bool] fun x=>.ck (decide (x.1.length<=1099511627776)) (.ok (decide (x.1=x.2.1),()))
theorem s82_eq(a b:List Int):(fnT (Ps [.im i64,.im i64]) [] (Ps [.bo]) L82 Tryd.x82 3 (inD [] 3) (ofT [.sli i64,.sli i64] (a,b,()))).val=
 bif !decide ((a.length:Int)=(b.length:Int))then some (ofT [.bool] (false,()))else bif (decide ((a.length:Int)=(a.length:Int))&&decide ((0:Int)=0))&&(decide (b.length=a.length)&&decide (a.length<=1099511627776))then
  bif decide (a=b)then some (ofT [.bool] (true,()))else some (ofT [.bool] (false,()))else none:=by kernel_rfl
theorem s82_ok(W:World cal):s82.Ok 82 cal:=by
 have C:=W.in .nil 3
 have hl:SimD Rx.w (mkL l82 t82 g82) (fun n d=>aCd (cal n d) n (.bl 0 (.lp l82.body))):=mkL_ok C (okL_none _) (m:=3) g82_ok
 refine mkF_ok C (W.st 82 _ rfl) rfl (L:=L82) (PcOk.okL (.cons (b:=l82.body) (by kernel_rfl) hl .nil)) (m:=3) rfl ?_
 rintro⟨a,b,⟨⟩⟩ q h
 obtain⟨h1,h2⟩:=Lf.T.ck_some h
 cases h2
 have h1:a.length<=1099511627776:=of_decide_eq_true h1
 rw[s82_eq]
 show _=some (ofT [.bool] (decide (a=b),()))
 by_cases hl:a.length=b.length
 ·rw[decide_eq_true (show(a.length:Int)=(b.length:Int) by omega),decide_eq_true hl.symm,decide_eq_true h1]
  simp only[decide_true,Bool.and_self,Bool.not_true,cond_false,cond_true]
  cases decide (a=b)<;>simp only[cond_true,cond_false]
 ·rw[decide_eq_false (show ¬ (a.length:Int)=(b.length:Int) by omega),decide_eq_false (show ¬ a=b from fun e=>hl (by rw[e]))]
  simp only[Bool.not_false,cond_true]
end Go.Proofs.Vd

noncomputable section
variable {cal:Go.Ab.Lf.CallN}
namespace Go.Ab.Lf
def fitS(to:List Ty)(t:T (List Pl)):Bool:=
 T.rec (motive:=fun _=>Bool) false (fun l=>(toT to l).isSome) (fun _ _ _ a b=>a&&b) (fun _ _ a=>a) t
def cksT(t:T (List Pl)):List Bool:=T.rec (motive:=fun _=>List Bool) [] (fun _=>[]) (fun _ _ _ a b=>app a b) (fun c _ a=>c::a) t
theorem fitS_ok{to:List Ty}: ∀ {t:T (List Pl)},fitS to t=true->(∀ c,c∈cksT t->c=true)->okV1 to t=true
 | .bad,h,_=>by cases h
 | .ok l,h,_=>fitT_ok (t:=.ok l) h
 | .br c a b,h,k=>by
  have h:(fitS to a&&fitS to b)=true:=h
  have k: ∀ d,d∈app (cksT a) (cksT b)->d=true:=k
  rw[app_eq]at k
  obtain⟨h1,h2⟩:=Bool.and_eq_true_iff.1 h
  have q1:=fitS_ok h1 fun d hd=>k d (List.mem_append_left _ hd)
  have q2:=fitS_ok h2 fun d hd=>k d (List.mem_append_right _ hd)
  unfold okV1 at*
  rw[T.val_br]
  cases c
  ·exact q2
  ·exact q1
 | .ck c a,h,k=>by
  have h:fitS to a=true:=h
  have k: ∀ d,d∈c::cksT a->d=true:=k
  have q1:=fitS_ok h fun d hd=>k d (List.mem_cons_of_mem _ hd)
  have hc:c=true:=k c (List.mem_cons_self ..)
  subst hc
  unfold okV1 at*
  rw[T.val_ck]
  exact q1
theorem auto2{call:CallQ}(C:SimC call cal){f:FuncId}{b:FbK}(hb:StepOk cal f b)(h512:Nat.ble b.ntmps 512=true){L:Nat->Option CdR}(hL:okL Rx.w cal L b.code){m:Nat}{P:Pat}{ptr:List Nat}{Q:Pat}{ti to:List Ty}{out:denT ti->denT to}{g:denT ti->Bool}
 (h0:allB (fun g=> !(Nat.beq g 0)) ptr=true)(h1: ∀ x,fitS to (fnT P ptr Q L b m call (ofT ti x))=true)(hc: ∀ x,g x=true-> ∀ c,c∈cksT (fnT P ptr Q L b m call (ofT ti x))->c=true)(h2: ∀ x,out x=outV1 to (fnT P ptr Q L b m call (ofT ti x))):(mkF P ptr Q ti to fun x=>.ck (g x) (.ok (out x))).Ok f cal:=by
 refine mkF_ok C hb h512 hL (m:=m) h0 fun x y h=>?_
 obtain⟨k1,k2⟩:=T.ck_some h
 cases k2
 rw[h2]
 exact outV1_ok (fitS_ok (h1 x) (hc x k1))
end Go.Ab.Lf
namespace Go.Proofs.Vd
open Go.Ab Go.Ab.Lf
set_option maxRecDepth 100000
abbrev tFi:List Ty:=[.sli tSig,.sli tImp,.sli i64,.sli tLim,.sli tLim,.sli tGlo,.sli tExp,i64,.sli tEle,.sli tCod,.sli tDat,.sli i64,.sli i64,.sli tBlk,.bool,i64,i64,i64,u64,u64,.sli i64,i64,i64,.bool,.sli i64,.sli i64]
abbrev pInf:Pat:=.ag (Ps [.n .i64,.n .i64,.bo,.im i64,.im i64])
def e70:List (Nat×Fsp):=[(76,s76),(81,s81)]
theorem e70_ok(W:World cal):EnOk cal e70:=.cons (s76_ok W) (.cons (s81_ok W) .nil)
def t70(x:denT tFi):Lf.T (List Pl):=fnT (Ps [pWk 0,pI,pInf]) [14] (Ps [.tu .nil,pWk 14]) (fun _=>none) Tryd.x70 20 (inD e70 20) (ofT tFi x)
def mFld(x:denT tFi):denT tWk:=outV1 tWk (t70 x)
def gFld(x:denT tFi):Bool:=match x with
 |(t,im,fs,tb,me,gl,ex,st,el,co,da,lo,stk,bl,bad,_,_,_,_,_,_,_,lim,_,_,_,_)=>decide (0<=lim)
def s70:Fsp:=mkF (Ps [pWk 0,pI,pInf]) [14] (Ps [.tu .nil,pWk 14]) tFi tWk fun x=>.ck (gFld x) (.ok (mFld x))
theorem s70_ok(W:World cal):s70.Ok 70 cal:=by
 refine auto2 (W.in (e70_ok W) 20) (W.st 70 _ rfl) rfl (okL_none _) (m:=20) rfl ?_ ?_ (fun _=>rfl)
 ·rintro⟨t,im,fs,tb,me,gl,ex,st,el,co,da,lo,stk,bl,bad,o,a,b,l1,l2,l,f,lim,pl,i2,o2,⟨⟩⟩
  kernel_rfl
 ·rintro⟨t,im,fs,tb,me,gl,ex,st,el,co,da,lo,stk,bl,bad,o,a,b,l1,l2,l,f,lim,pl,i2,o2,⟨⟩⟩ h c hc
  have e:cksT (t70 (t,im,fs,tb,me,gl,ex,st,el,co,da,lo,stk,bl,bad,o,a,b,l1,l2,l,f,lim,pl,i2,o2,()))=List.replicate 6 (decide (0<=lim)):=by kernel_rfl
  have hc:c∈cksT (t70 (t,im,fs,tb,me,gl,ex,st,el,co,da,lo,stk,bl,bad,o,a,b,l1,l2,l,f,lim,pl,i2,o2,())):=hc
  rw[e]at hc
  exact(List.eq_of_mem_replicate hc).trans h
end Go.Proofs.Vd
