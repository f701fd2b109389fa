import Derived.Test.YtooeifemoidnoaaDoorVdM4
import Derived.Test.YtooeifemoidnoaaDoorVdK4
import Derived.Test.YtooeifemoidnoaaDoorVdO2
noncomputable section
variable {cal:Go.Ab.Lf.CallN}
namespace Go.Proofs.Vd
open Go.Ab Go.Ab.Lf Go.RowKit
set_option maxRecDepth 100000
theorem lawM_at{fn:Nat}{g:denT tMN->Lf.T (denT [.bool])}(ok:(mkF (Ps [pM,.n .i64]) [] (Ps [.bo]) tMN [.bool] g).Ok fn cal){y:denT tMN}{az:List AV}(hg:(g y).val=some (true,()))(hm:MAt y az): ∃ n,isT (cal n n fn az (nilH 0))=true:=by
 obtain⟨a1,a2,a3,a4,a5,a6,a7,a9,a10,a11,rfl,ht,him,hfs,htb,hme,hgl,hex,hel,hco,hda⟩:=hm
 obtain⟨t,im,fs,tb,me,gl,ex,st,el,co,da,k,⟨⟩⟩:=y
 obtain⟨E0,hE⟩: ∃ E0:En,E0=⟨fun _=>⟨.any,0⟩,fun r=>[a1,a2,a3,a4,a5,a6,a7,a9,a10,a11].getD (r - 1) .any,N0,fun _=>.any⟩:=⟨_,rfl⟩
 have e:= @mkF_of (Ps [pM,.n .i64]) [] (Ps [.bo]) tMN [.bool] g _ _ hg
 have hP:fillP (Ps [pM,.n .i64]) (ofT tMN (t,im,fs,tb,me,gl,ex,st,el,co,da,k,())) Lf.e1=some ([.ag [.c 1 (.sli tSig) t,.c 2 (.sli tImp) im,.c 3 (.sli i64) fs,.c 4 (.sli tLim) tb,.c 5 (.sli tLim) me,.c 6 (.sli tGlo) gl,.c 7 (.sli tExp) ex,.c 0 i64 st,.c 8 (.sli tEle) el,.c 9 (.sli tCod) co,.c 10 (.sli tDat) da],.c 0 i64 k],[],⟨11,.nil⟩):=rfl
 have hS:SR E0 (tagAll ⟨11,.nil⟩) (nilH 0):=by
  have et:tagAll ⟨11,.nil⟩=(⟨11,.nil⟩:Hq):=rfl
  rw[et]
  have no: ∀ r R,¬ (Tr.nil:Tr Lf.Row).get r=some R:=fun r R h=>by
   have h:(none:Option Lf.Row)=some R:=h
   cases h
  refine⟨?_,?_,?_,?_⟩
  ·intro r R h;exact(no r R h).elim
  ·rintro r r' id ⟨R,h,_⟩;exact(no r R h).elim
  ·rintro r id ⟨R,h,_⟩;exact(no r R h).elim
  ·intro id row h
   subst hE
   cases h
 have hv:Vs E0 11 [.ag [.c 1 (.sli tSig) t,.c 2 (.sli tImp) im,.c 3 (.sli i64) fs,.c 4 (.sli tLim) tb,.c 5 (.sli tLim) me,.c 6 (.sli tGlo) gl,.c 7 (.sli tExp) ex,.c 0 i64 st,.c 8 (.sli tEle) el,.c 9 (.sli tCod) co,.c 10 (.sli tDat) da],.c 0 i64 k] [.agg [a1,a2,a3,a4,a5,a6,a7,.int .i64 st,a9,a10,a11],.int .i64 k]:=by
  subst hE
  exact .cons (.ag (.cons (.c ht fun _=>⟨by decide,rfl⟩) (.cons (.c him fun _=>⟨by decide,rfl⟩) (.cons (.c hfs fun _=>⟨by decide,rfl⟩) (.cons (.c htb fun _=>⟨by decide,rfl⟩) (.cons (.c hme fun _=>⟨by decide,rfl⟩) (.cons (.c hgl fun _=>⟨by decide,rfl⟩) (.cons (.c hex fun _=>⟨by decide,rfl⟩) (.cons (.c rfl fun k=>(k rfl).elim) (.cons (.c hel fun _=>⟨by decide,rfl⟩) (.cons (.c hco fun _=>⟨by decide,rfl⟩) (.cons (.c hda fun _=>⟨by decide,rfl⟩) .nil)))))))))))) (.cons (.c rfl fun k=>(k rfl).elim) .nil)
 obtain⟨c,h',E1,ws,H1,⟨M,hM⟩,_,_,hQ,hV⟩:=ok _ _ _ _ E0 (nilH 0) _ e hP hv hS
 have hM:cal M M fn [.agg [a1,a2,a3,a4,a5,a6,a7,.int .i64 st,a9,a10,a11],.int .i64 k] (nilH 0)=.ok c h':=hM M M (Nat.le_refl _) (Nat.le_refl _)
 have hQ:some (([.c 0 .bool true]:List Sv),([]:List Pl),Lf.e1)=some (ws,[],H1):=hQ
 cases hQ
 cases hV with
 |cons k _=>
  cases k with
  |c k _=>
   have k:[c]=[.bool true]:=k
   injection k with k
   subst k
   exact⟨M,by rw[hM];rfl⟩
theorem law3_at{y:denT tM}(hE:okE vU y=true)(hx:gNx y.2.2.2.2.2.2.1=true)(hn:y.2.2.2.2.2.2.2.2.2.1.length<=1048576)(f:Int){az:List AV}(hm:MAt (yTN y f) az): ∃ n,isT (calB n n 3 az (nilH 0))=true:=by
 have s:=sem_of (law3 hE hx hn f)
 refine lawM_at (s3_ok worldB) (y:=yTN y f) ?_ hm
 show(bif kq3 vU (yTN y f)then some (m3 vU (yTN y f))else none)=some (true,())
 rw[show kq3 vU (yTN y f)=true from s.1,show m3 vU (yTN y f)=_ from s.2]
 rfl
theorem mat_of{X:den tMod}{cs:List AV}(f:Int)(h:EV N0 tMod X cs):MAt (yTN (yOf X) f) [.agg cs,.int .i64 f]:=by
 obtain⟨t,im,fs,tb,me,gl,ex,st,el,co,da⟩:=X
 obtain⟨_,c1,rfl,⟨a1,rfl,h1⟩,_,c2,rfl,⟨a2,rfl,h2⟩,_,c3,rfl,⟨a3,rfl,h3⟩,_,c4,rfl,⟨a4,rfl,h4⟩,_,c5,rfl,⟨a5,rfl,h5⟩,_,c6,rfl,⟨a6,rfl,h6⟩,_,c7,rfl,⟨a7,rfl,h7⟩,_,c8,rfl,h8,_,c9,rfl,⟨a9,rfl,h9⟩,_,c10,rfl,⟨a10,rfl,h10⟩,⟨a11,rfl,h11⟩⟩:=h
 have h8:_=[AV.int .i64 st]:=h8
 subst h8
 exact⟨a1,a2,a3,a4,a5,a6,a7,a9,a10,a11,rfl,⟨_,rfl,h1⟩,⟨_,rfl,h2⟩,⟨_,rfl,h3⟩,⟨_,rfl,h4⟩,⟨_,rfl,h5⟩,⟨_,rfl,h6⟩,⟨_,rfl,h7⟩,⟨_,rfl,h9⟩,⟨_,rfl,h10⟩,⟨_,rfl,h11⟩⟩
end Go.Proofs.Vd
