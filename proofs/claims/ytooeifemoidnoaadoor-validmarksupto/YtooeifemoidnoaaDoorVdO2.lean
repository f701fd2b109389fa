import Derived.Test.YtooeifemoidnoaaDoorVdO1
import Derived.Test.YtooeifemoidnoaaDoorVdU2
noncomputable section
namespace Go.Proofs.Vd
open Go.Ab Go.Ab.Lf Go.RowKit
set_option maxRecDepth 100000
abbrev tMod:Ty:=.pair (.sli tSig) (.pair (.sli tImp) (.pair (.sli i64) (.pair (.sli tLim) (.pair (.sli tLim) (.pair (.sli tGlo) (.pair (.sli tExp) (.pair i64 (.pair (.sli tEle) (.pair (.sli tCod) (.sli tDat))))))))))
def yOf(X:den tMod):denT tM:=(X.1,X.2.1,X.2.2.1,X.2.2.2.1,X.2.2.2.2.1,X.2.2.2.2.2.1,X.2.2.2.2.2.2.1,X.2.2.2.2.2.2.2.1,X.2.2.2.2.2.2.2.2.1,X.2.2.2.2.2.2.2.2.2.1,X.2.2.2.2.2.2.2.2.2.2,())
abbrev sumT(t:Ty)(l:List (den t)):Nat:=List.foldr (fun e n=>cntT t e+n) 0 l
theorem sumT_mem{t:Ty}{l:List (den t)}{x:den t}(h:x∈l):cntT t x<=sumT t l:=by
 induction l with
 |nil=>cases h
 |cons a l ih=>
  show _<=cntT t a+sumT t l
  rcases List.mem_cons.1 h with e|e
  ·subst e;omega
  ·have:=ih e;omega
theorem cnt_pos: ∀ (t:Ty) (x:den t),1<=cntT t x
 | .int _,_=>Nat.le_refl _
 | .bool,_=>Nat.le_refl _
 | .str,_=>Nat.le_add_left _ _
 | .sli _,_=>Nat.le_add_right _ _
 | .pair a b,x=>by show 1<=cntT a x.1+cntT b x.2;have:=cnt_pos a x.1;omega
theorem sumT_len{t:Ty}(l:List (den t)):l.length<=sumT t l:=by
 induction l with
 |nil=>exact Nat.zero_le _
 |cons a l ih=>
  show l.length+1<=cntT t a+sumT t l
  have:=cnt_pos t a
  omega
theorem allB_of{α:Type}{p:α->Bool}{l:List α}(h: ∀ x,x∈l->p x=true):allB p l=true:=by
 induction l with
 |nil=>rfl
 |cons a l ih=>
  show(bif p a then allB p l else false)=true
  rw[h a List.mem_cons_self,cond_true]
  exact ih fun x hx=>h x (List.mem_cons_of_mem _ hx)
theorem wtL_le{t:Ty}{wt:den t->Nat}(h: ∀ x,wt x<=64*cntT t x)(l:List (den t)):wtL wt l<=64*sumT t l:=by
 induction l with
 |nil=>exact Nat.zero_le _
 |cons a l ih=>
  show wt a+wtL wt l<=64*(cntT t a+sumT t l)
  have:=h a
  omega
theorem mWt_le(c:List (den tI)):mWt c<=64*sumT tI c:=by
 induction c with
 |nil=>exact Nat.zero_le _
 |cons x c ih=>
  rw[mWt_cons]
  show _<=64*(cntT tI x+sumT tI c)
  have e:cntT tI x=1+(1+(1+(1+(1+(1+sumT i64 x.2.2.2.2.2))))):=rfl
  have:=sumT_len (t:=i64) x.2.2.2.2.2
  omega
theorem okC_of{c:List (den tI)}(h: ∀ x,x∈c->Bd tI x)(hn:sumT tI c<=1048576):okC c=true:=by
 unfold okC
 rw[Bool.and_eq_true]
 refine⟨allB_of fun x hx=>?_,decide_eq_true (by have:=mWt_le c;omega)⟩
 have hb:=h x hx
 have e:cntT tI x=1+(1+(1+(1+(1+(1+sumT i64 x.2.2.2.2.2))))):=rfl
 have h1:=sumT_mem hx
 have h2:=sumT_len (t:=i64) x.2.2.2.2.2
 have hw:(Lit.int .i64 x.2.1).wf=true:=hb.2.1
 have hw:=bounds_i64 hw
 have key: ∀ (a:Int) (n:Nat),-9223372036854775808<=a->a<=9223372036854775807->n<=1048576->((decide (-9223372036854775808<=a)&&decide (a<9223372036854775808))&&decide (10*n+100<=1099511627776))=true:=fun a n k1 k2 k3=>by
  rw[decide_eq_true k1,decide_eq_true (by omega),decide_eq_true (by omega)]
  rfl
 exact key _ _ hw.1 hw.2 (Nat.le_trans h2 (by omega))
theorem gSt_of{s:ByteArray}(h:s.size<=1048576):gSt s=true:=by
 unfold gSt
 rw[decide_eq_true (by omega)]
 rfl
theorem okE_of{X:den tMod}(V:ByteArray->Bool)(hb:Bd tMod X)(hn:cntT tMod X<=1048576):okE V (yOf X)=true/\gNx (yOf X).2.2.2.2.2.2.1=true/\(yOf X).2.2.2.2.2.2.2.2.2.1.length<=1048576:=by
 obtain⟨t,im,fs,tb,me,gl,ex,st,el,co,da⟩:=X
 obtain⟨b1,b2,b3,b4,b5,b6,b7,b8,b9,b10,b11⟩:=hb
 have hn:(1+sumT tSig t)+((1+sumT tImp im)+((1+sumT i64 fs)+((1+sumT tLim tb)+((1+sumT tLim me)+((1+sumT tGlo gl)+((1+sumT tExp ex)+(1+((1+sumT tEle el)+((1+sumT tCod co)+(1+sumT tDat da))))))))))<=1048576:=hn
 have s1: ∀ x:ByteArray,cntT .str x=x.size+1:=fun _=>rfl
 refine⟨?_,?_,?_⟩
 ·unfold okE
  rw[Bool.and_eq_true]
  constructor
  ·unfold okM
   simp only[Bool.and_eq_true]
   refine⟨allB_of fun _ _=>rfl,allB_of fun x hx=>?_,allB_of fun _ _=>rfl,allB_of fun _ _=>rfl,allB_of fun _ _=>rfl,allB_of fun x hx=>?_,allB_of fun x hx=>?_,allB_of fun x hx=>?_,allB_of fun x hx=>?_,allB_of fun x hx=>?_⟩
   ·have:cntT tImp x<=sumT tImp im:=sumT_mem hx
    have e:cntT tImp x=(x.1.size+1)+((x.2.1.size+1)+1):=rfl
    show(gSt x.1&&gSt x.2.1)=true
    rw[gSt_of (by omega),gSt_of (by omega)]
    rfl
   ·have:cntT tGlo x<=sumT tGlo gl:=sumT_mem hx
    have e:cntT tGlo x=1+(1+(1+sumT tI x.2.2)):=rfl
    exact okC_of (b6.2 x hx).2.2.2 (by omega)
   ·have:cntT tExp x<=sumT tExp ex:=sumT_mem hx
    have e:cntT tExp x=(x.1.size+1)+(1+1):=rfl
    exact gSt_of (by omega)
   ·have:cntT tEle x<=sumT tEle el:=sumT_mem hx
    have e:cntT tEle x=(1+sumT tI x.1)+(1+sumT i64 x.2):=rfl
    exact okC_of (b9.2 x hx).1.2 (by omega)
   ·have:cntT tCod x<=sumT tCod co:=sumT_mem hx
    have e:cntT tCod x=(1+sumT i64 x.1)+(1+sumT tI x.2):=rfl
    exact okC_of (b10.2 x hx).2.2 (by omega)
   ·have:cntT tDat x<=sumT tDat da:=sumT_mem hx
    have e:cntT tDat x=(1+sumT tI x.1)+(1+sumT u8 x.2):=rfl
    exact okC_of (b11.2 x hx).1.2 (by omega)
  ·refine decide_eq_true ?_
   have c1:=wtL_le (t:=tSig) (wt:=A30.wt) (fun x=>by
    have e:cntT tSig x=(1+sumT i64 x.1)+(1+sumT i64 x.2):=rfl
    have h1:=sumT_len (t:=i64) x.1
    have h2:=sumT_len (t:=i64) x.2
    show 0+(1+(10+(x.1.length+(10+x.2.length))))<=_
    omega) t
   have c2:=wtL_le (t:=tImp) (wt:=(A35 V).wt) (fun x=>by
    have e:cntT tImp x=(x.1.size+1)+((x.2.1.size+1)+1):=rfl
    show(10+x.1.size)+((10+x.2.1.size)+(1+10))<=_
    omega) im
   have c3:=wtL_le (t:=i64) (wt:=A38.wt) (fun x=>by show 10<=64*1;omega) fs
   have c4:=wtL_le (t:=tLim) (wt:=A40.wt) (fun x=>by show 22<=64*(1+1);omega) tb
   have c5:=wtL_le (t:=tLim) (wt:=A42.wt) (fun x=>by show 21<=64*(1+1);omega) me
   have c6:=wtL_le (t:=tGlo) (wt:=A44.wt) (fun x=>by
    have e:cntT tGlo x=1+(1+(1+sumT tI x.2.2)):=rfl
    have:=mWt_le x.2.2
    show 1+(1+mWt x.2.2)<=_
    omega) gl
   have c7:=wtL_le (t:=tExp) (wt:=(A46 V).wt) (fun x=>by
    have e:cntT tExp x=(x.1.size+1)+(1+1):=rfl
    show 0+((10+x.1.size)+(1+10))<=_
    omega) ex
   have c9:=wtL_le (t:=tEle) (wt:=A49.wt) (fun x=>by
    have e:cntT tEle x=(1+sumT tI x.1)+(1+sumT i64 x.2):=rfl
    have:=mWt_le x.1
    have h2:=sumT_len (t:=i64) x.2
    show 0+(1+(mWt x.1+(10+10*x.2.length)))<=_
    omega) el
   have c10:=wtL_le (t:=tCod) (wt:=A52.wt) (fun x=>by
    have e:cntT tCod x=(1+sumT i64 x.1)+(1+sumT tI x.2):=rfl
    have:=mWt_le x.2
    have h2:=sumT_len (t:=i64) x.1
    show 20+11*x.1.length+mWt x.2<=_
    omega) co
   have c11:=wtL_le (t:=tDat) (wt:=A54.wt) (fun x=>by
    have e:cntT tDat x=(1+sumT tI x.1)+(1+sumT u8 x.2):=rfl
    have:=mWt_le x.1
    have h2:=sumT_len (t:=u8) x.2
    show 1+(mWt x.1+(10+x.2.length))<=_
    omega) da
   have eb:wt18b (yOf (t,im,fs,tb,me,gl,ex,st,el,co,da))=(21+wtL A49.wt el)+((21+wtL A52.wt co)+(21+wtL A54.wt da)):=rfl
   unfold wt18
   rw[eb]
   show 8+(0+((21+wtL A30.wt t)+((21+wtL (A35 V).wt im)+((21+wtL A38.wt fs)+((21+wtL A40.wt tb)+((21+wtL A42.wt me)+((21+wtL A44.wt gl)+((21+wtL (A46 V).wt ex)+_))))))))<=_
   omega
 ·show gNx ex=true
  unfold gNx
  rw[Bool.and_eq_true]
  have:=sumT_len (t:=tExp) ex
  refine⟨decide_eq_true (by omega),allB_of fun x hx=>decide_eq_true ?_⟩
  have:cntT tExp x<=sumT tExp ex:=sumT_mem hx
  have e:cntT tExp x=(x.1.size+1)+(1+1):=rfl
  omega
 ·have:=sumT_len (t:=tCod) co
  show co.length<=_
  omega
end Go.Proofs.Vd
