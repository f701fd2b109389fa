import Derived.Test.YtooeifemoidnoaaDoorVdM0
import Derived.Test.YtooeifemoidnoaaDoorVdM1
import Derived.Test.YtooeifemoidnoaaDoorVdM2
import Derived.Test.YtooeifemoidnoaaDoorVdP1
import Derived.Test.YtooeifemoidnoaaDoorVdN4
noncomputable section
namespace Go.Ab
open Go.Ab.Lf
instance ioV:Io:=⟨fun _=>0,[(0,(List.range 256).map fun c=>Value.int .u8 (Lib.firstT c)),(1,(List.range 32).map fun c=>Value.int .u8 (if c % 2=0 then Lib.accLo (c / 2)else Lib.accHi (c / 2)))]⟩
theorem tabs_of{g:G}{w:World}(h: @TbOk ioV g w):Lib.Utf8Tabs 0 1 w:=by
 have h0:=(h _ (List.mem_cons_self)).2
 have h1:=(h _ (List.mem_cons_of_mem _ List.mem_cons_self)).2
 refine⟨fun c hc=>?_,fun i hi=>⟨?_,?_⟩⟩
 ·have:=h0 c (Value.int .u8 (Lib.firstT c)) (by rw[List.getElem?_map,List.getElem?_range hc];rfl)
  simpa using this
 ·have:=h1 (2*i) (Value.int .u8 (Lib.accLo i)) (by
   rw[List.getElem?_map,List.getElem?_range (by omega)]
   simp)
  simpa using this
 ·have:=h1 (2*i+1) (Value.int .u8 (Lib.accHi i)) (by
   rw[List.getElem?_map,List.getElem?_range (by omega)]
   have e1:(2*i+1) % 2=1:=by omega
   have e2:(2*i+1) / 2=i:=by omega
   simp[e1,e2])
  simpa using this
end Go.Ab
namespace Go.Proofs.Vd
open Go.Ab Go.Ab.Lf Go.RowKit
set_option maxRecDepth 100000
abbrev vU(s:ByteArray):Bool:=Lib.validD s.data.toList
theorem keep_below{w w':Go.World}(B:Below w.heap.size w w'):Keep w w':=⟨B.os,B.tape,B.output,B.size,B.block⟩
theorem kn66(s:ByteArray)(hs:s.size<=9223372036854775807): @KnownF ioV Tryd.prog 66 [.sc (.string s)] (.bool (vU s)):=by
 refine⟨Tryd.call66,fun g w vs hi ht hv=>?_⟩
 simp only[VRs]at hv
 obtain⟨v,l,rfl,hv,rfl⟩:=hv
 simp only[VR]at hv
 obtain⟨rfl,_⟩:=hv
 refine(Any.utf8_ValidString Tryd.lays66 s w hs (tabs_of ht)).mono ?_
 rintro e w' ⟨rfl,B⟩
 refine⟨_,rfl,keep_below B,?_⟩
 simp only[VR]
def tb66:List AV->Option AV
 | [.sc (.string s)]=>bif decide (s.size<=9223372036854775807)then some (.bool (vU s))else none
 | _=>none
theorem tb66_ok{az:List AV}{v:AV}(h:tb66 az=some v): @KnownF ioV Tryd.prog 66 az v:=by
 unfold tb66 at h
 split at h
 ·rename_i s
  by_cases hs:s.size<=9223372036854775807
  ·rw[decide_eq_true hs]at h
   cases h
   exact kn66 s hs
  ·rw[decide_eq_false hs]at h
   cases h
 ·cases h
theorem rB_step(b:Bool)(f:FuncId):StepOk (fun _ _ _ _ h=>.ok (.bool b) h) f (rC (.bool b)):=by
 intro n d az h c h' e
 have e:(ifb (Nat.ble (len az) 8) (.ok (.bool b) h) .bad:Go.Ab.Ro)=.ok c h':=e
 cases hb:Nat.ble (len az) 8 with
 |true=>rw[hb]at e;exact e
 |false=>rw[hb]at e;cases e
def tcS(b:Bool):Fsp:=mkF (Ps [.st]) [] (Ps [.bo]) [.str] [.bool] fun _=>.ok (b,())
theorem tcS_ok(b:Bool):(tcS b).Ok 66 (fun _ _ _ _ h=>.ok (.bool b) h):=by
 refine mkF_ok (bad_sim _) (rB_step b 66) rfl (okL_none _) (m:=3) rfl ?_
 rintro⟨x,⟨⟩⟩ q h
 cases h
 kernel_rfl
def tcN(b:Bool):Fsp:=mkF (Ps [pM,.n .i64]) [] (Ps [.bo]) tMN [.bool] fun _=>.ok (b,())
theorem tcN_ok(b:Bool):(tcN b).Ok 57 (fun _ _ _ _ h=>.ok (.bool b) h):=by
 refine mkF_ok (bad_sim _) (rB_step b 57) rfl (okL_none _) (m:=3) rfl ?_
 rintro⟨t,im,fs,tb,me,gl,ex,st,el,co,da,k,⟨⟩⟩ q h
 cases h
 kernel_rfl
theorem s66_calT{tbl:TbT}(ht: ∀ az,tbl 66 az=tb66 az):(s66 vU).Ok 66 (Tryd.calT tbl):=by
 intro pl q args H0 E0 h az e hP hv hS
 obtain⟨⟨x,⟨⟩⟩,y,rfl,h1,rfl⟩:=mkF_pl e
 obtain⟨h2,h3⟩:=Lf.T.ck_some h1
 cases h3
 have hs:decide (ByteArray.size x<=9223372036854775807)=true:=by
  unfold gSt at h2
  rw[Bool.and_eq_true]at h2
  exact h2.1
 have hP2:some (([.c 0 .str x]:List Sv),([]:List Pl),Lf.e1)=some (args,[],H0):=hP
 cases hP2
 have ha:az=[.sc (.string x)]:=by
  cases hv with
  |cons ha hr=>
   cases hr
   cases ha with
   |c k _=>
    exact k
 subst ha
 have hx:(tcS (vU x)).f (ofT [.str] (x,()))=(.ok (ofT [.bool] (vU x,())):Lf.T (List Pl)):=rfl
 obtain⟨c,h',E1,ws,H1,⟨M,hM⟩,r⟩:=tcS_ok (vU x) _ (ofT [.bool] (vU x,())) _ _ E0 h _ (by rw[hx];rfl) hP hv hS
 have hM:=hM M M (Nat.le_refl _) (Nat.le_refl _)
 cases hM
 refine⟨.bool (vU x),h,E1,ws,H1,⟨0,fun n d _ _=>Tryd.calT_tbl rfl (az':=[.sc (.string x)]) rfl ?_ n d⟩,r⟩
 rw[ht]
 show(bif decide (ByteArray.size x<=9223372036854775807)then some (AV.bool (vU x))else none)=_
 rw[hs]
 rfl
def tbA:TbT:=fun f az=>bif Nat.beq f 66 then tb66 az else none
abbrev calA:CallN:=Tryd.calT tbA
theorem tbA_ok: ∀ f args v,tbA f args=some v-> @KnownF ioV Tryd.prog f args v:=by
 intro f args v h
 unfold tbA at h
 cases hf:Nat.beq f 66 with
 |true=>rw[hf]at h;obtain rfl:=Nat.eq_of_beq_eq_true hf;exact tb66_ok h
 |false=>rw[hf]at h;cases h
theorem worldA:WorldC vU calA:=⟨⟨world_cal,s66_calT fun _=>rfl⟩,s63_cal⟩
end Go.Proofs.Vd
