import Derived.Test.YtcnkojgmochcgaaGreatDoorVbQ
import Derived.Test.YtcnkojgmochcgaaGreatDoorAb24
import Derived.Test.YtcnkojgmochcgaaGreatDoorProg
namespace Go.Proofs
open Go.Ab Go.Ab.Lf
set_option maxRecDepth 100000
noncomputable def Tryz.fD(k:Nat):Func:=match Tryz.prog.funcs[k]? with|some F=>F|none=>Tryz.f8
noncomputable def Tryz.okB(k:Nat):Bool:=match Tryz.prog.funcs[k]? with
 |some F=> !(F.name == "runtime.NumGoroutine")&&(F.body.isSome&&(Nat.ble F.ntmps 512&&(Hh Tryz.prog F.ntmps F.results.toList).isSome))
 |none=>false
noncomputable def Tryz.z6(k:Nat):Fb:=⟨(Tryz.fD k).ntmps,(Hh Tryz.prog (Tryz.fD k).ntmps (Tryz.fD k).results.toList).getD [],fun call n=>pg Tryz.prog (Hz Tryz.prog call (Tryz.fD k).ntmps) call n (Tryz.fD k).ntmps (Fw (Tryz.fD k))⟩
theorem Tryz.afb{k:Nat}(h:Tryz.okB k=true):Pu Tryz.prog (Hz Tryz.prog) k (Tryz.z6 k):=by
 unfold Tryz.okB at h
 cases hF:Tryz.prog.funcs[k]? with
 |none=>rw[hF]at h;cases h
 |some F=>
  rw[hF]at h
  simp only[Bool.and_eq_true,Bool.not_eq_true']at h
  obtain⟨h1,h2,h3,h4⟩:=h
  have e:Tryz.fD k=F:=by unfold Tryz.fD;rw[hF]
  unfold Tryz.z6
  rw[e]
  refine aiB hF (fun args w=>?_) h2 rfl h3 ?_ rfl
  ·have hb:F.body.isNone=false:=by
    cases hb:F.body with
    |none=>rw[hb]at h2;cases h2
    |some c=>rfl
   unfold callFunc
   have vp: ¬ F.name= "runtime.NumGoroutine" :=by simpa using h1
   have D4: ¬ F.body=none:=fun q=>by rw[q]at hb;cases hb
   simp[Sem.run_bind,run_program,Result.andThen,hF,vp,D4,Sem.run_pure]
  ·cases hr:Hh Tryz.prog F.ntmps F.results.toList with
   |none=>rw[hr]at h4;cases h4
   |some l=>rfl
noncomputable def Tryz.P'(k:Nat):Option Fb:=match Tryz.xs.get k with|some b=>some b.fb|none=>none
def FY{α:Type}(q:Nat→Bool)(a b:Nat):Tr α→Bool
 | .nil=>true
 | .node l v r=>(match v with|some _=>q b|none=>true)&&(FY q (2*a) (a+b) l&&FY q (2*a) (2*a+b) r)
theorem FY.all{α:Type}{q:Nat→Bool}: ∀ {t:Tr α} {a b:Nat},FY q a b t=true→SO (fun k _=>q k=true) a b t
 | .nil,_,_,_=>trivial
 | .node l v r,a,b,h=>by
   unfold FY at h
   simp only[Bool.and_eq_true]at h
   obtain⟨h1,h2,h3⟩:=h
   refine⟨fun x e=>?_,FY.all h2,FY.all h3⟩
   rw[e]at h1
   exact h1
noncomputable def Tryz.b0:List Nat:=[8,11,12,13,18,20,22,23,25,26,27,31,34,36,37,38,39,40,45,46,47,48,49,50,51,52,53,54,55,56]
noncomputable def Tryz.b1:List Nat:=[57,58,59,60,61,62,67,68,69,70,71,72,73,74,76,77,78,79,80,83,84,87,88,89,90,91,92,93,94,95]
noncomputable def Tryz.b2:List Nat:=[96,104,109,110,111,112,113,114,115,116,117,118,119,120,121,122,123,124,125,126,130,131,132,133,134,137,138,139,140,141]
noncomputable def Tryz.b3:List Nat:=[142,143,144,145,146,147,148,149,150,151,152,153,154,155,156,157,158,159,160,161,162,163,164,165,166,167,169,170,172,178]
noncomputable def Tryz.b4:List Nat:=[179,185,186,187,188,189,190,191,192,193,194,195,196,197,198,199,200,201,202,203,204,205,206,207,208,209,210,211,212,213]
noncomputable def Tryz.b5:List Nat:=[214,215,216,217,218,219,220,221,222,223,229,230,231,232,233,234,235,236,237,238,239,240,241,242,243,244,245,246,247,248]
noncomputable def Tryz.b6:List Nat:=[249,250,251,252,253,254,255,256,257,258,259,260,261,262,263,264,265,266,267,270,271,272,273,274,275,276,277,278,279,280]
noncomputable def Tryz.b7:List Nat:=[281,282,283,301,302,303,304,305,306,307,308,309,310,311,312,313,314,315,316,317,318,319,320,321,322,323,324,325,326,352]
noncomputable def Tryz.b8:List Nat:=[353,354,355,356,357,358,359,360,361,362,363,364,365,366,367,385,386,387,388,389,390,391,392,393,394,395,400,401,402,403]
noncomputable def Tryz.b9:List Nat:=[404]
noncomputable def Tryz.inB(k:Nat):Bool:=Tryz.b0.contains k||Tryz.b1.contains k||Tryz.b2.contains k||Tryz.b3.contains k||Tryz.b4.contains k||Tryz.b5.contains k||Tryz.b6.contains k||Tryz.b7.contains k||Tryz.b8.contains k||Tryz.b9.contains k
theorem Tryz.afc:FY Tryz.inB 1 0 Tryz.xs=true:=by kernel_rfl
theorem Tryz.e0:Tryz.b0.map Tryz.P'=Tryz.b0.map fun k=>some (Tryz.z6 k):=by kernel_rfl
theorem Tryz.c0:Tryz.b0.all Tryz.okB=true:=by kernel_rfl
theorem Tryz.e1:Tryz.b1.map Tryz.P'=Tryz.b1.map fun k=>some (Tryz.z6 k):=by kernel_rfl
theorem Tryz.c1:Tryz.b1.all Tryz.okB=true:=by kernel_rfl
theorem Tryz.e2:Tryz.b2.map Tryz.P'=Tryz.b2.map fun k=>some (Tryz.z6 k):=by kernel_rfl
theorem Tryz.c2:Tryz.b2.all Tryz.okB=true:=by kernel_rfl
theorem Tryz.e3:Tryz.b3.map Tryz.P'=Tryz.b3.map fun k=>some (Tryz.z6 k):=by kernel_rfl
theorem Tryz.c3:Tryz.b3.all Tryz.okB=true:=by kernel_rfl
theorem Tryz.e4:Tryz.b4.map Tryz.P'=Tryz.b4.map fun k=>some (Tryz.z6 k):=by kernel_rfl
theorem Tryz.c4:Tryz.b4.all Tryz.okB=true:=by kernel_rfl
theorem Tryz.e5:Tryz.b5.map Tryz.P'=Tryz.b5.map fun k=>some (Tryz.z6 k):=by kernel_rfl
theorem Tryz.c5:Tryz.b5.all Tryz.okB=true:=by kernel_rfl
theorem Tryz.e6:Tryz.b6.map Tryz.P'=Tryz.b6.map fun k=>some (Tryz.z6 k):=by kernel_rfl
theorem Tryz.c6:Tryz.b6.all Tryz.okB=true:=by kernel_rfl
theorem Tryz.e7:Tryz.b7.map Tryz.P'=Tryz.b7.map fun k=>some (Tryz.z6 k):=by kernel_rfl
theorem Tryz.c7:Tryz.b7.all Tryz.okB=true:=by kernel_rfl
theorem Tryz.e8:Tryz.b8.map Tryz.P'=Tryz.b8.map fun k=>some (Tryz.z6 k):=by kernel_rfl
theorem Tryz.c8:Tryz.b8.all Tryz.okB=true:=by kernel_rfl
theorem Tryz.e9:Tryz.b9.map Tryz.P'=Tryz.b9.map fun k=>some (Tryz.z6 k):=by kernel_rfl
theorem Tryz.c9:Tryz.b9.all Tryz.okB=true:=by kernel_rfl
theorem Tryz.one{l:List Nat}{k:Nat}{b:Fb}(h:l.contains k=true)(e:l.map Tryz.P'=l.map fun k=>some (Tryz.z6 k))(c:l.all Tryz.okB=true)(hb:Tryz.P' k=some b):Pu Tryz.prog (Hz Tryz.prog) k b:=by
 have hk:=List.contains_iff_mem.1 h
 have q:=(List.map_inj_left.1 e) k hk
 rw[hb]at q
 cases q
 exact Tryz.afb (List.all_eq_true.1 c k hk)
noncomputable def Tryz.gt(f:FuncId):Option Fb:=match Tryz.xs.get f with|some b=>some b.fb|none=>none
theorem Tryz.ajw{f:FuncId}{b:Dj}(h:Tryz.xs.get f=some b):Tryz.gt f=some b.fb:=by unfold Tryz.gt;rw[h]
theorem Tryz.gts(f:FuncId)(b:Fb)(h:Tryz.gt f=some b):Pu Tryz.prog (Hz Tryz.prog) f b:=by
 have h':Tryz.P' f=some b:=h
 unfold Tryz.gt at h
 cases hx:Tryz.xs.get f with
 |none=>rw[hx]at h;cases h
 |some x=>
  have hi:Tryz.inB f=true:=by simpa using (FY.all Tryz.afc).get f x hx
  unfold Tryz.inB at hi
  simp only[Bool.or_eq_true]at hi
  rcases hi with((((((((h|h)|h)|h)|h)|h)|h)|h)|h)|h
  ·exact Tryz.one h Tryz.e0 Tryz.c0 h'
  ·exact Tryz.one h Tryz.e1 Tryz.c1 h'
  ·exact Tryz.one h Tryz.e2 Tryz.c2 h'
  ·exact Tryz.one h Tryz.e3 Tryz.c3 h'
  ·exact Tryz.one h Tryz.e4 Tryz.c4 h'
  ·exact Tryz.one h Tryz.e5 Tryz.c5 h'
  ·exact Tryz.one h Tryz.e6 Tryz.c6 h'
  ·exact Tryz.one h Tryz.e7 Tryz.c7 h'
  ·exact Tryz.one h Tryz.e8 Tryz.c8 h'
  ·exact Tryz.one h Tryz.e9 Tryz.c9 h'
theorem Tryz.mixed:Tryz.prog.follows .mixedOrders=true:=by kernel_rfl
end Go.Proofs
