import Derived.Test.YtjeanplhkkpdmaaGreatDoorVbI
import Derived.Test.YtjeanplhkkpdmaaGreatDoorProg
namespace Go.Proofs
open Go.Ab Go.Ab.Lf
set_option maxRecDepth 100000
noncomputable def Tryz.fD(k:Nat):Func:=match Tryz.prog.funcs[k]? with|some F=>F|none=>Tryz.f3
noncomputable def Tryz.okB(k:Nat):Bool:=match Tryz.prog.funcs[k]? with
 |some F=> !(F.name == "runtime.NumGoroutine")&&(F.body.isSome&&(Nat.ble F.ntmps 512&&(Lq Tryz.prog F.ntmps F.results.toList).isSome))
 |none=>false
noncomputable def Tryz.KE(k:Nat):Fb:=⟨(Tryz.fD k).ntmps,(Lq Tryz.prog (Tryz.fD k).ntmps (Tryz.fD k).results.toList).getD [],fun call n=>nN Tryz.prog (LH Tryz.prog call (Tryz.fD k).ntmps) call n (Tryz.fD k).ntmps (Je (Tryz.fD k))⟩
theorem Tryz.aqk{k:Nat}(h:Tryz.okB k=true):R1 Tryz.prog (LH Tryz.prog) k (Tryz.KE k):=by
 unfold Tryz.okB at h;cases hF:Tryz.prog.funcs[k]? with
 |none=>rw[hF]at h;cases h
 |some F=>
  rw[hF]at h;simp only[Bool.and_eq_true,Bool.not_eq_true']at h;obtain⟨h1,h2,h3,h4⟩:=h
  have e:Tryz.fD k=F:=by unfold Tryz.fD;rw[hF]
  unfold Tryz.KE;rw[e];refine ar7 hF (fun args w=>?_) h2 rfl h3 ?_ rfl
  ·have hb:F.body.isNone=false:=by
    cases hb:F.body with
    |none=>rw[hb]at h2;cases h2
    |some c=>rfl
   unfold callFunc
   have uR: ¬ F.name= "runtime.NumGoroutine" :=by simpa using h1
   have HI: ¬ F.body=none:=fun q=>by rw[q]at hb;cases hb
   simp[Sem.run_bind,run_program,Result.andThen,hF,uR,HI,Sem.run_pure]
  ·cases hr:Lq Tryz.prog F.ntmps F.results.toList with
   |none=>rw[hr]at h4;cases h4
   |some l=>rfl
noncomputable def Tryz.txF(k:Nat):Option Fb:=match Tryz.xs.get k with|some b=>some b.fb|none=>none
def KF{α:Type}(q:Nat→Bool)(a b:Nat):Tr α→Bool
 | .nil=>true
 | .node l v r=>(match v with|some _=>q b|none=>true)&&(KF q (2*a) (a+b) l&&KF q (2*a) (2*a+b) r)
theorem KF.all{α:Type}{q:Nat→Bool}: ∀ {t:Tr α} {a b:Nat},KF q a b t=true→VV (fun k _=>q k=true) a b t
 | .nil,_,_,_=>trivial
 | .node l v r,a,b,h=>by
   unfold KF at h;simp only[Bool.and_eq_true]at h;obtain⟨h1,h2,h3⟩:=h;refine⟨fun x e=>?_,KF.all h2,KF.all h3⟩;rw[e]at h1;exact h1
noncomputable def Tryz.b0:List Nat:=[3,5,6,7,8,9,10,11,12,13,15,17,21,22,23,24,25,26,27,28,29,30,31,32,33,35,37,39,41,42]
noncomputable def Tryz.b1:List Nat:=[44,48,50,51,52,53,54,55,56,57,58,59,60,61,62,63,64,65,66,67,68,69,70,71,72,73,74,75,76,77]
noncomputable def Tryz.b2:List Nat:=[78,79,80,81,82,83,84,85,86,87,88,89,90,91,92,93,94,95,96,97,98,99,100,101,102,103,104,106,107,108]
noncomputable def Tryz.b3:List Nat:=[109,110,111,112,113,114,115,116,117,118,119,120,121,122,123,124,125,126,127,128,129,130,131,132,133,134,135,136,137,138]
noncomputable def Tryz.b4:List Nat:=[139,140,141,142,143,144,145,146,149,150,152,156,157,158,159,160,161,162,163,164,165,166,167,168,169,170,171,172,173,174]
noncomputable def Tryz.b5:List Nat:=[176,177,184,185,186,187,188,189,190,191,192,193,194,195,196,197,200,201,202,203,204,205,206,207,208]
noncomputable def Tryz.inB(k:Nat):Bool:=Tryz.b0.contains k||Tryz.b1.contains k||Tryz.b2.contains k||Tryz.b3.contains k||Tryz.b4.contains k||Tryz.b5.contains k
theorem Tryz.aql:KF Tryz.inB 1 0 Tryz.xs=true:=by kernel_rfl
theorem Tryz.e0:Tryz.b0.map Tryz.txF=Tryz.b0.map fun k=>some (Tryz.KE k):=by kernel_rfl
theorem Tryz.c0:Tryz.b0.all Tryz.okB=true:=by kernel_rfl
theorem Tryz.e1:Tryz.b1.map Tryz.txF=Tryz.b1.map fun k=>some (Tryz.KE k):=by kernel_rfl
theorem Tryz.c1:Tryz.b1.all Tryz.okB=true:=by kernel_rfl
theorem Tryz.e2:Tryz.b2.map Tryz.txF=Tryz.b2.map fun k=>some (Tryz.KE k):=by kernel_rfl
theorem Tryz.c2:Tryz.b2.all Tryz.okB=true:=by kernel_rfl
theorem Tryz.e3:Tryz.b3.map Tryz.txF=Tryz.b3.map fun k=>some (Tryz.KE k):=by kernel_rfl
theorem Tryz.c3:Tryz.b3.all Tryz.okB=true:=by kernel_rfl
theorem Tryz.e4:Tryz.b4.map Tryz.txF=Tryz.b4.map fun k=>some (Tryz.KE k):=by kernel_rfl
theorem Tryz.c4:Tryz.b4.all Tryz.okB=true:=by kernel_rfl
theorem Tryz.e5:Tryz.b5.map Tryz.txF=Tryz.b5.map fun k=>some (Tryz.KE k):=by kernel_rfl
theorem Tryz.c5:Tryz.b5.all Tryz.okB=true:=by kernel_rfl
theorem Tryz.one{l:List Nat}{k:Nat}{b:Fb}(h:l.contains k=true)(e:l.map Tryz.txF=l.map fun k=>some (Tryz.KE k))(c:l.all Tryz.okB=true)(hb:Tryz.txF k=some b):R1 Tryz.prog (LH Tryz.prog) k b:=by
 have hk:=List.contains_iff_mem.1 h;have q:=(List.map_inj_left.1 e) k hk;rw[hb]at q;cases q;exact Tryz.aqk (List.all_eq_true.1 c k hk)
noncomputable def Tryz.gt(f:FuncId):Option Fb:=match Tryz.xs.get f with|some b=>some b.fb|none=>none
theorem Tryz.awG{f:FuncId}{b:Cv}(h:Tryz.xs.get f=some b):Tryz.gt f=some b.fb:=by unfold Tryz.gt;rw[h]
theorem Tryz.gts(f:FuncId)(b:Fb)(h:Tryz.gt f=some b):R1 Tryz.prog (LH Tryz.prog) f b:=by
 have h':Tryz.txF f=some b:=h;unfold Tryz.gt at h;cases hx:Tryz.xs.get f with
 |none=>rw[hx]at h;cases h
 |some x=>
  have hi:Tryz.inB f=true:=by simpa using (KF.all Tryz.aql).get f x hx
  unfold Tryz.inB at hi;simp only[Bool.or_eq_true]at hi
  rcases hi with((((h|h)|h)|h)|h)|h
  ·exact Tryz.one h Tryz.e0 Tryz.c0 h'
  ·exact Tryz.one h Tryz.e1 Tryz.c1 h'
  ·exact Tryz.one h Tryz.e2 Tryz.c2 h'
  ·exact Tryz.one h Tryz.e3 Tryz.c3 h'
  ·exact Tryz.one h Tryz.e4 Tryz.c4 h'
  ·exact Tryz.one h Tryz.e5 Tryz.c5 h'
theorem Tryz.mixed:Tryz.prog.follows .mixedOrders=true:=by kernel_rfl
end Go.Proofs
