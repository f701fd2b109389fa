/-
  InterpVectors of every input is true, and turns nothing (the tied card). No condition beside the card's own.
-/
import Derived.Test.YtjeanplhkkpdmaaGreatDoorSYV
import Derived.Test.YtjeanplhkkpdmaaGreatDoorTxA
import Derived.Test.YtjeanplhkkpdmaaGreatDoorTxB
import Derived.Test.YtjeanplhkkpdmaaGreatDoorTxC
import Derived.ProofKit
import Derived.Carry
import Derived.Lay
namespace Go.Proofs.YtjeanplhkkpdmaaGreatDoor.InterpVectorsLaw
open Go.ChangeShapes Go.WideShapes Go.ChangeAt Go.RowKit Go.Joins Go.Deep
set_option maxRecDepth 1000000
set_option linter.unusedVariables false
theorem own0:ownKnob Tryz.prog.godebug=none:=by kernel_rfl
theorem laidOut:laidOutB Tryz.prog=true:=by kernel_rfl
theorem awN(H:Type):Vd.T4 (H:=H) Rows.uptoBulk Rows.uptoBulkAll where
 one d:=by cases d with
  |lit l=>cases l<;>simp[Rows.uptoBulk]
  | _=>simp[Rows.uptoBulk]
 nil:=by simp[Rows.uptoBulkAll]
 cons _ _:=by simp[Rows.uptoBulkAll]
 str _:=by simp[Rows.uptoBulk]
 cq _ _:=by simp only[Rows.uptoBulk];omega
 agg _:=by simp only[Rows.uptoBulk];omega
theorem otI:Vd.otB Tryz.prog 12 Vd.tI 25=true:=by kernel_rfl
theorem otV:Vd.otB Tryz.prog 12 Vv.Nr 26=true:=by kernel_rfl
theorem aCM:Tryz.prog.underlying 25=some (.struct (match Tryz.prog.underlying 25 with|some (.struct fs)=>fs| _=> #[])):=by kernel_rfl
theorem aCN:Tryz.prog.underlying 26=some (.array 5 (match Tryz.prog.underlying 26 with|some (.array _ e)=>e| _=>0)):=by kernel_rfl
set_option maxRecDepth 100000 in
theorem lifted(os:Os)(started:os.Started)(H:Type)(enc:TypeId×Value→H):
 ReturnsInHanded {} Tryz.checked os 3 .any (fun w args=>(Rows.interpVectorsSpec.pre enc Tryz.prog Tryz.f3 [] false w args∧laidMetH Tryz.prog Rows.interpVectorsRow.laid w)∧sizedMet enc Tryz.prog Tryz.f3 (OpenSpec.ofChange Rows.interpVectorsSpec) false w args)
  (Rows.interpVectorsSpec.post enc Tryz.prog Tryz.f3 false true false false):=by
 refine returnsInHanded_of_change_and (C:=Tryz.checked) (X:=fun w _=>laidMetH Tryz.prog Rows.interpVectorsRow.laid w) (fun _ _ _ hh h=>h.of_heap hh) own0 started (by kernel_rfl) Tryz.func3
  (ChangeSpec.witness_shaped (enc:=enc) (C:=Tryz.checked) (os:=os) (X:=fun w _=>laidMetH Tryz.prog Rows.interpVectorsRow.laid w) false (World.laidAll Tryz.prog os Rows.interpVectorsRow.laid) #[.agg #[.int .i64 0,.int .i64 0,.int .i64 0,.int .u64 0,.int .u64 0,.slice none 0 0],.agg #[.int .u64 0,.int .u64 0,.int .u64 0,.int .u64 0,.int .u64 0]] 8 (World.laidAll_os _ _ _)
    (World.shaped_of_ZipB (by kernel_rfl) (by kernel_rfl)) (by kernel_rfl) (by kernel_rfl) (by kernel_rfl)
    (by rw[MakeChecks.laidMetH_plain _ _ _ (by kernel_rfl)];exact laidMet_laidAll _ (by kernel_rfl) (by kernel_rfl))) ?_
 intro W base args ds gs before ajL hW _ _ hX _;have aqw: ∀ (j:Nat) t v,Tryz.f3.params[j]? =some t→args[j]? =some v→Value.okWide Tryz.prog W .any base t v:=ajL;have hW':=hW;obtain⟨p,q,hA0,hV,rfl,_,_⟩:=hW;have hA:DataW.TrodAll enc Tryz.prog W 0 (fun _=>true) true Tryz.f3.params.toList args.toList ds p:=hA0;rw[Tryz.params3]at hA aqw;obtain⟨v0,vs0,d0,ds0,p0,q0,vQ,rfl,rfl,h0,r0⟩:=trodAll_cons hA;obtain⟨v1,vs1,d1,ds1,p1,q1,rfl,rfl,rfl,h1,r1⟩:=trodAll_cons r0;obtain⟨rfl,rfl,rfl⟩:=trodAll_nil r1
 obtain rfl:args= #[v0,v1]:=by cases args;simp_all
 obtain⟨rfl,rfl⟩:=trodVars_none hV;have h0k:=h0;have h1k:=h1;have nM: ∀ x∈p0++p1,x.block<W.heap.size:=fun x hx=>by
  have:=hW'.lt x (by simpa using hx)
  simpa using this
 obtain⟨cs,rfl,_⟩:=okWide_struct aCM (aqw 0 25 v0 rfl rfl);obtain⟨es,rfl⟩:=Vv.Px aCN (aqw 1 26 v1 rfl rfl);obtain⟨fuel,hf⟩:=h0;obtain⟨awO,hf1⟩:=h1;obtain⟨X,xs,e1,e2,e3,_⟩:= @Vd.Cs Go.Ab.ioS H enc Tryz.prog W (fun _=>true) true Rows.uptoBulk Rows.uptoBulkAll (awN H) 12 fuel Vd.tI 25 cs.toList _ otI hf;obtain⟨Y,ys,k1,k2,k3,_⟩:= @Vd.Cs Go.Ab.ioS H enc Tryz.prog W (fun _=>true) true Rows.uptoBulk Rows.uptoBulkAll (awN H) 12 awO Vv.Nr 26 es.toList _ otV hf1;clear hA0 ajL;simp only[List.append_nil]at hW'
 refine(Vv.aaH e3 e1 e2 k3 k1 k2).mono fun e W' ⟨he,bel⟩=>?_
 subst he;exact⟨_,rfl,_,_,_,[],_,[],hW',trodAll_mk1 (shut_bool Tryz.underlying4 _),(trodAll_cons_mk (Below.trod laidOut (by kernel_rfl) (of_decide_eq_true (by kernel_rfl)) h0k bel (fun x hx=>nM x (by simp[hx]))) (trodAll_cons_mk (Below.trod laidOut (by kernel_rfl) (of_decide_eq_true (by kernel_rfl)) h1k bel (fun x hx=>nM x (by simp[hx]))) trodAll_mk0)),rfl,bel.frame _,fun h=>by cases h⟩
theorem over:Rows.interpVectorsRow.holds Tryz.pinned (OpenSpec.ofChange Rows.interpVectorsSpec):=
 OpenClaim.holds_of_wide 3 Tryz.f3 rfl rfl rfl rfl rfl rfl rfl ⟨rfl,rfl,rfl,rfl,rfl⟩ rfl rfl rfl rfl rfl c5 Tryz.func3 closed
  (of_decide_eq_true (by kernel_rfl)) (by unfold Func.isWrapper;first|(rw[if_pos (by decide+kernel)];kernel_rfl)|(rw[if_neg (by decide+kernel)];exact⟨rfl,rfl⟩))
  (fun os started H enc _=>lifted os started H enc)
theorem proved:Rows.InterpVectorsCardSaid:=
 Claim7.holds_tied_plain_at .later [] [.data,.data,.data,.pinned] true (true,"1f6ee752934f7cec237e9218cc724cbcdf4eaad030786f8f19a2cd58b53a571f") false over (fun _ h=>by cases h) c1 (fun _ h=>by cases h) interpVectors_row_tie rfl ⟨rfl,rfl⟩ c2 rfl
  (fun f fn hf hfn=>by
    obtain rfl:f=3:=Option.some.inj (c5.symm.trans hf) |>.symm
    obtain rfl:fn=Tryz.f3:=(Option.some.inj (Tryz.func3.symm.trans hfn)).symm;exact⟨c3,fun j t ht=>by
     rw[Tryz.params3]at ht
     have hm:t∈[25,26]:=by simpa using Array.mem_of_getElem? ht
     exact(show Tryz.prog.wantsStandIn t=false by simpa using List.all_eq_true.1 c4 t hm)⟩)
  c6
#print axioms proved
end Go.Proofs.YtjeanplhkkpdmaaGreatDoor.InterpVectorsLaw
