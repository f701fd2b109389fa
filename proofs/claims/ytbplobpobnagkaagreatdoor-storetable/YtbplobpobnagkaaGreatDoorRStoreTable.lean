/-
  StoreTable of every input is true, and turns nothing (the tied card). No condition beside the card's own.
-/
import Derived.Test.YtbplobpobnagkaaGreatDoorSY1
import Derived.Test.YtbplobpobnagkaaGreatDoorTsA
import Derived.Test.YtbplobpobnagkaaGreatDoorTsB
import Derived.Test.YtbplobpobnagkaaGreatDoorTsC
import Derived.Lib.SmallJoins
import Derived.Test.YtbplobpobnagkaaGreatDoorRows
import Derived.Test.YtbplobpobnagkaaGreatDoorCards
import Derived.Test.YtbplobpobnagkaaGreatDoorTie
import Derived.WalkKit
import Derived.ProofKit
import Derived.OpenShut
import Derived.Carry
import Derived.Lay
import Derived.SevenTiedAt
import Derived.MakeChecks
import Derived.Stop.Joined
namespace Go.Proofs.YtbplobpobnagkaaGreatDoor.StoreTableLaw
open Go.ChangeShapes Go.WideShapes Go.ChangeAt Go.RowKit Go.Joins Go.Deep
set_option maxRecDepth 1000000
set_option linter.unusedVariables false
theorem own0:ownKnob Tryz.prog.godebug=none:=by kernel_rfl
theorem laidOut:laidOutB Tryz.prog=true:=by kernel_rfl
theorem alF(H:Type):Vd.Kh (H:=H) Rows.uptoBulk Rows.uptoBulkAll where
 one d:=by cases d with
  |lit l=>cases l<;>simp[Rows.uptoBulk]
  | _=>simp[Rows.uptoBulk]
 nil:=by simp[Rows.uptoBulkAll]
 cons _ _:=by simp[Rows.uptoBulkAll]
 str _:=by simp[Rows.uptoBulk]
 ae _ _:=by simp only[Rows.uptoBulk];omega
 agg _:=by simp only[Rows.uptoBulk];omega
theorem otL:Vd.otB Tryz.prog 12 (.ae Vd.cP) 22=true:=by kernel_rfl
set_option maxRecDepth 100000 in
theorem lifted(os:Os)(started:os.Started)(H:Type)(enc:TypeId×Value→H):
 ReturnsInHanded {} Tryz.checked os 3 .any (fun w args=>(Rows.storeTableSpec.pre enc Tryz.prog Tryz.f3 [] false w args∧laidMetH Tryz.prog Rows.storeTableRow.laid w)∧sizedMet enc Tryz.prog Tryz.f3 (OpenSpec.ofChange Rows.storeTableSpec) false w args)
  (Rows.storeTableSpec.post enc Tryz.prog Tryz.f3 false true false false):=by
 refine returnsInHanded_of_change_and (C:=Tryz.checked) (X:=fun w _=>laidMetH Tryz.prog Rows.storeTableRow.laid w) (fun _ _ _ hh h=>h.of_heap hh) own0 started (by kernel_rfl) Tryz.func3
  (ChangeSpec.witness_shaped (enc:=enc) (C:=Tryz.checked) (os:=os) (X:=fun w _=>laidMetH Tryz.prog Rows.storeTableRow.laid w) false (World.laidAll Tryz.prog os Rows.storeTableRow.laid) #[.slice none 0 0,.int .u32 0] 8 (World.laidAll_os _ _ _)
    (World.shaped_of_ZipB (by kernel_rfl) (by kernel_rfl)) (by kernel_rfl) (by kernel_rfl) (by kernel_rfl)
    (by rw[MakeChecks.laidMetH_plain _ _ _ (by kernel_rfl)];exact laidMet_laidAll _ (by kernel_rfl) (by kernel_rfl))) ?_
 intro W base args ds gs before WD hW _ _ hX _
 have aa0: ∀ (j:Nat) t v,Tryz.f3.params[j]? =some t→args[j]? =some v→Value.okWide Tryz.prog W .any base t v:=WD
 have hW':=hW
 obtain⟨p,q,hA0,hV,rfl,_,_⟩:=hW
 have hA:DataW.TrodAll enc Tryz.prog W 0 (fun _=>true) true Tryz.f3.params.toList args.toList ds p:=hA0
 rw[Tryz.params3]at hA aa0
 obtain⟨v0,vs0,d0,ds0,p0,q0,oh,rfl,rfl,h0,r0⟩:=trodAll_cons hA
 obtain⟨v1,vs1,d1,ds1,p1,q1,rfl,rfl,rfl,h1,r1⟩:=trodAll_cons r0
 obtain⟨rfl,rfl,rfl⟩:=trodAll_nil r1
 obtain rfl:args= #[v0,v1]:=by cases args;simp_all
 obtain⟨rfl,rfl⟩:=trodVars_none hV
 have h0k:=h0
 obtain⟨a1,rfl,rfl,rfl,w1⟩:=open_int Tryz.underlying23 (aa0 1 23 v1 rfl rfl) h1
 have gB: ∀ x∈p0,x.block<W.heap.size:=fun x hx=>by
  have:=hW'.lt x (by simpa using hx)
  simpa using this
 obtain⟨sa,sl,sc,rfl⟩:=okWide_slice Tryz.underlying22 (aa0 0 22 v0 rfl rfl)
 obtain⟨fuel,hf⟩:=h0
 obtain⟨X,xs,e1,e2,e3,_⟩:= @Vd.Cf Go.Ab.ioS H enc Tryz.prog W (fun _=>true) true Rows.uptoBulk Rows.uptoBulkAll (alF H) 12 fuel (.ae Vd.cP) 22 [.slice sa sl sc] _ otL hf
 clear hA0 WD
 simp only[List.append_nil]at hW'
 refine(Vd.P2 e3 e1 e2 w1).mono fun e W' ⟨he,bel⟩=>?_
 subst he
 exact⟨_,rfl,_,_,_,[],_,[],hW',trodAll_mk1 (shut_bool Tryz.underlying4 _),(trodAll_cons_mk (Below.trod laidOut (by kernel_rfl) (of_decide_eq_true (by kernel_rfl)) h0k bel (fun x hx=>gB x (by simp[hx]))) (trodAll_cons_mk (shut_int Tryz.underlying23 w1) trodAll_mk0)),rfl,bel.frame _,fun h=>by cases h⟩
theorem over:Rows.storeTableRow.holds Tryz.pinned (OpenSpec.ofChange Rows.storeTableSpec):=
 OpenClaim.holds_of_wide 3 Tryz.f3 rfl rfl rfl rfl rfl rfl rfl ⟨rfl,rfl,rfl,rfl,rfl⟩ rfl rfl rfl rfl rfl c5 Tryz.func3 closed
  (of_decide_eq_true (by kernel_rfl)) (by unfold Func.isWrapper;first|(rw[if_pos (by decide+kernel)];kernel_rfl)|(rw[if_neg (by decide+kernel)];exact⟨rfl,rfl⟩))
  (fun os started H enc _=>lifted os started H enc)
theorem proved:Rows.StoreTableCardSaid:=
 Claim7.holds_tied_plain_at .later [] [.data,.pinned] true (true,"9b6564bd28683b7fa07f1fddbc14fa365c98ac89f3a163b13a645ade08acb871") false over (fun _ h=>by cases h) c1 (fun _ h=>by cases h) storeTable_row_tie rfl ⟨rfl,rfl⟩ c2 rfl
  (fun f fn hf hfn=>by
    obtain rfl:f=3:=Option.some.inj (c5.symm.trans hf) |>.symm
    obtain rfl:fn=Tryz.f3:=(Option.some.inj (Tryz.func3.symm.trans hfn)).symm
    exact⟨c3,fun j t ht=>by
     rw[Tryz.params3]at ht
     have hm:t∈[22,23]:=by simpa using Array.mem_of_getElem? ht
     exact(show Tryz.prog.wantsStandIn t=false by simpa using List.all_eq_true.1 c4 t hm)⟩)
  c6
#print axioms proved
end Go.Proofs.YtbplobpobnagkaaGreatDoor.StoreTableLaw
