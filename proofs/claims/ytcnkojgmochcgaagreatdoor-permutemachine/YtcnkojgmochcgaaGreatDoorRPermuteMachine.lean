/-
  PermuteMachine of every input is true, and turns nothing (the tied card). No condition beside the card's own.
-/
import Derived.Test.YtcnkojgmochcgaaGreatDoorVvO
import Derived.Test.YtcnkojgmochcgaaGreatDoorRwA
import Derived.Test.YtcnkojgmochcgaaGreatDoorRwB
import Derived.Test.YtcnkojgmochcgaaGreatDoorRwC
import Derived.Lib.SmallJoins
import Derived.Test.YtcnkojgmochcgaaGreatDoorRows
import Derived.Test.YtcnkojgmochcgaaGreatDoorCards
import Derived.Test.YtcnkojgmochcgaaGreatDoorTie
import Derived.WalkKit
import Derived.ProofKit
import Derived.OpenShut
import Derived.Carry
import Derived.Lay
import Derived.SevenTiedAt
import Derived.MakeChecks
import Derived.Stop.Joined
import Derived.Lib.LaidU8
namespace Go.Proofs.YtcnkojgmochcgaaGreatDoor.PermuteMachineLaw
open Go.ChangeShapes Go.WideShapes Go.ChangeAt Go.RowKit Go.Joins Go.Deep
set_option maxRecDepth 1000000
set_option linter.unusedVariables false
theorem own0:ownKnob Tryz.prog.godebug=none:=by kernel_rfl
theorem laidOut:laidOutB Tryz.prog=true:=by kernel_rfl
theorem Cn{n:Int}(h:(Lit.int .u64 n).wf=true):Vq.U n:=by
 unfold Vq.U
 simp[Lit.wf,IntKind.min,IntKind.max,IntKind.bits,IntKind.signed]at h
 omega
theorem amm{W:World}(h:laidMetH Tryz.prog Rows.permuteMachineRow.laid W):TabAt 0 Lib.deBruijn32tab W∧TabAt 1 Lib.deBruijn64tab W:=by
 rw[MakeChecks.laidMetH_plain _ _ _ (by kernel_rfl)]at h
 have c5:Tryz.prog.cellsOf 5=1:=by kernel_rfl
 have key: ∀ (b:Nat) (l:List Nat) (cs:Array Value),cs.toList=(l.map fun n:Nat=>(n:Int)).map (Value.int .u8)→(∀ j,W.cell? ⟨b,j,none⟩=cs[j]?)→TabAt b l W:=by
  intro b l cs rj hc j hj
  rw[hc j,←Array.getElem?_toList,rj,List.map_map,List.getElem?_map,List.getElem?_eq_getElem hj,List.getD_eq_getElem?_getD,List.getElem?_eq_getElem hj]
  rfl
 refine⟨?_,?_⟩
 ·obtain⟨g,t,cs,fuel,q,hg,ht,hv,hd⟩:=Go.Lib.laidMet.reads h (.head _)
  obtain rfl:=Option.some.inj ((show Tryz.prog.globalNamed "math/bits.deBruijn32tab" =some 0 by kernel_rfl).symm.trans hg)
  obtain rfl:=Option.some.inj ((show(Tryz.prog.globals[0]?).map (·.type)=some 225 by kernel_rfl).symm.trans ht)
  have rj:=Go.Lib.cells_of_tab (k:=.u8) (zs:=Go.Lib.deBruijn32tab.map fun n:Nat=>(n:Int)) Tryz.underlying225 Tryz.underlying5 c5 (by kernel_rfl) hd
  exact key 0 _ cs rj (fun j=>World.var?_cell hg hv j)
 ·obtain⟨g,t,cs,fuel,q,hg,ht,hv,hd⟩:=Go.Lib.laidMet.reads h (.tail _ (.head _))
  obtain rfl:=Option.some.inj ((show Tryz.prog.globalNamed "math/bits.deBruijn64tab" =some 1 by kernel_rfl).symm.trans hg)
  obtain rfl:=Option.some.inj ((show(Tryz.prog.globals[1]?).map (·.type)=some 226 by kernel_rfl).symm.trans ht)
  have rj:=Go.Lib.cells_of_tab (k:=.u8) (zs:=Go.Lib.deBruijn64tab.map fun n:Nat=>(n:Int)) Tryz.underlying226 Tryz.underlying5 c5 (by kernel_rfl) hd
  exact key 1 _ cs rj (fun j=>World.var?_cell hg hv j)
theorem atW(H:Type):Vq.QP (H:=H) Rows.uptoBulk Rows.uptoBulkAll where
 one d:=by cases d with
  |lit l=>cases l<;>simp[Rows.uptoBulk]
  | _=>simp[Rows.uptoBulk]
 nil:=by simp[Rows.uptoBulkAll]
 cons _ _:=by simp[Rows.uptoBulkAll]
 str _:=by simp[Rows.uptoBulk]
 cp _ _:=by simp only[Rows.uptoBulk];omega
 agg _:=by simp only[Rows.uptoBulk];omega
theorem otI:Vq.otB Tryz.prog 12 Vq.tI 100=true:=by kernel_rfl
theorem atX:Tryz.prog.underlying 100=some (.struct (match Tryz.prog.underlying 100 with|some (.struct fs)=>fs| _=> #[])):=by kernel_rfl
set_option maxRecDepth 100000 in
theorem lifted(os:Os)(started:os.Started)(H:Type)(enc:TypeId×Value→H):
 ReturnsInHanded {} Tryz.checked os 8 .any (fun w args=>(Rows.permuteMachineSpec.pre enc Tryz.prog Tryz.f8 [] false w args∧laidMetH Tryz.prog Rows.permuteMachineRow.laid w)∧sizedMet enc Tryz.prog Tryz.f8 (OpenSpec.ofChange Rows.permuteMachineSpec) false w args)
  (Rows.permuteMachineSpec.post enc Tryz.prog Tryz.f8 false true false false):=by
 refine returnsInHanded_of_change_and (C:=Tryz.checked) (X:=fun w _=>laidMetH Tryz.prog Rows.permuteMachineRow.laid w) (fun _ _ _ hh h=>h.of_heap hh) own0 started (by kernel_rfl) Tryz.func8
  (ChangeSpec.witness_shaped (enc:=enc) (C:=Tryz.checked) (os:=os) (X:=fun w _=>laidMetH Tryz.prog Rows.permuteMachineRow.laid w) false (World.laidAll Tryz.prog os Rows.permuteMachineRow.laid) #[.agg #[.int .i64 0,.int .i64 0,.int .i64 0,.int .u64 0,.int .u64 0,.slice none 0 0],.agg #[.int .u64 0,.int .u64 0,.int .u64 0,.int .u64 0]] 8 (World.laidAll_os _ _ _)
    (World.shaped_of_ZipB (by kernel_rfl) (by kernel_rfl)) (by kernel_rfl) (by kernel_rfl) (by kernel_rfl)
    (by rw[MakeChecks.laidMetH_plain _ _ _ (by kernel_rfl)];exact laidMet_laidAll _ (by kernel_rfl) (by kernel_rfl))) ?_
 intro W base args ds gs before ado hW _ _ hX _
 have amn: ∀ (j:Nat) t v,Tryz.f8.params[j]? =some t→args[j]? =some v→Value.okWide Tryz.prog W .any base t v:=ado
 have hW':=hW
 obtain⟨p,q,hA0,hV,rfl,_,_⟩:=hW
 have hA:DataW.TrodAll enc Tryz.prog W 0 (fun _=>true) true Tryz.f8.params.toList args.toList ds p:=hA0
 rw[Tryz.params8]at hA amn
 obtain⟨v0,vs0,d0,ds0,p0,q0,uA,rfl,rfl,h0,r0⟩:=trodAll_cons hA
 obtain⟨v1,vs1,d1,ds1,p1,q1,rfl,rfl,rfl,h1,r1⟩:=trodAll_cons r0
 obtain⟨rfl,rfl,rfl⟩:=trodAll_nil r1
 obtain rfl:args= #[v0,v1]:=by cases args;simp_all
 obtain⟨rfl,rfl⟩:=trodVars_none hV
 have h0k:=h0
 have h1k:=h1
 have oI: ∀ x∈p0++p1,x.block<W.heap.size:=fun x hx=>by
  have:=hW'.lt x (by simpa using hx)
  simpa using this
 obtain⟨cs,rfl,_⟩:=okWide_struct atX (amn 0 100 v0 rfl rfl)
 obtain⟨fuel,hf⟩:=h0
 obtain⟨avI,hf1⟩:=h1
 obtain⟨I,xs,e1,e2,e3,_⟩:= @Vq.Gy Go.Ab.CX H enc Tryz.prog W (fun _=>true) true Rows.uptoBulk Rows.uptoBulkAll (atW H) 12 fuel Vq.tI 100 cs.toList _ otI hf
 obtain⟨x0,x1,x2,x3,rfl,y0,y1,y2,y3⟩:=Vq.QQ hf1
 clear hA0 ado
 simp only[List.append_nil]at hW'
 refine(Vq.abS e3 e1 e2 ⟨Cn y0,Cn y1,Cn y2,Cn y3⟩ (amm hX).1 (amm hX).2).mono fun e W' ⟨he,bel⟩=>?_
 subst he
 exact⟨_,rfl,_,_,_,[],_,[],hW',trodAll_mk1 (shut_bool Tryz.underlying4 _),(trodAll_cons_mk (Below.trod laidOut (by kernel_rfl) (of_decide_eq_true (by kernel_rfl)) h0k bel (fun x hx=>oI x (by simp[hx]))) (trodAll_cons_mk (Below.trod laidOut (by kernel_rfl) (of_decide_eq_true (by kernel_rfl)) h1k bel (fun x hx=>oI x (by simp[hx]))) trodAll_mk0)),rfl,bel.frame _,fun h=>by cases h⟩
theorem over:Rows.permuteMachineRow.holds Tryz.pinned (OpenSpec.ofChange Rows.permuteMachineSpec):=
 OpenClaim.holds_of_wide 8 Tryz.f8 rfl rfl rfl rfl rfl rfl rfl ⟨rfl,rfl,rfl,rfl,rfl⟩ rfl rfl rfl rfl rfl c5 Tryz.func8 closed
  (of_decide_eq_true (by kernel_rfl)) (by unfold Func.isWrapper;first|(rw[if_pos (by decide+kernel)];kernel_rfl)|(rw[if_neg (by decide+kernel)];exact⟨rfl,rfl⟩))
  (fun os started H enc _=>lifted os started H enc)
theorem proved:Rows.PermuteMachineCardSaid:=
 Claim7.holds_tied_plain_at .later [] [.data,.data,.data,.pinned] true (true,"3e6d6a84e5d95fbf1a8ed5bf290f374ca0faa95fd8534a7cee7c521ba30e73dc") false over (fun _ h=>by cases h) c1 (fun _ h=>by cases h) permuteMachine_row_tie rfl ⟨rfl,rfl⟩ c2 rfl
  (fun f fn hf hfn=>by
    obtain rfl:f=8:=Option.some.inj (c5.symm.trans hf) |>.symm
    obtain rfl:fn=Tryz.f8:=(Option.some.inj (Tryz.func8.symm.trans hfn)).symm
    exact⟨c3,fun j t ht=>by
     rw[Tryz.params8]at ht
     have hm:t∈[100,101]:=by simpa using Array.mem_of_getElem? ht
     exact(show Tryz.prog.wantsStandIn t=false by simpa using List.all_eq_true.1 c4 t hm)⟩)
  c6
#print axioms proved
end Go.Proofs.YtcnkojgmochcgaaGreatDoor.PermuteMachineLaw
