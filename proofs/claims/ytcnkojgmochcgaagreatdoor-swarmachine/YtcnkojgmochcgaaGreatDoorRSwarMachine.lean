/-
  SwarMachine of every input is true, and turns nothing (the tied card). No condition beside the card's own.
-/
import Derived.Test.YtcnkojgmochcgaaGreatDoorSvf
import Derived.Test.YtcnkojgmochcgaaGreatDoorRvA
import Derived.Test.YtcnkojgmochcgaaGreatDoorRvB
import Derived.Test.YtcnkojgmochcgaaGreatDoorRvC
import Derived.Lib.SmallJoins
import Derived.Test.YtcnkojgmochcgaaGreatDoorRows
import Derived.Test.YtcnkojgmochcgaaGreatDoorCards
import Derived.Test.YtcnkojgmochcgaaGreatDoorTie
import Derived.WalkKit
import Derived.ProofKit
import Derived.OpenShut
import Derived.Carry
import Derived.Lay
import Derived.SevenTiedAt
import Derived.MakeChecks
import Derived.Stop.Joined
import Derived.Lib.LaidU8
namespace Go.Proofs.YtcnkojgmochcgaaGreatDoor.SwarMachineLaw
open Go.ChangeShapes Go.WideShapes Go.ChangeAt Go.RowKit Go.Joins Go.Deep
set_option maxRecDepth 1000000
set_option linter.unusedVariables false
theorem own0:ownKnob Tryz.prog.godebug=none:=by kernel_rfl
theorem laidOut:laidOutB Tryz.prog=true:=by kernel_rfl
theorem yq{n:Int}(h:(Lit.int .u64 n).wf=true):Vq.U n:=by
 unfold Vq.U
 simp[Lit.wf,IntKind.min,IntKind.max,IntKind.bits,IntKind.signed]at h
 omega
theorem al0{W:World}(h:laidMetH Tryz.prog Rows.swarMachineRow.laid W):TabAt 0 Lib.deBruijn32tab W∧TabAt 1 Lib.deBruijn64tab W:=by
 rw[MakeChecks.laidMetH_plain _ _ _ (by kernel_rfl)]at h
 have c5:Tryz.prog.cellsOf 5=1:=by kernel_rfl
 have key: ∀ (b:Nat) (l:List Nat) (cs:Array Value),cs.toList=(l.map fun n:Nat=>(n:Int)).map (Value.int .u8)→(∀ j,W.cell? ⟨b,j,none⟩=cs[j]?)→TabAt b l W:=by
  intro b l cs q8 hc j hj
  rw[hc j,←Array.getElem?_toList,q8,List.map_map,List.getElem?_map,List.getElem?_eq_getElem hj,List.getD_eq_getElem?_getD,List.getElem?_eq_getElem hj]
  rfl
 refine⟨?_,?_⟩
 ·obtain⟨g,t,cs,fuel,q,hg,ht,hv,hd⟩:=Go.Lib.laidMet.reads h (.head _)
  obtain rfl:=Option.some.inj ((show Tryz.prog.globalNamed "math/bits.deBruijn32tab" =some 0 by kernel_rfl).symm.trans hg)
  obtain rfl:=Option.some.inj ((show(Tryz.prog.globals[0]?).map (·.type)=some 225 by kernel_rfl).symm.trans ht)
  have q8:=Go.Lib.cells_of_tab (k:=.u8) (zs:=Go.Lib.deBruijn32tab.map fun n:Nat=>(n:Int)) Tryz.underlying225 Tryz.underlying5 c5 (by kernel_rfl) hd
  exact key 0 _ cs q8 (fun j=>World.var?_cell hg hv j)
 ·obtain⟨g,t,cs,fuel,q,hg,ht,hv,hd⟩:=Go.Lib.laidMet.reads h (.tail _ (.head _))
  obtain rfl:=Option.some.inj ((show Tryz.prog.globalNamed "math/bits.deBruijn64tab" =some 1 by kernel_rfl).symm.trans hg)
  obtain rfl:=Option.some.inj ((show(Tryz.prog.globals[1]?).map (·.type)=some 226 by kernel_rfl).symm.trans ht)
  have q8:=Go.Lib.cells_of_tab (k:=.u8) (zs:=Go.Lib.deBruijn64tab.map fun n:Nat=>(n:Int)) Tryz.underlying226 Tryz.underlying5 c5 (by kernel_rfl) hd
  exact key 1 _ cs q8 (fun j=>World.var?_cell hg hv j)
set_option maxRecDepth 100000 in
theorem lifted(os:Os)(started:os.Started)(H:Type)(enc:TypeId×Value→H):
 ReturnsInHanded {} Tryz.checked os 9 .any (fun w args=>(Rows.swarMachineSpec.pre enc Tryz.prog Tryz.f9 [] false w args∧laidMetH Tryz.prog Rows.swarMachineRow.laid w)∧sizedMet enc Tryz.prog Tryz.f9 (OpenSpec.ofChange Rows.swarMachineSpec) false w args)
  (Rows.swarMachineSpec.post enc Tryz.prog Tryz.f9 false true false false):=by
 refine returnsInHanded_of_change_and (C:=Tryz.checked) (X:=fun w _=>laidMetH Tryz.prog Rows.swarMachineRow.laid w) (fun _ _ _ hh h=>h.of_heap hh) own0 started (by kernel_rfl) Tryz.func9
  (ChangeSpec.witness_shaped (enc:=enc) (C:=Tryz.checked) (os:=os) (X:=fun w _=>laidMetH Tryz.prog Rows.swarMachineRow.laid w) false (World.laidAll Tryz.prog os Rows.swarMachineRow.laid) #[.int .i64 0,.agg #[.int .u64 0,.int .u64 0,.int .u64 0,.int .u64 0,.int .u64 0,.int .u64 0],.int .i64 0] 8 (World.laidAll_os _ _ _)
    (World.shaped_of_ZipB (by kernel_rfl) (by kernel_rfl)) (by kernel_rfl) (by kernel_rfl) (by kernel_rfl)
    (by rw[MakeChecks.laidMetH_plain _ _ _ (by kernel_rfl)];exact laidMet_laidAll _ (by kernel_rfl) (by kernel_rfl))) ?_
 intro W base args ds gs before acu hW _ _ hX _
 have agh: ∀ (j:Nat) t v,Tryz.f9.params[j]? =some t→args[j]? =some v→Value.okWide Tryz.prog W .any base t v:=acu
 have hW':=hW
 obtain⟨p,q,hA0,hV,rfl,_,_⟩:=hW
 have hA:DataW.TrodAll enc Tryz.prog W 0 (fun _=>true) true Tryz.f9.params.toList args.toList ds p:=hA0
 rw[Tryz.params9]at hA agh
 obtain⟨v0,vs0,d0,ds0,p0,q0,uX,rfl,rfl,h0,r0⟩:=trodAll_cons hA
 obtain⟨v1,vs1,d1,ds1,p1,q1,rfl,rfl,rfl,h1,r1⟩:=trodAll_cons r0
 obtain⟨v2,QO,d2,ds2,p2,q2,rfl,rfl,rfl,h2,r2⟩:=trodAll_cons r1
 obtain⟨rfl,rfl,rfl⟩:=trodAll_nil r2
 obtain rfl:args= #[v0,v1,v2]:=by cases args;simp_all
 obtain⟨rfl,rfl⟩:=trodVars_none hV
 have h1k:=h1
 obtain⟨a0,rfl,rfl,rfl,w0⟩:=open_int Tryz.underlying3 (agh 0 3 v0 rfl rfl) h0
 obtain⟨a2,rfl,rfl,rfl,w2⟩:=open_int Tryz.underlying3 (agh 2 3 v2 rfl rfl) h2
 have o5: ∀ x∈p1,x.block<W.heap.size:=fun x hx=>by
  have:=hW'.lt x (by simpa using hx)
  simpa using this
 obtain⟨fuel,hf⟩:=h1
 obtain⟨x0,x1,x2,x3,x4,x5,rfl,y0,y1,y2,y3,y4,y5⟩:=Vq.VH hf
 clear hA0 acu
 simp only[List.append_nil]at hW'
 refine(Vq.aaN ⟨yq y0,yq y1,yq y2,yq y3,yq y4,yq y5⟩ (al0 hX).1 (al0 hX).2).mono fun e W' ⟨he,bel⟩=>?_
 subst he
 exact⟨_,rfl,_,_,_,[],_,[],hW',trodAll_mk1 (shut_bool Tryz.underlying4 _),(trodAll_cons_mk (shut_int Tryz.underlying3 w0) (trodAll_cons_mk (Below.trod laidOut (by kernel_rfl) (of_decide_eq_true (by kernel_rfl)) h1k bel (fun x hx=>o5 x (by simp[hx]))) (trodAll_cons_mk (shut_int Tryz.underlying3 w2) trodAll_mk0))),rfl,bel.frame _,fun h=>by cases h⟩
theorem over:Rows.swarMachineRow.holds Tryz.pinned (OpenSpec.ofChange Rows.swarMachineSpec):=
 OpenClaim.holds_of_wide 9 Tryz.f9 rfl rfl rfl rfl rfl rfl rfl ⟨rfl,rfl,rfl,rfl,rfl⟩ rfl rfl rfl rfl rfl c5 Tryz.func9 closed
  (of_decide_eq_true (by kernel_rfl)) (by unfold Func.isWrapper;first|(rw[if_pos (by decide+kernel)];kernel_rfl)|(rw[if_neg (by decide+kernel)];exact⟨rfl,rfl⟩))
  (fun os started H enc _=>lifted os started H enc)
theorem proved:Rows.SwarMachineCardSaid:=
 Claim7.holds_tied_plain_at .later [] [.data,.data,.data,.pinned] true (true,"3e6d6a84e5d95fbf1a8ed5bf290f374ca0faa95fd8534a7cee7c521ba30e73dc") false over (fun _ h=>by cases h) c1 (fun _ h=>by cases h) swarMachine_row_tie rfl ⟨rfl,rfl⟩ c2 rfl
  (fun f fn hf Zl=>by
    obtain rfl:f=9:=Option.some.inj (c5.symm.trans hf) |>.symm
    obtain rfl:fn=Tryz.f9:=(Option.some.inj (Tryz.func9.symm.trans Zl)).symm
    exact⟨c3,fun j t ht=>by
     rw[Tryz.params9]at ht
     have hm:t∈[3,110,3]:=by simpa using Array.mem_of_getElem? ht
     exact(show Tryz.prog.wantsStandIn t=false by simpa using List.all_eq_true.1 c4 t hm)⟩)
  c6
#print axioms proved
end Go.Proofs.YtcnkojgmochcgaaGreatDoor.SwarMachineLaw
