/-
  ExecMoves of every input is true, and turns nothing (the tied card). No condition beside the card's own.
-/
import Derived.Test.YtcnkojgmochcgaaGreatDoorVsF
import Derived.Test.YtcnkojgmochcgaaGreatDoorRtA
import Derived.Test.YtcnkojgmochcgaaGreatDoorRtB
import Derived.Test.YtcnkojgmochcgaaGreatDoorRtC
import Derived.Lib.SmallJoins
import Derived.Test.YtcnkojgmochcgaaGreatDoorRows
import Derived.Test.YtcnkojgmochcgaaGreatDoorCards
import Derived.Test.YtcnkojgmochcgaaGreatDoorTie
import Derived.WalkKit
import Derived.ProofKit
import Derived.OpenShut
import Derived.Carry
import Derived.Lay
import Derived.SevenTiedAt
import Derived.MakeChecks
import Derived.Stop.Joined
import Derived.Lib.LaidU8
namespace Go.Proofs.YtcnkojgmochcgaaGreatDoor.ExecMovesLaw
open Go.ChangeShapes Go.WideShapes Go.ChangeAt Go.RowKit Go.Joins Go.Deep
set_option maxRecDepth 1000000
set_option linter.unusedVariables false
theorem own0:ownKnob Tryz.prog.godebug=none:=by kernel_rfl
theorem laidOut:laidOutB Tryz.prog=true:=by kernel_rfl
theorem D4{n:Int}(h:(Lit.int .u64 n).wf=true):Vq.U n:=by
 unfold Vq.U
 simp[Lit.wf,IntKind.min,IntKind.max,IntKind.bits,IntKind.signed]at h
 omega
theorem Mp{n:Int}(h:(Lit.int .u8 n).wf=true):0≤n∧n≤255:=by
 simp[Lit.wf,IntKind.min,IntKind.max,IntKind.bits,IntKind.signed]at h
 omega
theorem X9{W:World}(h:laidMetH Tryz.prog Rows.execMovesRow.laid W):TabAt 0 Lib.deBruijn32tab W∧TabAt 1 Lib.deBruijn64tab W:=by
 rw[MakeChecks.laidMetH_plain _ _ _ (by kernel_rfl)]at h
 have c5:Tryz.prog.cellsOf 5=1:=by kernel_rfl
 have key: ∀ (b:Nat) (l:List Nat) (cs:Array Value),cs.toList=(l.map fun n:Nat=>(n:Int)).map (Value.int .u8)→(∀ j,W.cell? ⟨b,j,none⟩=cs[j]?)→TabAt b l W:=by
  intro b l cs fh hc j hj
  rw[hc j,←Array.getElem?_toList,fh,List.map_map,List.getElem?_map,List.getElem?_eq_getElem hj,List.getD_eq_getElem?_getD,List.getElem?_eq_getElem hj]
  rfl
 refine⟨?_,?_⟩
 ·obtain⟨g,t,cs,fuel,q,hg,ht,hv,hd⟩:=Go.Lib.laidMet.reads h (.head _)
  obtain rfl:=Option.some.inj ((show Tryz.prog.globalNamed "math/bits.deBruijn32tab" =some 0 by kernel_rfl).symm.trans hg)
  obtain rfl:=Option.some.inj ((show(Tryz.prog.globals[0]?).map (·.type)=some 225 by kernel_rfl).symm.trans ht)
  have fh:=Go.Lib.cells_of_tab (k:=.u8) (zs:=Go.Lib.deBruijn32tab.map fun n:Nat=>(n:Int)) Tryz.underlying225 Tryz.underlying5 c5 (by kernel_rfl) hd
  exact key 0 _ cs fh (fun j=>World.var?_cell hg hv j)
 ·obtain⟨g,t,cs,fuel,q,hg,ht,hv,hd⟩:=Go.Lib.laidMet.reads h (.tail _ (.head _))
  obtain rfl:=Option.some.inj ((show Tryz.prog.globalNamed "math/bits.deBruijn64tab" =some 1 by kernel_rfl).symm.trans hg)
  obtain rfl:=Option.some.inj ((show(Tryz.prog.globals[1]?).map (·.type)=some 226 by kernel_rfl).symm.trans ht)
  have fh:=Go.Lib.cells_of_tab (k:=.u8) (zs:=Go.Lib.deBruijn64tab.map fun n:Nat=>(n:Int)) Tryz.underlying226 Tryz.underlying5 c5 (by kernel_rfl) hd
  exact key 1 _ cs fh (fun j=>World.var?_cell hg hv j)
set_option maxRecDepth 100000 in
theorem lifted(os:Os)(started:os.Started)(H:Type)(enc:TypeId×Value→H):
 ReturnsInHanded {} Tryz.checked os 4 .any (fun w args=>(Rows.execMovesSpec.pre enc Tryz.prog Tryz.f4 [] false w args∧laidMetH Tryz.prog Rows.execMovesRow.laid w)∧sizedMet enc Tryz.prog Tryz.f4 (OpenSpec.ofChange Rows.execMovesSpec) false w args)
  (Rows.execMovesSpec.post enc Tryz.prog Tryz.f4 false true false false):=by
 refine returnsInHanded_of_change_and (C:=Tryz.checked) (X:=fun w _=>laidMetH Tryz.prog Rows.execMovesRow.laid w) (fun _ _ _ hh h=>h.of_heap hh) own0 started (by kernel_rfl) Tryz.func4
  (ChangeSpec.witness_shaped (enc:=enc) (C:=Tryz.checked) (os:=os) (X:=fun w _=>laidMetH Tryz.prog Rows.execMovesRow.laid w) false (World.laidAll Tryz.prog os Rows.execMovesRow.laid) #[.slice none 0 0,.int .u8 0,.int .u8 0] 8 (World.laidAll_os _ _ _)
    (World.shaped_of_ZipB (by kernel_rfl) (by kernel_rfl)) (by kernel_rfl) (by kernel_rfl) (by kernel_rfl)
    (by rw[MakeChecks.laidMetH_plain _ _ _ (by kernel_rfl)];exact laidMet_laidAll _ (by kernel_rfl) (by kernel_rfl))) ?_
 intro W base args ds gs before Mq hW _ _ hX _
 have Lh: ∀ (j:Nat) t v,Tryz.f4.params[j]? =some t→args[j]? =some v→Value.okWide Tryz.prog W .any base t v:=Mq
 have hW':=hW
 obtain⟨p,q,hA0,hV,rfl,_,_⟩:=hW
 have hA:DataW.TrodAll enc Tryz.prog W 0 (fun _=>true) true Tryz.f4.params.toList args.toList ds p:=hA0
 rw[Tryz.params4]at hA Lh
 obtain⟨v0,Ye,d0,ds0,p0,q0,jl,rfl,rfl,h0,r0⟩:=trodAll_cons hA
 obtain⟨v1,vs1,d1,Yw,p1,q1,rfl,rfl,rfl,h1,r1⟩:=trodAll_cons r0
 obtain⟨v2,CX,d2,Sr,p2,q2,rfl,rfl,rfl,h2,r2⟩:=trodAll_cons r1
 obtain⟨rfl,rfl,rfl⟩:=trodAll_nil r2
 obtain rfl:args= #[v0,v1,v2]:=by cases args;simp_all
 obtain⟨rfl,rfl⟩:=trodVars_none hV
 have h0k:=h0
 obtain⟨a1,rfl,rfl,rfl,w1⟩:=open_int Tryz.underlying5 (Lh 1 5 v1 rfl rfl) h1
 obtain⟨a2,rfl,rfl,rfl,w2⟩:=open_int Tryz.underlying5 (Lh 2 5 v2 rfl rfl) h2
 have ee: ∀ x∈p0,x.block<W.heap.size:=fun x hx=>by
  have:=hW'.lt x (by simpa using hx)
  simpa using this
 obtain⟨xs,hx,hxw⟩: ∃ L,@Go.Ab.VR Go.Ab.pq (Vq.gW W) W (Vq.aK .u64 L) v0∧ ∀ n∈L,(Lit.int .u64 n).wf=true:=by
  obtain⟨a,l,c,rfl⟩:=okWide_slice Tryz.underlying24 (Lh 0 24 v0 rfl rfl)
  obtain⟨fuel,hf⟩:=h0
  exact Vq.abZ Tryz.underlying24 Tryz.underlying22 (by kernel_rfl) hf
 clear hA0 Mq
 simp only[List.append_nil]at hW'
 refine(Vq.Lg (fun y hy=>D4 (hxw y hy)) (Mp w1) (Mp w2) hx (X9 hX).1 (X9 hX).2).mono fun e W' ⟨he,bel⟩=>?_
 subst he
 exact⟨_,rfl,_,_,_,[],_,[],hW',trodAll_mk1 (shut_bool Tryz.underlying4 _),(trodAll_cons_mk (Below.trod laidOut (by kernel_rfl) (of_decide_eq_true (by kernel_rfl)) h0k bel (fun x hx=>ee x (by simp[hx]))) (trodAll_cons_mk (shut_int Tryz.underlying5 w1) (trodAll_cons_mk (shut_int Tryz.underlying5 w2) trodAll_mk0))),rfl,bel.frame _,fun h=>by cases h⟩
theorem over:Rows.execMovesRow.holds Tryz.pinned (OpenSpec.ofChange Rows.execMovesSpec):=
 OpenClaim.holds_of_wide 4 Tryz.f4 rfl rfl rfl rfl rfl rfl rfl ⟨rfl,rfl,rfl,rfl,rfl⟩ rfl rfl rfl rfl rfl c5 Tryz.func4 closed
  (of_decide_eq_true (by kernel_rfl)) (by unfold Func.isWrapper;first|(rw[if_pos (by decide+kernel)];kernel_rfl)|(rw[if_neg (by decide+kernel)];exact⟨rfl,rfl⟩))
  (fun os started H enc _=>lifted os started H enc)
theorem proved:Rows.ExecMovesCardSaid:=
 Claim7.holds_tied_plain_at .later [] [.data,.data,.data,.pinned] true (true,"3e6d6a84e5d95fbf1a8ed5bf290f374ca0faa95fd8534a7cee7c521ba30e73dc") false over (fun _ h=>by cases h) c1 (fun _ h=>by cases h) execMoves_row_tie rfl ⟨rfl,rfl⟩ c2 rfl
  (fun f fn hf Cc=>by
    obtain rfl:f=4:=Option.some.inj (c5.symm.trans hf) |>.symm
    obtain rfl:fn=Tryz.f4:=(Option.some.inj (Tryz.func4.symm.trans Cc)).symm
    exact⟨c3,fun j t ht=>by
     rw[Tryz.params4]at ht
     have hm:t∈[24,5]:=by simpa using Array.mem_of_getElem? ht
     exact(show Tryz.prog.wantsStandIn t=false by simpa using List.all_eq_true.1 c4 t hm)⟩)
  c6
#print axioms proved
end Go.Proofs.YtcnkojgmochcgaaGreatDoor.ExecMovesLaw
