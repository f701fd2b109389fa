/-
  ExecHeights of every program and call of bulk at most 1048576 is true, and turns nothing (the second form's tied card). Its condition is the given bound on what the arguments hold, and no other.
-/
import Derived.Test.YtcnkojgmochcgaaGreatDoorVsL
import Derived.Test.YtcnkojgmochcgaaGreatDoorRuA
import Derived.Test.YtcnkojgmochcgaaGreatDoorRuB
import Derived.Test.YtcnkojgmochcgaaGreatDoorRuC
import Derived.Lib.SmallJoins
import Derived.Test.YtcnkojgmochcgaaGreatDoorRows
import Derived.Test.YtcnkojgmochcgaaGreatDoorCards
import Derived.Test.YtcnkojgmochcgaaGreatDoorTie
import Derived.WalkKit
import Derived.ProofKit
import Derived.OpenShut
import Derived.Carry
import Derived.Lay
import Derived.SevenTiedAt
import Derived.MakeChecks
import Derived.Stop.Joined
import Derived.Lib.LaidU8
import Derived.Deep.DeepHandedRow
namespace Go.Proofs.YtcnkojgmochcgaaGreatDoor.ExecHeightsLaw
open Go.ChangeShapes Go.WideShapes Go.ChangeAt Go.RowKit Go.Deep
set_option maxRecDepth 1000000
set_option linter.unusedVariables false
theorem own0:ownKnob Tryz.prog.godebug=none:=by kernel_rfl
theorem laidOut:laidOutB Tryz.prog=true:=by kernel_rfl
theorem adz(H:Type):Vq.Gy (H:=H) Rows.uptoBulk Rows.uptoBulkAll where
 one d:=by cases d with
  |lit l=>cases l<;>simp[Rows.uptoBulk]
  | _=>simp[Rows.uptoBulk]
 nil:=by simp[Rows.uptoBulkAll]
 cons _ _:=by simp[Rows.uptoBulkAll]
 str _:=by simp[Rows.uptoBulk]
 aC _ _:=by simp only[Rows.uptoBulk];omega
 agg _:=by simp only[Rows.uptoBulk];omega
theorem adA{W:World}(h:laidMetH Tryz.prog Rows.execHeightsUptoRow.laid W):TabAt 0 Lib.deBruijn32tab W∧TabAt 1 Lib.deBruijn64tab W:=by
 rw[MakeChecks.laidMetH_plain _ _ _ (by kernel_rfl)]at h
 have c5:Tryz.prog.cellsOf 5=1:=by kernel_rfl
 have key: ∀ (b:Nat) (l:List Nat) (cs:Array Value),cs.toList=(l.map fun n:Nat=>(n:Int)).map (Value.int .u8)→(∀ j,W.cell? ⟨b,j,none⟩=cs[j]?)→TabAt b l W:=by
  intro b l cs gu hc j hj
  rw[hc j,←Array.getElem?_toList,gu,List.map_map,List.getElem?_map,List.getElem?_eq_getElem hj,List.getD_eq_getElem?_getD,List.getElem?_eq_getElem hj]
  rfl
 refine⟨?_,?_⟩
 ·obtain⟨g,t,cs,fuel,q,hg,ht,hv,hd⟩:=Go.Lib.laidMet.reads h (.head _)
  obtain rfl:=Option.some.inj ((show Tryz.prog.globalNamed "math/bits.deBruijn32tab" =some 0 by kernel_rfl).symm.trans hg)
  obtain rfl:=Option.some.inj ((show(Tryz.prog.globals[0]?).map (·.type)=some 225 by kernel_rfl).symm.trans ht)
  have gu:=Go.Lib.cells_of_tab (k:=.u8) (zs:=Go.Lib.deBruijn32tab.map fun n:Nat=>(n:Int)) Tryz.underlying225 Tryz.underlying5 c5 (by kernel_rfl) hd
  exact key 0 _ cs gu (fun j=>World.var?_cell hg hv j)
 ·obtain⟨g,t,cs,fuel,q,hg,ht,hv,hd⟩:=Go.Lib.laidMet.reads h (.tail _ (.head _))
  obtain rfl:=Option.some.inj ((show Tryz.prog.globalNamed "math/bits.deBruijn64tab" =some 1 by kernel_rfl).symm.trans hg)
  obtain rfl:=Option.some.inj ((show(Tryz.prog.globals[1]?).map (·.type)=some 226 by kernel_rfl).symm.trans ht)
  have gu:=Go.Lib.cells_of_tab (k:=.u8) (zs:=Go.Lib.deBruijn64tab.map fun n:Nat=>(n:Int)) Tryz.underlying226 Tryz.underlying5 c5 (by kernel_rfl) hd
  exact key 1 _ cs gu (fun j=>World.var?_cell hg hv j)
theorem otP:Vq.WE Tryz.prog 12 Vq.zn 44=true:=by kernel_rfl
theorem otC:Vq.WE Tryz.prog 12 Vq.Qx 72=true:=by kernel_rfl
theorem ahY:Tryz.prog.underlying 44=some (.struct (match Tryz.prog.underlying 44 with|some (.struct fs)=>fs| _=> #[])):=by kernel_rfl
theorem ahZ:Tryz.prog.underlying 72=some (.struct (match Tryz.prog.underlying 72 with|some (.struct fs)=>fs| _=> #[])):=by kernel_rfl
noncomputable def QA:Value:=.agg #[.slice none 0 0,.slice none 0 0]
noncomputable def QB:Value:=.agg #[.int .i64 0,.slice none 0 0,.int .i64 0]
noncomputable def w0(os:Os):World:=(World.laidAll Tryz.prog os Rows.execHeightsUptoRow.laid).forCall (fun _ _=>0) ⟨#[],#[QA,QB],[]⟩
theorem VY(os:Os){H:Type}(enc:TypeId×Value→H): ∃ places,DataW.whole enc Tryz.prog (w0 os).memory Tryz.f7.params.toList Rows.execHeightsSpec.vars false #[QA,QB].toList 8=some ([.agg [.nil,.nil],.agg [.lit (.int .i64 0),.nil,.lit (.int .i64 0)]],[],places):=⟨[],by kernel_rfl⟩
set_option maxRecDepth 100000 in
theorem lifted(os:Os)(started:os.Started)(H:Type)(enc:TypeId×Value→H)(F:Stop.Interp):
 ReturnsInHanded {} Tryz.checked os 7 .any ((Rows.OpenSpec.upto Rows.execHeightsSpec).preRow enc Tryz.prog Tryz.f7 Rows.execHeightsUptoRow.domain false Rows.execHeightsUptoRow.laid) (((Rows.OpenSpec.upto Rows.execHeightsSpec).at F).post enc Tryz.prog Tryz.f7 false true false false):=by
 obtain⟨places,hx⟩:=VY os enc
 have hok:Input.okWideB Tryz.prog (w0 os) 7 ⟨#[],#[QA,QB],[]⟩=true:=by kernel_rfl
 refine returnsInHanded_of_row (C:=Tryz.checked) (s:=Rows.OpenSpec.upto Rows.execHeightsSpec) own0 started (by kernel_rfl) Tryz.func7
  ⟨World.laidAll Tryz.prog os Rows.execHeightsUptoRow.laid,fun _ _=>0,⟨#[],#[QA,QB],[]⟩,World.laidAll_os _ _ _,World.shaped_of_ZipB (by kernel_rfl) (by kernel_rfl),rfl,(Input.okWide_of_okWideB hok).2,
    OpenSpec.preRow_of_cond 8 hx (by kernel_rfl) (fun k hk=>by cases hk;kernel_rfl) (by kernel_rfl) (by rw[MakeChecks.laidMetH_plain _ _ _ (by kernel_rfl)];exact laidMet_laidAll _ (by kernel_rfl) (by kernel_rfl)),by
     simp only[Assume.holds]
     exact⟨by simp,by simp,fun _=>Modest.zero,by simp,by simp⟩⟩ ?_
 intro W base args ds gs before R6 hW _ xt _ hL _ _
 have VZ: ∀ (j:Nat) t v,Tryz.f7.params[j]? =some t→args[j]? =some v→Value.okWide Tryz.prog W .any base t v:=R6
 have hW':=hW
 obtain⟨p,q,hA0,hV,rfl,_,_⟩:=hW
 have hA:DataW.TrodAll enc Tryz.prog W 0 (fun _=>true) true Tryz.f7.params.toList args.toList ds p:=hA0
 rw[Tryz.params7]at hA VZ
 obtain⟨v0,vs0,d0,ds0,p0,q0,lW,rfl,rfl,h0,r0⟩:=trodAll_cons hA
 obtain⟨v1,vs1,d1,ds1,p1,q1,rfl,rfl,rfl,h1,r1⟩:=trodAll_cons r0
 obtain⟨rfl,rfl,rfl⟩:=trodAll_nil r1
 obtain rfl:args= #[v0,v1]:=by cases args;simp_all
 obtain⟨rfl,rfl⟩:=trodVars_none hV
 have h0k:=h0
 have h1k:=h1
 have fO: ∀ x∈p0++p1,x.block<W.heap.size:=fun x hx=>by
  have:=hW'.lt x (by simpa using hx)
  simpa using this
 obtain⟨cs,rfl,_⟩:=okWide_struct ahY (VZ 0 44 v0 rfl rfl)
 obtain⟨es,rfl,_⟩:=okWide_struct ahZ (VZ 1 72 v1 rfl rfl)
 obtain⟨fuel,hf⟩:=h0
 obtain⟨adB,hf1⟩:=h1
 obtain⟨X,xs,e1,e2,e3,e4⟩:= @Vq.uP Go.Ab.tv H enc Tryz.prog W (fun _=>true) true Rows.uptoBulk Rows.uptoBulkAll (adz H) 12 fuel Vq.zn 44 cs.toList _ otP hf
 obtain⟨Y,ys,k1,k2,k3,k4⟩:= @Vq.uP Go.Ab.tv H enc Tryz.prog W (fun _=>true) true Rows.uptoBulk Rows.uptoBulkAll (adz H) 12 adB Vq.Qx 72 es.toList _ otC hf1
 have hb:Rows.uptoBulkAll [d0,d1]≤1048576:=of_decide_eq_true (xt _ rfl)
 have hn:Vq.mm Vq.zn X≤1048576:=by
  simp only[Rows.uptoBulkAll]at hb
  have e4:Vq.mm Vq.zn X≤Rows.uptoBulk d0:=e4
  omega
 clear hA0 R6
 simp only[List.append_nil]at hW'
 refine(Vq.Ls (Vq.Lt e3 hn) e1 e2 k1 k2 (adA hL).1 (adA hL).2).mono fun e W' ⟨he,bel⟩=>?_
 subst he
 exact⟨_,rfl,_,_,_,[],_,[],hW',trodAll_mk1 (shut_bool Tryz.underlying4 _),(trodAll_cons_mk (Below.trod laidOut (by kernel_rfl) (of_decide_eq_true (by kernel_rfl)) h0k bel (fun x hx=>fO x (by simp[hx]))) (trodAll_cons_mk (Below.trod laidOut (by kernel_rfl) (of_decide_eq_true (by kernel_rfl)) h1k bel (fun x hx=>fO x (by simp[hx]))) trodAll_mk0)),rfl,bel.frame _,fun h=>by cases h⟩
theorem over:Rows.ExecHeightsUptoSaid:=
 OpenClaim.holds_of_cond 7 Tryz.f7 rfl rfl rfl rfl rfl rfl rfl ⟨rfl,rfl,rfl,rfl,rfl⟩ rfl rfl rfl rfl rfl c5 Tryz.func7 closed
  (of_decide_eq_true (by kernel_rfl)) (by unfold Func.isWrapper;first|(rw[if_pos (by decide+kernel)];kernel_rfl)|(rw[if_neg (by decide+kernel)];exact⟨rfl,rfl⟩))
  (fun os started H enc _ F=>by rw[OpenClaim.pre_eq_preRow];exact lifted os started H enc F)
theorem proved:Rows.ExecHeightsUptoCardSaid:=
 Claim7.holds_tied_plain_at .later [] [.data,.data,.data,.pinned] true (true,"3e6d6a84e5d95fbf1a8ed5bf290f374ca0faa95fd8534a7cee7c521ba30e73dc") false over (fun _ h=>by cases h) c1 (fun _ h=>by cases h) execHeightsUpto_row_tie rfl ⟨rfl,rfl⟩ c2 rfl
  (fun f fn hf qN=>by
    obtain rfl:f=7:=Option.some.inj (c5.symm.trans hf) |>.symm
    obtain rfl:fn=Tryz.f7:=(Option.some.inj (Tryz.func7.symm.trans qN)).symm
    exact⟨c3,fun j t ht=>by
     rw[Tryz.params7]at ht
     have hm:t∈[44,72]:=by simpa using Array.mem_of_getElem? ht
     exact(show Tryz.prog.wantsStandIn t=false by simpa using List.all_eq_true.1 c4 t hm)⟩)
  c6
#print axioms proved
end Go.Proofs.YtcnkojgmochcgaaGreatDoor.ExecHeightsLaw
