/-
  StoreLaid of every segments of bulk at most 1048576 is true, and turns nothing (the second form's tied card). Its condition is the given bound on what the arguments hold, and no other.
-/
import Derived.Test.YtbplobpobnagkaaGreatDoorSY2
import Derived.Test.YtbplobpobnagkaaGreatDoorTuA
import Derived.Test.YtbplobpobnagkaaGreatDoorTuB
import Derived.Test.YtbplobpobnagkaaGreatDoorTuC
import Derived.Lib.SmallJoins
import Derived.Test.YtbplobpobnagkaaGreatDoorRows
import Derived.Test.YtbplobpobnagkaaGreatDoorCards
import Derived.Test.YtbplobpobnagkaaGreatDoorTie
import Derived.WalkKit
import Derived.ProofKit
import Derived.OpenShut
import Derived.Carry
import Derived.Lay
import Derived.SevenTiedAt
import Derived.MakeChecks
import Derived.Stop.Joined
import Derived.Lib.LaidU8
import Derived.Deep.DeepHandedRow
namespace Go.Proofs.YtbplobpobnagkaaGreatDoor.StoreLaidLaw
open Go.ChangeShapes Go.WideShapes Go.ChangeAt Go.RowKit Go.Deep
set_option maxRecDepth 1000000
set_option linter.unusedVariables false
theorem own0:ownKnob Tryz.prog.godebug=none:=by kernel_rfl
theorem laidOut:laidOutB Tryz.prog=true:=by kernel_rfl
theorem alA(H:Type):Vd.Kg (H:=H) Rows.uptoBulk Rows.uptoBulkAll where
 one d:=by cases d with
  |lit l=>cases l<;>simp[Rows.uptoBulk]
  | _=>simp[Rows.uptoBulk]
 nil:=by simp[Rows.uptoBulkAll]
 cons _ _:=by simp[Rows.uptoBulkAll]
 str _:=by simp[Rows.uptoBulk]
 ae _ _:=by simp only[Rows.uptoBulk];omega
 agg _:=by simp only[Rows.uptoBulk];omega
theorem otL:Vd.otB Tryz.prog 12 (.ae Vd.dI) 22=true:=by kernel_rfl
noncomputable def U8:Value:=.slice none 0 0
noncomputable def w0(os:Os):World:=(World.laidAll Tryz.prog os Rows.storeLaidUptoRow.laid).forCall (fun _ _=>0) ⟨#[],#[U8],[]⟩
theorem aaY(os:Os){H:Type}(enc:TypeId×Value→H): ∃ places,DataW.whole enc Tryz.prog (w0 os).memory Tryz.f4.params.toList Rows.storeLaidSpec.vars false #[U8].toList 8=some ([.nil],[],places):=⟨[],by kernel_rfl⟩
set_option maxRecDepth 100000 in
theorem lifted(os:Os)(started:os.Started)(H:Type)(enc:TypeId×Value→H)(F:Stop.Interp):
 ReturnsInHanded {} Tryz.checked os 4 .any ((Rows.OpenSpec.upto Rows.storeLaidSpec).preRow enc Tryz.prog Tryz.f4 Rows.storeLaidUptoRow.domain false Rows.storeLaidUptoRow.laid) (((Rows.OpenSpec.upto Rows.storeLaidSpec).at F).post enc Tryz.prog Tryz.f4 false true false false):=by
 obtain⟨places,hx⟩:=aaY os enc
 have hok:Input.okWideB Tryz.prog (w0 os) 4 ⟨#[],#[U8],[]⟩=true:=by kernel_rfl
 refine returnsInHanded_of_row (C:=Tryz.checked) (s:=Rows.OpenSpec.upto Rows.storeLaidSpec) own0 started (by kernel_rfl) Tryz.func4
  ⟨World.laidAll Tryz.prog os Rows.storeLaidUptoRow.laid,fun _ _=>0,⟨#[],#[U8],[]⟩,World.laidAll_os _ _ _,World.shaped_of_ZipB (by kernel_rfl) (by kernel_rfl),rfl,(Input.okWide_of_okWideB hok).2,
    OpenSpec.preRow_of_cond 8 hx (by kernel_rfl) (fun k hk=>by cases hk;kernel_rfl) (by kernel_rfl) (by rw[MakeChecks.laidMetH_plain _ _ _ (by kernel_rfl)];exact laidMet_laidAll _ (by kernel_rfl) (by kernel_rfl)),by
     simp only[Assume.holds]
     exact⟨by simp,by simp,fun _=>Modest.zero,by simp,by simp⟩⟩ ?_
 intro W base args ds gs before WI hW _ Ai _ hL _ _
 have afL: ∀ (j:Nat) t v,Tryz.f4.params[j]? =some t→args[j]? =some v→Value.okWide Tryz.prog W .any base t v:=WI
 have hW':=hW
 obtain⟨p,q,hA0,hV,rfl,_,_⟩:=hW
 have hA:DataW.TrodAll enc Tryz.prog W 0 (fun _=>true) true Tryz.f4.params.toList args.toList ds p:=hA0
 rw[Tryz.params4]at hA afL
 obtain⟨v0,vs0,d0,ds0,p0,q0,og,rfl,rfl,h0,r0⟩:=trodAll_cons hA
 obtain⟨rfl,rfl,rfl⟩:=trodAll_nil r0
 obtain rfl:args= #[v0]:=by cases args;simp_all
 obtain⟨rfl,rfl⟩:=trodVars_none hV
 have h0k:=h0
 have gG: ∀ x∈p0,x.block<W.heap.size:=fun x hx=>by
  have:=hW'.lt x (by simpa using hx)
  simpa using this
 obtain⟨sa,sl,sc,rfl⟩:=okWide_slice Tryz.underlying22 (afL 0 22 v0 rfl rfl)
 obtain⟨fuel,hf⟩:=h0
 obtain⟨X,xs,e1,e2,e3,e4⟩:= @Vd.Cc Go.Ab.ioS H enc Tryz.prog W (fun _=>true) true Rows.uptoBulk Rows.uptoBulkAll (alA H) 12 fuel (.ae Vd.dI) 22 [.slice sa sl sc] _ otL hf
 have hb:Rows.uptoBulkAll [d0]≤1048576:=of_decide_eq_true (Ai _ rfl)
 have hn:Vd.qv (.ae Vd.dI) X≤1048576:=by
  simp only[Rows.uptoBulkAll]at hb
  have e4:Vd.qv (.ae Vd.dI) X≤Rows.uptoBulk d0:=e4
  omega
 clear hA0 WI
 simp only[List.append_nil]at hW'
 refine(Vd.P1 e3 hn e1 e2).mono fun e W' ⟨he,bel⟩=>?_
 subst he
 exact⟨_,rfl,_,_,_,[],_,[],hW',trodAll_mk1 (shut_bool Tryz.underlying4 _),(trodAll_cons_mk (Below.trod laidOut (by kernel_rfl) (of_decide_eq_true (by kernel_rfl)) h0k bel (fun x hx=>gG x (by simp[hx]))) trodAll_mk0),rfl,bel.frame _,fun h=>by cases h⟩
theorem over:Rows.StoreLaidUptoSaid:=
 OpenClaim.holds_of_cond 4 Tryz.f4 rfl rfl rfl rfl rfl rfl rfl ⟨rfl,rfl,rfl,rfl,rfl⟩ rfl rfl rfl rfl rfl c5 Tryz.func4 closed
  (of_decide_eq_true (by kernel_rfl)) (by unfold Func.isWrapper;first|(rw[if_pos (by decide+kernel)];kernel_rfl)|(rw[if_neg (by decide+kernel)];exact⟨rfl,rfl⟩))
  (fun os started H enc _ F=>by rw[OpenClaim.pre_eq_preRow];exact lifted os started H enc F)
theorem proved:Rows.StoreLaidUptoCardSaid:=
 Claim7.holds_tied_plain_at .later [] [.data,.pinned] true (true,"9b6564bd28683b7fa07f1fddbc14fa365c98ac89f3a163b13a645ade08acb871") false over (fun _ h=>by cases h) c1 (fun _ h=>by cases h) storeLaidUpto_row_tie rfl ⟨rfl,rfl⟩ c2 rfl
  (fun f fn hf hfn=>by
    obtain rfl:f=4:=Option.some.inj (c5.symm.trans hf) |>.symm
    obtain rfl:fn=Tryz.f4:=(Option.some.inj (Tryz.func4.symm.trans hfn)).symm
    exact⟨c3,fun j t ht=>by
     rw[Tryz.params4]at ht
     have hm:t∈[22]:=by simpa using Array.mem_of_getElem? ht
     exact(show Tryz.prog.wantsStandIn t=false by simpa using List.all_eq_true.1 c4 t hm)⟩)
  c6
#print axioms proved
end Go.Proofs.YtbplobpobnagkaaGreatDoor.StoreLaidLaw
