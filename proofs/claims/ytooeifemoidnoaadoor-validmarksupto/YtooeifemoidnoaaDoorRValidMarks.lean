/-
  ValidMarks of every module and number of bulk at most 1048576 is true, and turns nothing (the second form's tied card). Its condition is the given bound on what the arguments hold, and no other.
-/
import Derived.Test.YtooeifemoidnoaaDoorVdQ2
import Derived.Test.YtooeifemoidnoaaDoorRows
import Derived.Test.YtooeifemoidnoaaDoorCards
import Derived.Test.YtooeifemoidnoaaDoorTie
import Derived.WalkKit
import Derived.ProofKit
import Derived.OpenShut
import Derived.Carry
import Derived.Lay
import Derived.SevenTiedAt
import Derived.MakeChecks
import Derived.Deep.DeepHandedRow
namespace Go.Proofs.YtooeifemoidnoaaDoor.ValidMarksLaw
open Go.ChangeShapes Go.WideShapes Go.ChangeAt Go.RowKit Go.Deep
set_option maxRecDepth 1000000
set_option linter.unusedVariables false
theorem own:ownKnob Tryd.prog.godebug=none:=by kernel_rfl
theorem laidOut:laidOutB Tryd.prog=true:=by kernel_rfl
theorem bkOk(H:Type):Vd.BkOk (H:=H) Rows.uptoBulk Rows.uptoBulkAll where
 one d:=by cases d with
  |lit l=>cases l<;>simp[Rows.uptoBulk]
  | _=>simp[Rows.uptoBulk]
 nil:=by simp[Rows.uptoBulkAll]
 cons _ _:=by simp[Rows.uptoBulkAll]
 str _:=by simp[Rows.uptoBulk]
 sli _ _:=by simp only[Rows.uptoBulk];omega
 agg _:=by simp only[Rows.uptoBulk];omega
theorem tabs{W:World}(h:laidMetH Tryd.prog Rows.validMarksUptoRow.laid W):Lib.Utf8Tabs 0 1 W:=by
 rw[MakeChecks.laidMetH_plain _ _ _ (by kernel_rfl)]at h
 have h4:=Lib.laidMet.reads h (.head _)
 have h3:=Lib.laidMet.reads h (.tail _ (.head _))
 rw[show(Rows.laid_unicode_utf8_first:DataW Unit)=Lib.firstData by kernel_rfl]at h3
 rw[show(Rows.laid_unicode_utf8_acceptRanges:DataW Unit)=Lib.acceptData by kernel_rfl]at h4
 exact utf8Tabs_of_readsT (U8Types.of196 Tryd.lays66) Vd.Tryd.u8x h3 h4
theorem otM:Vd.otB Tryd.prog 12 Vd.tMod 32=true:=by kernel_rfl
theorem oneM:Tryd.prog.underlying 32=some (.struct (match Tryd.prog.underlying 32 with|some (.struct fs)=>fs| _=> #[])):=by kernel_rfl
noncomputable def arg0:Value:=.agg #[.slice none 0 0,.slice none 0 0,.slice none 0 0,.slice none 0 0,.slice none 0 0,.slice none 0 0,.slice none 0 0,.int .i64 0,.slice none 0 0,.slice none 0 0,.slice none 0 0]
noncomputable def w0(os:Os):World:=(World.laidAll Tryd.prog os Rows.validMarksUptoRow.laid).forCall (fun _ _=>0) ⟨#[],#[arg0,.int .i64 0],[]⟩
theorem reads0(os:Os){H:Type}(enc:TypeId×Value→H): ∃ places,DataW.whole enc Tryd.prog (w0 os).memory Tryd.f3.params.toList Rows.validMarksSpec.vars false #[arg0,.int .i64 0].toList 8=some ([.agg [.nil,.nil,.nil,.nil,.nil,.nil,.nil,.lit (.int .i64 0),.nil,.nil,.nil],.lit (.int .i64 0)],[],places):=⟨[],by kernel_rfl⟩
set_option maxRecDepth 100000 in
theorem lifted(os:Os)(started:os.Started)(H:Type)(enc:TypeId×Value→H)(F:Stop.Interp):
 ReturnsInHanded {} Tryd.checked os 3 .any ((Rows.OpenSpec.upto Rows.validMarksSpec).preRow enc Tryd.prog Tryd.f3 Rows.validMarksUptoRow.domain false Rows.validMarksUptoRow.laid) (((Rows.OpenSpec.upto Rows.validMarksSpec).at F).post enc Tryd.prog Tryd.f3 false true false false):=by
 obtain⟨places,hx⟩:=reads0 os enc
 have hok:Input.okWideB Tryd.prog (w0 os) 3 ⟨#[],#[arg0,.int .i64 0],[]⟩=true:=by kernel_rfl
 refine returnsInHanded_of_row (C:=Tryd.checked) (s:=Rows.OpenSpec.upto Rows.validMarksSpec) own started (by kernel_rfl) Tryd.func3
  ⟨World.laidAll Tryd.prog os Rows.validMarksUptoRow.laid,fun _ _=>0,⟨#[],#[arg0,.int .i64 0],[]⟩,World.laidAll_os _ _ _,World.shaped_of_ZipB (by kernel_rfl) (by kernel_rfl),rfl,(Input.okWide_of_okWideB hok).2,
    OpenSpec.preRow_of_cond 8 hx (by kernel_rfl) (fun k hk=>by cases hk;kernel_rfl) (by kernel_rfl) (by rw[MakeChecks.laidMetH_plain _ _ _ (by kernel_rfl)];exact laidMet_laidAll _ (by kernel_rfl) (by kernel_rfl)),by
     simp only[Assume.holds]
     exact⟨by simp,by simp,fun _=>Modest.zero,by simp,by simp⟩⟩ ?_
 intro W base args ds gs before hval0 hW _ hcond _ hL _ _
 have hval: ∀ (j:Nat) t v,Tryd.f3.params[j]? =some t→args[j]? =some v→Value.okWide Tryd.prog W .any base t v:=hval0
 have hW':=hW
 obtain⟨p,q,hA0,hV,rfl,_,_⟩:=hW
 have hA:DataW.TrodAll enc Tryd.prog W 0 (fun _=>true) true Tryd.f3.params.toList args.toList ds p:=hA0
 rw[Tryd.params3]at hA hval
 obtain⟨v0,vs0,d0,ds0,p0,q0,hargs,rfl,rfl,h0,r0⟩:=trodAll_cons hA
 obtain⟨v1,vs1,d1,ds1,p1,q1,rfl,rfl,rfl,h1,r1⟩:=trodAll_cons r0
 obtain⟨rfl,rfl,rfl⟩:=trodAll_nil r1
 obtain rfl:args= #[v0,v1]:=by cases args;simp_all
 obtain⟨rfl,rfl⟩:=trodVars_none hV
 have h0k:=h0
 have hlt: ∀ x∈p0++p1,x.block<W.heap.size:=fun x hx=>by
  have:=hW'.lt x (by simpa using hx)
  simpa using this
 obtain⟨f,rfl,rfl,rfl,w1⟩:=open_int Tryd.underlying3 (hval 1 3 v1 rfl rfl) h1
 obtain⟨cs,rfl,_⟩:=okWide_struct oneM (hval 0 32 v0 rfl rfl)
 obtain⟨fuel,hf⟩:=h0
 obtain⟨X,xs,e1,e2,e3,e4⟩:= @Vd.open_ty Go.Ab.ioV H enc Tryd.prog W (fun _=>true) true Rows.uptoBulk Rows.uptoBulkAll (bkOk H) 12 fuel Vd.tMod 32 cs.toList _ otM hf
 have hb:Rows.uptoBulkAll [d0,.lit (.int .i64 f)]≤1048576:=of_decide_eq_true (hcond _ rfl)
 have hn:Vd.cntT Vd.tMod X≤1048576:=by
  simp only[Rows.uptoBulkAll]at hb
  have e4:Vd.cntT Vd.tMod X≤Rows.uptoBulk d0:=e4
  omega
 clear hA0 hval0
 simp only[List.append_nil]at hW'
 obtain⟨k1,k2,k3⟩:=Vd.okE_of Vd.vU e3 hn
 refine(Vd.law3_all k1 k2 k3 f e1 e2 (tabs hL)).mono fun e W' ⟨he,bel⟩=>?_
 subst he
 exact⟨_,rfl,_,_,_,[],_,[],hW',trodAll_mk1 (shut_bool Tryd.underlying4 _),(trodAll_cons_mk (Below.trod laidOut (by kernel_rfl) (of_decide_eq_true (by kernel_rfl)) h0k bel (fun x hx=>hlt x (by simp[hx]))) (trodAll_cons_mk (shut_int Tryd.underlying3 w1) trodAll_mk0)),rfl,bel.frame _,fun h=>by cases h⟩
theorem over:Rows.ValidMarksUptoSaid:=
 OpenClaim.holds_of_cond 3 Tryd.f3 rfl rfl rfl rfl rfl rfl rfl ⟨rfl,rfl,rfl,rfl,rfl⟩ rfl rfl rfl rfl rfl (by kernel_rfl) Tryd.func3 (by kernel_rfl)
  (of_decide_eq_true (by kernel_rfl)) (by unfold Func.isWrapper;first|(rw[if_pos (by decide+kernel)];kernel_rfl)|(rw[if_neg (by decide+kernel)];exact⟨rfl,rfl⟩))
  (fun os started H enc _ F=>by rw[OpenClaim.pre_eq_preRow];exact lifted os started H enc F)
theorem proved:Rows.ValidMarksUptoCardSaid:=
 Claim7.holds_tied_plain_at .later [] [.data,.pinned] true (true,"89771e60ebf9d606a47374b3bd7031c75d115b8b92299e3346af4811873ef9db") false over (fun _ h=>by cases h) (by kernel_rfl) (fun _ h=>by cases h) validMarksUpto_row_tie rfl ⟨rfl,rfl⟩ (by kernel_rfl) rfl
  (fun f fn hf hfn=>by
    obtain rfl:f=3:=Option.some.inj ((show Tryd.prog.funcNamed "plait/plaitlaw15.ValidMarks" =some 3 by kernel_rfl).symm.trans hf) |>.symm
    obtain rfl:fn=Tryd.f3:=(Option.some.inj (Tryd.func3.symm.trans hfn)).symm
    exact⟨by kernel_rfl,fun j t ht=>by
     rw[Tryd.params3]at ht
     have hm:t∈[32,3]:=by simpa using Array.mem_of_getElem? ht
     have hall:([32,3].all fun u=> !Tryd.prog.wantsStandIn u)=true:=by kernel_rfl
     exact(show Tryd.prog.wantsStandIn t=false by simpa using List.all_eq_true.1 hall t hm)⟩)
  (by kernel_rfl)
#print axioms proved
end Go.Proofs.YtooeifemoidnoaaDoor.ValidMarksLaw
