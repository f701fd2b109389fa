/-
  InterpMemory of every input is true, and turns nothing (the tied card). No condition beside the card's own.
-/
import Derived.Test.YtjeanplhkkpdmaaGreatDoorSY1
import Derived.Test.YtjeanplhkkpdmaaGreatDoorTvA
import Derived.Test.YtjeanplhkkpdmaaGreatDoorTvB
import Derived.Test.YtjeanplhkkpdmaaGreatDoorTvC
import Derived.Lib.SmallJoins
import Derived.Test.YtjeanplhkkpdmaaGreatDoorRows
import Derived.Test.YtjeanplhkkpdmaaGreatDoorCards
import Derived.Test.YtjeanplhkkpdmaaGreatDoorTie
import Derived.WalkKit
import Derived.ProofKit
import Derived.OpenShut
import Derived.Carry
import Derived.Lay
import Derived.SevenTiedAt
import Derived.MakeChecks
import Derived.Stop.Joined
namespace Go.Proofs.YtjeanplhkkpdmaaGreatDoor.InterpMemoryLaw
open Go.ChangeShapes Go.WideShapes Go.ChangeAt Go.RowKit Go.Joins Go.Deep
set_option maxRecDepth 1000000
set_option linter.unusedVariables false
theorem own0:ownKnob Tryz.prog.godebug=none:=by kernel_rfl
theorem laidOut:laidOutB Tryz.prog=true:=by kernel_rfl
theorem ajF(H:Type):Vd.MT (H:=H) Rows.uptoBulk Rows.uptoBulkAll where
 one d:=by cases d with
  |lit l=>cases l<;>simp[Rows.uptoBulk]
  | _=>simp[Rows.uptoBulk]
 nil:=by simp[Rows.uptoBulkAll]
 cons _ _:=by simp[Rows.uptoBulkAll]
 str _:=by simp[Rows.uptoBulk]
 ca _ _:=by simp only[Rows.uptoBulk];omega
 agg _:=by simp only[Rows.uptoBulk];omega
theorem otI:Vd.otB Tryz.prog 12 Vd.tI 25=true:=by kernel_rfl
theorem otV:Vd.otB Tryz.prog 12 Vd.Ts 60=true:=by kernel_rfl
theorem aoY:Tryz.prog.underlying 25=some (.struct (match Tryz.prog.underlying 25 with|some (.struct fs)=>fs| _=> #[])):=by kernel_rfl
theorem aoZ:Tryz.prog.underlying 60=some (.array 16 (match Tryz.prog.underlying 60 with|some (.array _ e)=>e| _=>0)):=by kernel_rfl
set_option maxRecDepth 100000 in
theorem lifted(os:Os)(started:os.Started)(H:Type)(enc:TypeId×Value→H):
 ReturnsInHanded {} Tryz.checked os 4 .any (fun w args=>(Rows.interpMemorySpec.pre enc Tryz.prog Tryz.f4 [] false w args∧laidMetH Tryz.prog Rows.interpMemoryRow.laid w)∧sizedMet enc Tryz.prog Tryz.f4 (OpenSpec.ofChange Rows.interpMemorySpec) false w args)
  (Rows.interpMemorySpec.post enc Tryz.prog Tryz.f4 false true false false):=by
 refine returnsInHanded_of_change_and (C:=Tryz.checked) (X:=fun w _=>laidMetH Tryz.prog Rows.interpMemoryRow.laid w) (fun _ _ _ hh h=>h.of_heap hh) own0 started (by kernel_rfl) Tryz.func4
  (ChangeSpec.witness_shaped (enc:=enc) (C:=Tryz.checked) (os:=os) (X:=fun w _=>laidMetH Tryz.prog Rows.interpMemoryRow.laid w) false (World.laidAll Tryz.prog os Rows.interpMemoryRow.laid) #[.agg #[.int .i64 0,.int .i64 0,.int .i64 0,.int .u64 0,.int .u64 0,.slice none 0 0],.int .u32 0,.agg #[.int .u8 0,.int .u8 0,.int .u8 0,.int .u8 0,.int .u8 0,.int .u8 0,.int .u8 0,.int .u8 0,.int .u8 0,.int .u8 0,.int .u8 0,.int .u8 0,.int .u8 0,.int .u8 0,.int .u8 0,.int .u8 0]] 8 (World.laidAll_os _ _ _)
    (World.shaped_of_ZipB (by kernel_rfl) (by kernel_rfl)) (by kernel_rfl) (by kernel_rfl) (by kernel_rfl)
    (by rw[MakeChecks.laidMetH_plain _ _ _ (by kernel_rfl)];exact laidMet_laidAll _ (by kernel_rfl) (by kernel_rfl))) ?_
 intro W base args ds gs before aag hW _ _ hX _
 have YR: ∀ (j:Nat) t v,Tryz.f4.params[j]? =some t→args[j]? =some v→Value.okWide Tryz.prog W .any base t v:=aag
 have hW':=hW
 obtain⟨p,q,hA0,hV,rfl,_,_⟩:=hW
 have hA:DataW.TrodAll enc Tryz.prog W 0 (fun _=>true) true Tryz.f4.params.toList args.toList ds p:=hA0
 rw[Tryz.params4]at hA YR
 obtain⟨v0,vs0,d0,ds0,p0,q0,rb,rfl,rfl,h0,r0⟩:=trodAll_cons hA
 obtain⟨v1,vs1,d1,ds1,p1,q1,rfl,rfl,rfl,h1,r1⟩:=trodAll_cons r0
 obtain⟨v2,NI,d2,ds2,p2,q2,rfl,rfl,rfl,h2,r2⟩:=trodAll_cons r1
 obtain⟨rfl,rfl,rfl⟩:=trodAll_nil r2
 obtain rfl:args= #[v0,v1,v2]:=by cases args;simp_all
 obtain⟨rfl,rfl⟩:=trodVars_none hV
 have h0k:=h0
 have h2k:=h2
 obtain⟨ad,rfl,rfl,rfl,wd⟩:=open_int Tryz.underlying52 (YR 1 52 v1 rfl rfl) h1
 have kC: ∀ x∈p0++p2,x.block<W.heap.size:=fun x hx=>by
  have:=hW'.lt x (by simpa using hx)
  simpa using this
 obtain⟨cs,rfl,_⟩:=okWide_struct aoY (YR 0 25 v0 rfl rfl)
 obtain⟨es,rfl⟩:=Vd.I4 aoZ (YR 2 60 v2 rfl rfl)
 obtain⟨fuel,hf⟩:=h0
 obtain⟨ajG,hf2⟩:=h2
 obtain⟨X,xs,e1,e2,e3,_⟩:= @Vd.xf Go.Ab.Yu H enc Tryz.prog W (fun _=>true) true Rows.uptoBulk Rows.uptoBulkAll (ajF H) 12 fuel Vd.tI 25 cs.toList _ otI hf
 obtain⟨Y,ys,k1,k2,k3,_⟩:= @Vd.xf Go.Ab.Yu H enc Tryz.prog W (fun _=>true) true Rows.uptoBulk Rows.uptoBulkAll (ajF H) 12 ajG Vd.Ts 60 es.toList _ otV hf2
 clear hA0 aag
 simp only[List.append_nil]at hW'
 refine(Vd.Tt e3 e1 e2 wd k3 k1 k2).mono fun e W' ⟨he,bel⟩=>?_
 subst he
 exact⟨_,rfl,_,_,_,[],_,[],hW',trodAll_mk1 (shut_bool Tryz.underlying4 _),(trodAll_cons_mk (Below.trod laidOut (by kernel_rfl) (of_decide_eq_true (by kernel_rfl)) h0k bel (fun x hx=>kC x (by simp[hx]))) (trodAll_cons_mk (shut_int Tryz.underlying52 wd) (trodAll_cons_mk (Below.trod laidOut (by kernel_rfl) (of_decide_eq_true (by kernel_rfl)) h2k bel (fun x hx=>kC x (by simp[hx]))) trodAll_mk0))),rfl,bel.frame _,fun h=>by cases h⟩
theorem over:Rows.interpMemoryRow.holds Tryz.pinned (OpenSpec.ofChange Rows.interpMemorySpec):=
 OpenClaim.holds_of_wide 4 Tryz.f4 rfl rfl rfl rfl rfl rfl rfl ⟨rfl,rfl,rfl,rfl,rfl⟩ rfl rfl rfl rfl rfl c5 Tryz.func4 closed
  (of_decide_eq_true (by kernel_rfl)) (by unfold Func.isWrapper;first|(rw[if_pos (by decide+kernel)];kernel_rfl)|(rw[if_neg (by decide+kernel)];exact⟨rfl,rfl⟩))
  (fun os started H enc _=>lifted os started H enc)
theorem proved:Rows.InterpMemoryCardSaid:=
 Claim7.holds_tied_plain_at .later [] [.data,.data,.data,.pinned] true (true,"1f6ee752934f7cec237e9218cc724cbcdf4eaad030786f8f19a2cd58b53a571f") false over (fun _ h=>by cases h) c1 (fun _ h=>by cases h) interpMemory_row_tie rfl ⟨rfl,rfl⟩ c2 rfl
  (fun f fn hf hfn=>by
    obtain rfl:f=4:=Option.some.inj (c5.symm.trans hf) |>.symm
    obtain rfl:fn=Tryz.f4:=(Option.some.inj (Tryz.func4.symm.trans hfn)).symm
    exact⟨c3,fun j t ht=>by
     rw[Tryz.params4]at ht
     have hm:t∈[25,52,60]:=by simpa using Array.mem_of_getElem? ht
     exact(show Tryz.prog.wantsStandIn t=false by simpa using List.all_eq_true.1 c4 t hm)⟩)
  c6
#print axioms proved
end Go.Proofs.YtjeanplhkkpdmaaGreatDoor.InterpMemoryLaw
