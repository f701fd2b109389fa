/-
  StoreSlots of every input is true, and turns nothing (the tied card). No condition beside the card's own.
-/
import Derived.Test.YtbplobpobnagkaaGreatDoorSY2
import Derived.Test.YtbplobpobnagkaaGreatDoorTtA
import Derived.Test.YtbplobpobnagkaaGreatDoorTtB
import Derived.Test.YtbplobpobnagkaaGreatDoorTtC
import Derived.Lib.SmallJoins
import Derived.Test.YtbplobpobnagkaaGreatDoorRows
import Derived.Test.YtbplobpobnagkaaGreatDoorCards
import Derived.Test.YtbplobpobnagkaaGreatDoorTie
import Derived.WalkKit
import Derived.ProofKit
import Derived.OpenShut
import Derived.Carry
import Derived.Lay
import Derived.SevenTiedAt
import Derived.MakeChecks
import Derived.Stop.Joined
namespace Go.Proofs.YtbplobpobnagkaaGreatDoor.StoreSlotsLaw
open Go.ChangeShapes Go.WideShapes Go.ChangeAt Go.RowKit Go.Joins Go.Deep
set_option maxRecDepth 1000000
set_option linter.unusedVariables false
theorem own0:ownKnob Tryz.prog.godebug=none:=by kernel_rfl
theorem laidOut:laidOutB Tryz.prog=true:=by kernel_rfl
theorem abD(H:Type):Vd.Kx (H:=H) Rows.uptoBulk Rows.uptoBulkAll where
 one d:=by cases d with
  |lit l=>cases l<;>simp[Rows.uptoBulk]
  | _=>simp[Rows.uptoBulk]
 nil:=by simp[Rows.uptoBulkAll]
 cons _ _:=by simp[Rows.uptoBulkAll]
 str _:=by simp[Rows.uptoBulk]
 ae _ _:=by simp only[Rows.uptoBulk];omega
 agg _:=by simp only[Rows.uptoBulk];omega
theorem otL:Vd.W7 Tryz.prog 12 (.ae Vd.i64) 27=true:=by kernel_rfl
theorem otV:Vd.W7 Tryz.prog 12 (.ae Vd.cJ) 65=true:=by kernel_rfl
theorem otO:Vd.W7 Tryz.prog 12 Vd.Vq 67=true:=by kernel_rfl
theorem amo:Tryz.prog.underlying 67=some (.struct (match Tryz.prog.underlying 67 with|some (.struct fs)=>fs| _=> #[])):=by kernel_rfl
set_option maxRecDepth 100000 in
theorem lifted(os:Os)(started:os.Started)(H:Type)(enc:TypeId×Value→H):
 ReturnsInHanded {} Tryz.checked os 5 .any (fun w args=>(Rows.storeSlotsSpec.pre enc Tryz.prog Tryz.f5 [] false w args∧laidMetH Tryz.prog Rows.storeSlotsRow.laid w)∧sizedMet enc Tryz.prog Tryz.f5 (OpenSpec.ofChange Rows.storeSlotsSpec) false w args)
  (Rows.storeSlotsSpec.post enc Tryz.prog Tryz.f5 false true false false):=by
 refine returnsInHanded_of_change_and (C:=Tryz.checked) (X:=fun w _=>laidMetH Tryz.prog Rows.storeSlotsRow.laid w) (fun _ _ _ hh h=>h.of_heap hh) own0 started (by kernel_rfl) Tryz.func5
  (ChangeSpec.witness_shaped (enc:=enc) (C:=Tryz.checked) (os:=os) (X:=fun w _=>laidMetH Tryz.prog Rows.storeSlotsRow.laid w) false (World.laidAll Tryz.prog os Rows.storeSlotsRow.laid) #[.slice none 0 0,.slice none 0 0,.agg #[.int .i64 0,.int .i64 0,.int .u64 0]] 8 (World.laidAll_os _ _ _)
    (World.shaped_of_ZipB (by kernel_rfl) (by kernel_rfl)) (by kernel_rfl) (by kernel_rfl) (by kernel_rfl)
    (by rw[MakeChecks.laidMetH_plain _ _ _ (by kernel_rfl)];exact laidMet_laidAll _ (by kernel_rfl) (by kernel_rfl))) ?_
 intro W base args ds gs before W8 hW _ _ hX _
 have Vr: ∀ (j:Nat) t v,Tryz.f5.params[j]? =some t→args[j]? =some v→Value.okWide Tryz.prog W .any base t v:=W8
 have hW':=hW
 obtain⟨p,q,hA0,hV,rfl,_,_⟩:=hW
 have hA:DataW.TrodAll enc Tryz.prog W 0 (fun _=>true) true Tryz.f5.params.toList args.toList ds p:=hA0
 rw[Tryz.params5]at hA Vr
 obtain⟨v0,vs0,d0,ds0,p0,q0,oy,rfl,rfl,h0,r0⟩:=trodAll_cons hA
 obtain⟨v1,vs1,d1,ds1,p1,q1,rfl,rfl,rfl,h1,r1⟩:=trodAll_cons r0
 obtain⟨v2,Lm,d2,ds2,p2,q2,rfl,rfl,rfl,h2,r2⟩:=trodAll_cons r1
 obtain⟨rfl,rfl,rfl⟩:=trodAll_nil r2
 obtain rfl:args= #[v0,v1,v2]:=by cases args;simp_all
 obtain⟨rfl,rfl⟩:=trodVars_none hV
 have h0k:=h0
 have h1k:=h1
 have h2k:=h2
 have gB: ∀ x∈p0++(p1++p2),x.block<W.heap.size:=fun x hx=>by
  have:=hW'.lt x (by simpa using hx)
  simpa using this
 obtain⟨sa,sl,sc,rfl⟩:=okWide_slice Tryz.underlying27 (Vr 0 27 v0 rfl rfl)
 obtain⟨ta,tl,tc,rfl⟩:=okWide_slice Tryz.underlying65 (Vr 1 65 v1 rfl rfl)
 obtain⟨es,rfl,_⟩:=okWide_struct amo (Vr 2 67 v2 rfl rfl)
 obtain⟨fuel,hf⟩:=h0
 obtain⟨ago,hf1⟩:=h1
 obtain⟨agp,hf2⟩:=h2
 obtain⟨X,xs,e1,e2,e3,_⟩:= @Vd.si Go.Ab.KO H enc Tryz.prog W (fun _=>true) true Rows.uptoBulk Rows.uptoBulkAll (abD H) 12 fuel (.ae Vd.i64) 27 [.slice sa sl sc] _ otL hf
 obtain⟨Y,ys,k1,k2,k3,_⟩:= @Vd.si Go.Ab.KO H enc Tryz.prog W (fun _=>true) true Rows.uptoBulk Rows.uptoBulkAll (abD H) 12 ago (.ae Vd.cJ) 65 [.slice ta tl tc] _ otV hf1
 obtain⟨Z,zs,l1,l2,l3,_⟩:= @Vd.si Go.Ab.KO H enc Tryz.prog W (fun _=>true) true Rows.uptoBulk Rows.uptoBulkAll (abD H) 12 agp Vd.Vq 67 es.toList _ otO hf2
 clear hA0 W8
 simp only[List.append_nil]at hW'
 refine(Vd.P' e1 e2 k1 k2 l1 l2).mono fun e W' ⟨he,bel⟩=>?_
 subst he
 exact⟨_,rfl,_,_,_,[],_,[],hW',trodAll_mk1 (shut_bool Tryz.underlying4 _),(trodAll_cons_mk (Below.trod laidOut (by kernel_rfl) (of_decide_eq_true (by kernel_rfl)) h0k bel (fun x hx=>gB x (by simp[hx]))) (trodAll_cons_mk (Below.trod laidOut (by kernel_rfl) (of_decide_eq_true (by kernel_rfl)) h1k bel (fun x hx=>gB x (by simp[hx]))) (trodAll_cons_mk (Below.trod laidOut (by kernel_rfl) (of_decide_eq_true (by kernel_rfl)) h2k bel (fun x hx=>gB x (by simp[hx]))) trodAll_mk0))),rfl,bel.frame _,fun h=>by cases h⟩
theorem over:Rows.storeSlotsRow.holds Tryz.pinned (OpenSpec.ofChange Rows.storeSlotsSpec):=
 OpenClaim.holds_of_wide 5 Tryz.f5 rfl rfl rfl rfl rfl rfl rfl ⟨rfl,rfl,rfl,rfl,rfl⟩ rfl rfl rfl rfl rfl c5 Tryz.func5 closed
  (of_decide_eq_true (by kernel_rfl)) (by unfold Func.isWrapper;first|(rw[if_pos (by decide+kernel)];kernel_rfl)|(rw[if_neg (by decide+kernel)];exact⟨rfl,rfl⟩))
  (fun os started H enc _=>lifted os started H enc)
theorem proved:Rows.StoreSlotsCardSaid:=
 Claim7.holds_tied_plain_at .later [] [.data,.pinned] true (true,"9b6564bd28683b7fa07f1fddbc14fa365c98ac89f3a163b13a645ade08acb871") false over (fun _ h=>by cases h) c1 (fun _ h=>by cases h) storeSlots_row_tie rfl ⟨rfl,rfl⟩ c2 rfl
  (fun f fn hf hfn=>by
    obtain rfl:f=5:=Option.some.inj (c5.symm.trans hf) |>.symm
    obtain rfl:fn=Tryz.f5:=(Option.some.inj (Tryz.func5.symm.trans hfn)).symm
    exact⟨c3,fun j t ht=>by
     rw[Tryz.params5]at ht
     have hm:t∈[27,65,67]:=by simpa using Array.mem_of_getElem? ht
     exact(show Tryz.prog.wantsStandIn t=false by simpa using List.all_eq_true.1 c4 t hm)⟩)
  c6
#print axioms proved
end Go.Proofs.YtbplobpobnagkaaGreatDoor.StoreSlotsLaw
