import Derived.Test.YtcnkojgmochcgaaGreatDoorLfN
noncomputable section
namespace Go.Ab
open Go.Ab.Lf
instance oY:Io:=⟨fun _=>0,[(0,Lib.deBruijn32tab.map fun n:Nat=>Value.int .u8 (n:Int)),(1,Lib.deBruijn64tab.map fun n:Nat=>Value.int .u8 (n:Int))]⟩
theorem Gi{g:G}{w:World}(h: @gT oY g w):Go.Proofs.TabAt 0 Lib.deBruijn32tab w/\Go.Proofs.TabAt 1 Lib.deBruijn64tab w:=by
 have key: ∀ (b:Nat) (l:List Nat),cR w b 0 (l.map fun n:Nat=>Value.int .u8 (n:Int))->Go.Proofs.TabAt b l w:=by
  intro b l h j hj
  have:=h j (Value.int .u8 ((l.getD j 0:Nat):Int)) (by
   rw[List.getElem?_map,List.getElem?_eq_getElem hj,List.getD_eq_getElem?_getD,List.getElem?_eq_getElem hj]
   rfl)
  simpa using this
 exact⟨key _ _ (h _ (List.mem_cons_self)).2,key _ _ (h _ (List.mem_cons_of_mem _ List.mem_cons_self)).2⟩
end Go.Ab
namespace Go.Proofs.Vq
open Go.Ab Go.Ab.Lf Go.RowKit
set_option maxRecDepth 100000
theorem lJ{w:Go.World}:pf w w:=⟨rfl,rfl,rfl,Nat.le_refl _,fun _ _=>rfl⟩
theorem abc(x:Int)(h0:0<=x)(h1:x<=4294967295): @bQ oY Tryz.prog 49 [.int .u32 x] (.int .i64 (lz 32 x)):=by
 refine⟨Tryz.call49,fun g w vs hi ht hv=>?_⟩
 simp only[bA,VR]at hv
 obtain⟨v,l,rfl,rfl,rfl⟩:=hv
 refine(Any.bits_LeadingZeros32 Tryz.JX x w h0 h1).mono ?_
 rintro e w' ⟨rfl,rfl⟩
 exact⟨_,rfl,lJ,by simp only[VR];rfl⟩
theorem abd(x:Int)(h0:0<=x)(h1:x<=18446744073709551615): @bQ oY Tryz.prog 52 [.int .u64 x] (.int .i64 (lz 64 x)):=by
 refine⟨Tryz.call52,fun g w vs hi ht hv=>?_⟩
 simp only[bA,VR]at hv
 obtain⟨v,l,rfl,rfl,rfl⟩:=hv
 refine(Any.bits_LeadingZeros64 Tryz.JY x w h0 h1).mono ?_
 rintro e w' ⟨rfl,rfl⟩
 exact⟨_,rfl,lJ,by simp only[VR];rfl⟩
theorem abe(x:Int)(h0:0<=x)(h1:x<=4294967295): @bQ oY Tryz.prog 50 [.int .u32 x] (.int .i64 (tz 32 x)):=by
 refine⟨Tryz.call50,fun g w vs hi ht hv=>?_⟩
 simp only[bA,VR]at hv
 obtain⟨v,l,rfl,rfl,rfl⟩:=hv
 obtain⟨a,rfl⟩:=Int.eq_ofNat_of_zero_le h0
 refine(Any7.bits_TrailingZeros32 Tryz.Pd a (by omega) w fun _=>(Gi ht).1).mono ?_
 rintro e w' ⟨rfl,rfl⟩
 exact⟨_,rfl,lJ,by simp only[VR];rfl⟩
theorem abf(x:Int)(h0:0<=x)(h1:x<=18446744073709551615): @bQ oY Tryz.prog 53 [.int .u64 x] (.int .i64 (tz 64 x)):=by
 refine⟨Tryz.call53,fun g w vs hi ht hv=>?_⟩
 simp only[bA,VR]at hv
 obtain⟨v,l,rfl,rfl,rfl⟩:=hv
 obtain⟨a,rfl⟩:=Int.eq_ofNat_of_zero_le h0
 refine(Any7.bits_TrailingZeros64 Tryz.Pe a (by omega) w fun _=>(Gi ht).2).mono ?_
 rintro e w' ⟨rfl,rfl⟩
 exact⟨_,rfl,lJ,by simp only[VR];rfl⟩
abbrev KM:Ty:=.pair (.aC cx) (.pair (.aC ph) (.pair (.aC i64) (.pair (.aC ji) (.pair (.aC ji) (.pair (.aC pj) (.pair (.aC pn) (.pair i64 (.pair (.aC po) (.pair (.aC pq) (.aC pw))))))))))
def xi:den KM:=(bW.1,bW.2.1,bW.2.2.1,bW.2.2.2.1,bW.2.2.2.2.1,bW.2.2.2.2.2.1,bW.2.2.2.2.2.2.1,bW.2.2.2.2.2.2.2.1,bW.2.2.2.2.2.2.2.2.1,bW.2.2.2.2.2.2.2.2.2.1,bW.2.2.2.2.2.2.2.2.2.2.1)
def G3(f:FuncId):Bool:=Nat.beq f 67||Nat.beq f 69||Nat.beq f 70||Nat.beq f 71||Nat.beq f 72||Nat.beq f 116||Nat.beq f 117||Nat.beq f 118||Nat.beq f 120||Nat.beq f 121||Nat.beq f 122||Nat.beq f 123||Nat.beq f 124||Nat.beq f 221
theorem P0[Io]{f:FuncId}(h:G3 f=true):bQ Tryz.prog f [.cW] .cW/\bQ Tryz.prog f [.fc 0 []] .cW:=by
 unfold G3 at h
 simp only[Bool.or_eq_true]at h
 rcases h with((((((((((((h|h)|h)|h)|h)|h)|h)|h)|h)|h)|h)|h)|h)|h
 ·obtain rfl:=Nat.eq_of_beq_eq_true h;exact⟨Tryz.V5,Tryz.V6⟩
 ·obtain rfl:=Nat.eq_of_beq_eq_true h;exact⟨Tryz.V7,Tryz.V8⟩
 ·obtain rfl:=Nat.eq_of_beq_eq_true h;exact⟨Tryz.V9,Tryz.V'⟩
 ·obtain rfl:=Nat.eq_of_beq_eq_true h;exact⟨Tryz.Wa,Tryz.Wb⟩
 ·obtain rfl:=Nat.eq_of_beq_eq_true h;exact⟨Tryz.Wc,Tryz.Wd⟩
 ·obtain rfl:=Nat.eq_of_beq_eq_true h;exact⟨Tryz.OW,Tryz.OX⟩
 ·obtain rfl:=Nat.eq_of_beq_eq_true h;exact⟨Tryz.OY,Tryz.OZ⟩
 ·obtain rfl:=Nat.eq_of_beq_eq_true h;exact⟨Tryz.O0,Tryz.O1⟩
 ·obtain rfl:=Nat.eq_of_beq_eq_true h;exact⟨Tryz.O2,Tryz.O3⟩
 ·obtain rfl:=Nat.eq_of_beq_eq_true h;exact⟨Tryz.O4,Tryz.O5⟩
 ·obtain rfl:=Nat.eq_of_beq_eq_true h;exact⟨Tryz.O6,Tryz.O7⟩
 ·obtain rfl:=Nat.eq_of_beq_eq_true h;exact⟨Tryz.O8,Tryz.O9⟩
 ·obtain rfl:=Nat.eq_of_beq_eq_true h;exact⟨Tryz.O',Tryz.Pa⟩
 ·obtain rfl:=Nat.eq_of_beq_eq_true h;exact⟨Tryz.Pb,Tryz.Pc⟩
def KN(f:FuncId)(az:List AV):Option AV:=bif G3 f then(bif fv [.cW] az then some .cW else(bif fv [.fc 0 []] az then some .cW else none))else none
theorem y0[Io]: ∀ f az v,KN f az=some v->bQ Tryz.prog f az v:=by
 intro f az v h
 unfold KN at h
 cases hc:G3 f with
 |false=>rw[hc]at h;cases h
 |true=>
  obtain⟨k1,k2⟩:=P0 hc
  rw[hc,cond_true]at h
  cases h1:fv [.cW] az with
  |true=>rw[h1]at h;cases h;obtain rfl:=eU _ _ h1;exact k1
  |false=>
   rw[h1,cond_false]at h
   cases h2:fv [.fc 0 []] az with
   |true=>rw[h2]at h;cases h;obtain rfl:=eU _ _ h2;exact k2
   |false=>rw[h2]at h;cases h
def abg(n d:Nat):bV:=AT KN (na Tryz.gt (AT KN) n d)
theorem AU[Io](n d:Nat):cI Tryz.prog (abg n d):=yZ y0 (qM (tZ Tryz.mixed) Tryz.gts (fun _ hc=>yZ y0 hc) n d)
theorem abh[Io]:bQ Tryz.prog 10 [] (.bool true):=sH (AU 1000 60) (by kernel_rfl) (by kernel_rfl)
theorem Xg[Io]:bQ Tryz.prog 56 [.agg (canon KM xi)] (.int .i64 0):=sH (AU 1000 60) (by kernel_rfl) (by kernel_rfl)
theorem abi[Io]{m:List AV}(h:EV N0 KM xi m):bQ Tryz.prog 56 [.agg m] (.int .i64 0):=by
 refine⟨Tryz.call56,fun g w vs hi ht hv=>Xg.2 g w vs hi ht ?_⟩
 simp only[bA,VR]at hv ⊢
 obtain⟨v,l,rfl,⟨us,rfl,hu⟩,rfl⟩:=hv
 exact⟨_,_,rfl,⟨us,rfl,nG KM xi m _ h hu⟩,rfl⟩
end Go.Proofs.Vq
