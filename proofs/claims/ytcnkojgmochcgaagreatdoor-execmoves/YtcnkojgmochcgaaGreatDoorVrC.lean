import Derived.Test.YtcnkojgmochcgaaGreatDoorLfN
noncomputable section
namespace Go.Ab
open Go.Ab.Lf
instance pq:Io:=⟨fun _=>0,[(0,Lib.deBruijn32tab.map fun n:Nat=>Value.int .u8 (n:Int)),(1,Lib.deBruijn64tab.map fun n:Nat=>Value.int .u8 (n:Int))]⟩
theorem F5{g:G}{w:World}(h: @gz pq g w):Go.Proofs.TabAt 0 Lib.deBruijn32tab w/\Go.Proofs.TabAt 1 Lib.deBruijn64tab w:=by
 have key: ∀ (b:Nat) (l:List Nat),cO w b 0 (l.map fun n:Nat=>Value.int .u8 (n:Int))->Go.Proofs.TabAt b l w:=by
  intro b l h j hj
  have:=h j (Value.int .u8 ((l.getD j 0:Nat):Int)) (by
   rw[List.getElem?_map,List.getElem?_eq_getElem hj,List.getD_eq_getElem?_getD,List.getElem?_eq_getElem hj]
   rfl)
  simpa using this
 exact⟨key _ _ (h _ (List.mem_cons_self)).2,key _ _ (h _ (List.mem_cons_of_mem _ List.mem_cons_self)).2⟩
end Go.Ab
namespace Go.Proofs.Vq
open Go.Ab Go.Ab.Lf Go.RowKit
set_option maxRecDepth 100000
theorem lN{w:Go.World}:o8 w w:=⟨rfl,rfl,rfl,Nat.le_refl _,fun _ _=>rfl⟩
theorem abv(x:Int)(h0:0<=x)(h1:x<=4294967295): @bL pq Tryz.prog 49 [.int .u32 x] (.int .i64 (lz 32 x)):=by
 refine⟨Tryz.call49,fun g w vs hi ht hv=>?_⟩
 simp only[bq,VR]at hv
 obtain⟨v,l,rfl,rfl,rfl⟩:=hv
 refine(Any.bits_LeadingZeros32 Tryz.JK x w h0 h1).mono ?_
 rintro e w' ⟨rfl,rfl⟩
 exact⟨_,rfl,lN,by simp only[VR];rfl⟩
theorem abw(x:Int)(h0:0<=x)(h1:x<=18446744073709551615): @bL pq Tryz.prog 52 [.int .u64 x] (.int .i64 (lz 64 x)):=by
 refine⟨Tryz.call52,fun g w vs hi ht hv=>?_⟩
 simp only[bq,VR]at hv
 obtain⟨v,l,rfl,rfl,rfl⟩:=hv
 refine(Any.bits_LeadingZeros64 Tryz.JL x w h0 h1).mono ?_
 rintro e w' ⟨rfl,rfl⟩
 exact⟨_,rfl,lN,by simp only[VR];rfl⟩
theorem abx(x:Int)(h0:0<=x)(h1:x<=4294967295): @bL pq Tryz.prog 50 [.int .u32 x] (.int .i64 (tz 32 x)):=by
 refine⟨Tryz.call50,fun g w vs hi ht hv=>?_⟩
 simp only[bq,VR]at hv
 obtain⟨v,l,rfl,rfl,rfl⟩:=hv
 obtain⟨a,rfl⟩:=Int.eq_ofNat_of_zero_le h0
 refine(Any7.bits_TrailingZeros32 Tryz.Pn a (by omega) w fun _=>(F5 ht).1).mono ?_
 rintro e w' ⟨rfl,rfl⟩
 exact⟨_,rfl,lN,by simp only[VR];rfl⟩
theorem aby(x:Int)(h0:0<=x)(h1:x<=18446744073709551615): @bL pq Tryz.prog 53 [.int .u64 x] (.int .i64 (tz 64 x)):=by
 refine⟨Tryz.call53,fun g w vs hi ht hv=>?_⟩
 simp only[bq,VR]at hv
 obtain⟨v,l,rfl,rfl,rfl⟩:=hv
 obtain⟨a,rfl⟩:=Int.eq_ofNat_of_zero_le h0
 refine(Any7.bits_TrailingZeros64 Tryz.Po a (by omega) w fun _=>(F5 ht).2).mono ?_
 rintro e w' ⟨rfl,rfl⟩
 exact⟨_,rfl,lN,by simp only[VR];rfl⟩
abbrev KG:Ty:=.pair (.aB cr) (.pair (.aB pe) (.pair (.aB i64) (.pair (.aB iZ) (.pair (.aB iZ) (.pair (.aB pf) (.pair (.aB pg) (.pair i64 (.pair (.aB ph) (.pair (.aB pj) (.aB pn))))))))))
def xd:den KG:=(bR.1,bR.2.1,bR.2.2.1,bR.2.2.2.1,bR.2.2.2.2.1,bR.2.2.2.2.2.1,bR.2.2.2.2.2.2.1,bR.2.2.2.2.2.2.2.1,bR.2.2.2.2.2.2.2.2.1,bR.2.2.2.2.2.2.2.2.2.1,bR.2.2.2.2.2.2.2.2.2.2.1)
def F6(f:FuncId):Bool:=Nat.beq f 67||Nat.beq f 69||Nat.beq f 70||Nat.beq f 71||Nat.beq f 72||Nat.beq f 116||Nat.beq f 117||Nat.beq f 118||Nat.beq f 120||Nat.beq f 121||Nat.beq f 122||Nat.beq f 123||Nat.beq f 124||Nat.beq f 221
theorem P7[Io]{f:FuncId}(h:F6 f=true):bL Tryz.prog f [.cS] .cS/\bL Tryz.prog f [.fg 0 []] .cS:=by
 unfold F6 at h
 simp only[Bool.or_eq_true]at h
 rcases h with((((((((((((h|h)|h)|h)|h)|h)|h)|h)|h)|h)|h)|h)|h)|h
 ·obtain rfl:=Nat.eq_of_beq_eq_true h;exact⟨Tryz.Wk,Tryz.Wl⟩
 ·obtain rfl:=Nat.eq_of_beq_eq_true h;exact⟨Tryz.Wm,Tryz.Wn⟩
 ·obtain rfl:=Nat.eq_of_beq_eq_true h;exact⟨Tryz.Wo,Tryz.Wp⟩
 ·obtain rfl:=Nat.eq_of_beq_eq_true h;exact⟨Tryz.Wq,Tryz.Wr⟩
 ·obtain rfl:=Nat.eq_of_beq_eq_true h;exact⟨Tryz.Ws,Tryz.Wt⟩
 ·obtain rfl:=Nat.eq_of_beq_eq_true h;exact⟨Tryz.O4,Tryz.O5⟩
 ·obtain rfl:=Nat.eq_of_beq_eq_true h;exact⟨Tryz.O6,Tryz.O7⟩
 ·obtain rfl:=Nat.eq_of_beq_eq_true h;exact⟨Tryz.O8,Tryz.O9⟩
 ·obtain rfl:=Nat.eq_of_beq_eq_true h;exact⟨Tryz.O',Tryz.Pa⟩
 ·obtain rfl:=Nat.eq_of_beq_eq_true h;exact⟨Tryz.Pb,Tryz.Pc⟩
 ·obtain rfl:=Nat.eq_of_beq_eq_true h;exact⟨Tryz.Pd,Tryz.Pe⟩
 ·obtain rfl:=Nat.eq_of_beq_eq_true h;exact⟨Tryz.Pf,Tryz.Pg⟩
 ·obtain rfl:=Nat.eq_of_beq_eq_true h;exact⟨Tryz.Ph,Tryz.Pj⟩
 ·obtain rfl:=Nat.eq_of_beq_eq_true h;exact⟨Tryz.Pk,Tryz.Pm⟩
def KH(f:FuncId)(az:List AV):Option AV:=bif F6 f then(bif fx [.cS] az then some .cS else(bif fx [.fg 0 []] az then some .cS else none))else none
theorem yS[Io]: ∀ f az v,KH f az=some v->bL Tryz.prog f az v:=by
 intro f az v h
 unfold KH at h
 cases hc:F6 f with
 |false=>rw[hc]at h;cases h
 |true=>
  obtain⟨k1,k2⟩:=P7 hc
  rw[hc,cond_true]at h
  cases h1:fx [.cS] az with
  |true=>rw[h1]at h;cases h;obtain rfl:=eZ _ _ h1;exact k1
  |false=>
   rw[h1,cond_false]at h
   cases h2:fx [.fg 0 []] az with
   |true=>rw[h2]at h;cases h;obtain rfl:=eZ _ _ h2;exact k2
   |false=>rw[h2]at h;cases h
def abz(n d:Nat):bP:=AL KH (ng Tryz.gt (AL KH) n d)
theorem AM[Io](n d:Nat):cC Tryz.prog (abz n d):=yR yS (qF (tR Tryz.mixed) Tryz.gts (fun _ hc=>yR yS hc) n d)
theorem abA[Io]:bL Tryz.prog 10 [] (.bool true):=su (AM 1000 60) (by kernel_rfl) (by kernel_rfl)
theorem XB[Io]:bL Tryz.prog 56 [.agg (canon KG xd)] (.int .i64 0):=su (AM 1000 60) (by kernel_rfl) (by kernel_rfl)
theorem abB[Io]{m:List AV}(h:EV N0 KG xd m):bL Tryz.prog 56 [.agg m] (.int .i64 0):=by
 refine⟨Tryz.call56,fun g w vs hi ht hv=>XB.2 g w vs hi ht ?_⟩
 simp only[bq,VR]at hv ⊢
 obtain⟨v,l,rfl,⟨us,rfl,hu⟩,rfl⟩:=hv
 exact⟨_,_,rfl,⟨us,rfl,nJ KG xd m _ h hu⟩,rfl⟩
end Go.Proofs.Vq
