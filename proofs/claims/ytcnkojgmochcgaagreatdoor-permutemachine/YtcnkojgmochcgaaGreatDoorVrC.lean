import Derived.Test.YtcnkojgmochcgaaGreatDoorLfN
import Derived.Test.YtcnkojgmochcgaaGreatDoorVrT
noncomputable section
namespace Go.Ab
open Go.Ab.Lf
instance CX:Io:=⟨fun _=>0,[(0,Lib.deBruijn32tab.map fun n:Nat=>Value.int .u8 (n:Int)),(1,Lib.deBruijn64tab.map fun n:Nat=>Value.int .u8 (n:Int))]⟩
theorem UL{g:G}{w:World}(h: @s7 CX g w):Go.Proofs.TabAt 0 Lib.deBruijn32tab w/\Go.Proofs.TabAt 1 Lib.deBruijn64tab w:=by
 have key: ∀ (b:Nat) (l:List Nat),nF w b 0 (l.map fun n:Nat=>Value.int .u8 (n:Int))->Go.Proofs.TabAt b l w:=by
  intro b l h j hj
  have:=h j (Value.int .u8 ((l.getD j 0:Nat):Int)) (by
   rw[List.getElem?_map,List.getElem?_eq_getElem hj,List.getD_eq_getElem?_getD,List.getElem?_eq_getElem hj]
   rfl)
  simpa using this
 exact⟨key _ _ (h _ (List.mem_cons_self)).2,key _ _ (h _ (List.mem_cons_of_mem _ List.mem_cons_self)).2⟩
end Go.Ab
namespace Go.Proofs.Vq
open Go.Ab Go.Ab.Lf Go.RowKit
set_option maxRecDepth 100000
theorem wS{w:Go.World}:Ki w w:=⟨rfl,rfl,rfl,Nat.le_refl _,fun _ _=>rfl⟩
theorem asp(x:Int)(h0:0<=x)(h1:x<=4294967295): @oe CX Tryz.prog 49 [.int .u32 x] (.int .i64 (lz 32 x)):=by
 refine⟨Tryz.call49,fun g w vs hi ht hv=>?_⟩
 simp only[cH,VR]at hv
 obtain⟨v,l,rfl,rfl,rfl⟩:=hv
 refine(Any.bits_LeadingZeros32 Tryz.ZF x w h0 h1).mono ?_
 rintro e w' ⟨rfl,rfl⟩
 exact⟨_,rfl,wS,by simp only[VR];rfl⟩
theorem asq(x:Int)(h0:0<=x)(h1:x<=18446744073709551615): @oe CX Tryz.prog 52 [.int .u64 x] (.int .i64 (lz 64 x)):=by
 refine⟨Tryz.call52,fun g w vs hi ht hv=>?_⟩
 simp only[cH,VR]at hv
 obtain⟨v,l,rfl,rfl,rfl⟩:=hv
 refine(Any.bits_LeadingZeros64 Tryz.ZG x w h0 h1).mono ?_
 rintro e w' ⟨rfl,rfl⟩
 exact⟨_,rfl,wS,by simp only[VR];rfl⟩
theorem asr(x:Int)(h0:0<=x)(h1:x<=4294967295): @oe CX Tryz.prog 50 [.int .u32 x] (.int .i64 (tz 32 x)):=by
 refine⟨Tryz.call50,fun g w vs hi ht hv=>?_⟩
 simp only[cH,VR]at hv
 obtain⟨v,l,rfl,rfl,rfl⟩:=hv
 obtain⟨a,rfl⟩:=Int.eq_ofNat_of_zero_le h0
 refine(Any7.bits_TrailingZeros32 Tryz.afj a (by omega) w fun _=>(UL ht).1).mono ?_
 rintro e w' ⟨rfl,rfl⟩
 exact⟨_,rfl,wS,by simp only[VR];rfl⟩
theorem ass(x:Int)(h0:0<=x)(h1:x<=18446744073709551615): @oe CX Tryz.prog 53 [.int .u64 x] (.int .i64 (tz 64 x)):=by
 refine⟨Tryz.call53,fun g w vs hi ht hv=>?_⟩
 simp only[cH,VR]at hv
 obtain⟨v,l,rfl,rfl,rfl⟩:=hv
 obtain⟨a,rfl⟩:=Int.eq_ofNat_of_zero_le h0
 refine(Any7.bits_TrailingZeros64 Tryz.afk a (by omega) w fun _=>(UL ht).2).mono ?_
 rintro e w' ⟨rfl,rfl⟩
 exact⟨_,rfl,wS,by simp only[VR];rfl⟩
abbrev tMm:Ty:=.pair (.cp mc) (.pair (.cp AP) (.pair (.cp i64) (.pair (.cp uj) (.pair (.cp uj) (.pair (.cp AQ) (.pair (.cp AR) (.pair i64 (.pair (.cp AU) (.pair (.cp AW) (.cp AX))))))))))
def Iy:den tMm:=(mM.1,mM.2.1,mM.2.2.1,mM.2.2.2.1,mM.2.2.2.2.1,mM.2.2.2.2.2.1,mM.2.2.2.2.2.2.1,mM.2.2.2.2.2.2.2.1,mM.2.2.2.2.2.2.2.2.1,mM.2.2.2.2.2.2.2.2.2.1,mM.2.2.2.2.2.2.2.2.2.2.1)
def Xf(f:FuncId):Bool:=Nat.beq f 67||Nat.beq f 69||Nat.beq f 70||Nat.beq f 71||Nat.beq f 72||Nat.beq f 116||Nat.beq f 117||Nat.beq f 118||Nat.beq f 120||Nat.beq f 121||Nat.beq f 122||Nat.beq f 123||Nat.beq f 124||Nat.beq f 221
theorem afP[Io]{f:FuncId}(h:Xf f=true):oe Tryz.prog f [.pO] .pO/\oe Tryz.prog f [.rJ 0 []] .pO:=by
 unfold Xf at h
 simp only[Bool.or_eq_true]at h
 rcases h with((((((((((((h|h)|h)|h)|h)|h)|h)|h)|h)|h)|h)|h)|h)|h
 ·obtain rfl:=Nat.eq_of_beq_eq_true h;exact Tryz.NF Tryz.call67 Tryz.arP
 ·obtain rfl:=Nat.eq_of_beq_eq_true h;exact Tryz.NF Tryz.call69 Tryz.arQ
 ·obtain rfl:=Nat.eq_of_beq_eq_true h;exact Tryz.NF Tryz.call70 Tryz.arR
 ·obtain rfl:=Nat.eq_of_beq_eq_true h;exact Tryz.NF Tryz.call71 Tryz.arS
 ·obtain rfl:=Nat.eq_of_beq_eq_true h;exact Tryz.NF Tryz.call72 Tryz.arT
 ·obtain rfl:=Nat.eq_of_beq_eq_true h;exact Tryz.NF Tryz.call116 Tryz.ajy
 ·obtain rfl:=Nat.eq_of_beq_eq_true h;exact Tryz.NF Tryz.call117 Tryz.ajz
 ·obtain rfl:=Nat.eq_of_beq_eq_true h;exact Tryz.NF Tryz.call118 Tryz.ajA
 ·obtain rfl:=Nat.eq_of_beq_eq_true h;exact Tryz.NF Tryz.call120 Tryz.ajB
 ·obtain rfl:=Nat.eq_of_beq_eq_true h;exact Tryz.NF Tryz.call121 Tryz.ajC
 ·obtain rfl:=Nat.eq_of_beq_eq_true h;exact Tryz.NF Tryz.call122 Tryz.ajD
 ·obtain rfl:=Nat.eq_of_beq_eq_true h;exact Tryz.NF Tryz.call123 Tryz.ajE
 ·obtain rfl:=Nat.eq_of_beq_eq_true h;exact Tryz.NF Tryz.call124 Tryz.ajF
 ·obtain rfl:=Nat.eq_of_beq_eq_true h;exact Tryz.NF Tryz.call221 Tryz.ajG
def lkC(f:FuncId)(az:List AV):Option AV:=bif Xf f then(bif qL [.pO] az then some .pO else(bif qL [.rJ 0 []] az then some .pO else none))else none
theorem KV[Io]: ∀ f az v,lkC f az=some v->oe Tryz.prog f az v:=by
 intro f az v h
 unfold lkC at h
 cases hc:Xf f with
 |false=>rw[hc]at h;cases h
 |true=>
  obtain⟨k1,k2⟩:=afP hc
  rw[hc,cond_true]at h
  cases h1:qL [.pO] az with
  |true=>rw[h1]at h;cases h;obtain rfl:=qj _ _ h1;exact k1
  |false=>
   rw[h1,cond_false]at h
   cases h2:qL [.rJ 0 []] az with
   |true=>rw[h2]at h;cases h;obtain rfl:=qj _ _ h2;exact k2
   |false=>rw[h2]at h;cases h
def ast(n d:Nat):mS:=JC lkC (vX Tryz.gt (JC lkC) n d)
theorem aao[Io](n d:Nat):nv Tryz.prog (ast n d):=CV KV (vY (Be Tryz.mixed) Tryz.gts (fun _ hc=>CV KV hc) n d)
theorem asu[Io]:oe Tryz.prog 36 [] (.bool true):=zO (aal 100 40) (by kernel_rfl) (by kernel_rfl)
theorem akt[Io]:oe Tryz.prog 56 [.agg (canon tMm Iy)] (.int .i64 0):=zO (aao 1000 60) (by kernel_rfl) (by kernel_rfl)
theorem asv[Io]{m:List AV}(h:EV N0 tMm Iy m):oe Tryz.prog 56 [.agg m] (.int .i64 0):=by
 refine⟨Tryz.call56,fun g w vs hi ht hv=>akt.2 g w vs hi ht ?_⟩
 simp only[cH,VR]at hv ⊢
 obtain⟨v,l,rfl,⟨us,rfl,hu⟩,rfl⟩:=hv
 exact⟨_,_,rfl,⟨us,rfl,y8 tMm Iy m _ h hu⟩,rfl⟩
end Go.Proofs.Vq
