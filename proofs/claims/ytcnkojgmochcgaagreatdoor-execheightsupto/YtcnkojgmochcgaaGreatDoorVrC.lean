import Derived.Test.YtcnkojgmochcgaaGreatDoorVrB
noncomputable section
namespace Go.Ab
open Go.Ab.Lf
instance tv:Io:=⟨fun _=>0,[(0,Lib.deBruijn32tab.map fun n:Nat=>Value.int .u8 (n:Int)),(1,Lib.deBruijn64tab.map fun n:Nat=>Value.int .u8 (n:Int))]⟩
theorem K'{g:G}{w:World}(h: @kY tv g w):Go.Proofs.TabAt 0 Lib.deBruijn32tab w/\Go.Proofs.TabAt 1 Lib.deBruijn64tab w:=by
 have key: ∀ (b:Nat) (l:List Nat),ee w b 0 (l.map fun n:Nat=>Value.int .u8 (n:Int))->Go.Proofs.TabAt b l w:=by
  intro b l h j hj
  have:=h j (Value.int .u8 ((l.getD j 0:Nat):Int)) (by
   rw[List.getElem?_map,List.getElem?_eq_getElem hj,List.getD_eq_getElem?_getD,List.getElem?_eq_getElem hj]
   rfl)
  simpa using this
 exact⟨key _ _ (h _ (List.mem_cons_self)).2,key _ _ (h _ (List.mem_cons_of_mem _ List.mem_cons_self)).2⟩
end Go.Ab
namespace Go.Proofs.Vq
open Go.Ab Go.Ab.Lf Go.RowKit
set_option maxRecDepth 100000
theorem pZ{w:Go.World}:Ct w w:=⟨rfl,rfl,rfl,Nat.le_refl _,fun _ _=>rfl⟩
theorem ahP(x:Int)(h0:0<=x)(h1:x<=4294967295): @cU tv Tryz.prog 49 [.int .u32 x] (.int .i64 (lz 32 x)):=by
 refine⟨Tryz.call49,fun g w vs hi ht hv=>?_⟩
 simp only[bQ,VR]at hv
 obtain⟨v,l,rfl,rfl,rfl⟩:=hv
 refine(Any.bits_LeadingZeros32 Tryz.Qd x w h0 h1).mono ?_
 rintro e w' ⟨rfl,rfl⟩
 exact⟨_,rfl,pZ,by simp only[VR];rfl⟩
theorem ahQ(x:Int)(h0:0<=x)(h1:x<=18446744073709551615): @cU tv Tryz.prog 52 [.int .u64 x] (.int .i64 (lz 64 x)):=by
 refine⟨Tryz.call52,fun g w vs hi ht hv=>?_⟩
 simp only[bQ,VR]at hv
 obtain⟨v,l,rfl,rfl,rfl⟩:=hv
 refine(Any.bits_LeadingZeros64 Tryz.Qe x w h0 h1).mono ?_
 rintro e w' ⟨rfl,rfl⟩
 exact⟨_,rfl,pZ,by simp only[VR];rfl⟩
theorem ahR(x:Int)(h0:0<=x)(h1:x<=4294967295): @cU tv Tryz.prog 50 [.int .u32 x] (.int .i64 (tz 32 x)):=by
 refine⟨Tryz.call50,fun g w vs hi ht hv=>?_⟩
 simp only[bQ,VR]at hv
 obtain⟨v,l,rfl,rfl,rfl⟩:=hv
 obtain⟨a,rfl⟩:=Int.eq_ofNat_of_zero_le h0
 refine(Any7.bits_TrailingZeros32 Tryz.VI a (by omega) w fun _=>(K' ht).1).mono ?_
 rintro e w' ⟨rfl,rfl⟩
 exact⟨_,rfl,pZ,by simp only[VR];rfl⟩
theorem ahS(x:Int)(h0:0<=x)(h1:x<=18446744073709551615): @cU tv Tryz.prog 53 [.int .u64 x] (.int .i64 (tz 64 x)):=by
 refine⟨Tryz.call53,fun g w vs hi ht hv=>?_⟩
 simp only[bQ,VR]at hv
 obtain⟨v,l,rfl,rfl,rfl⟩:=hv
 obtain⟨a,rfl⟩:=Int.eq_ofNat_of_zero_le h0
 refine(Any7.bits_TrailingZeros64 Tryz.VJ a (by omega) w fun _=>(K' ht).2).mono ?_
 rintro e w' ⟨rfl,rfl⟩
 exact⟨_,rfl,pZ,by simp only[VR];rfl⟩
abbrev Qf:Ty:=.pair (.aC bz) (.pair (.aC tZ) (.pair (.aC i64) (.pair (.aC mS) (.pair (.aC mS) (.pair (.aC ua) (.pair (.aC ub) (.pair i64 (.pair (.aC uc) (.pair (.aC ud) (.aC ue))))))))))
def Br:den Qf:=(dh.1,dh.2.1,dh.2.2.1,dh.2.2.2.1,dh.2.2.2.2.1,dh.2.2.2.2.2.1,dh.2.2.2.2.2.2.1,dh.2.2.2.2.2.2.2.1,dh.2.2.2.2.2.2.2.2.1,dh.2.2.2.2.2.2.2.2.2.1,dh.2.2.2.2.2.2.2.2.2.2.1)
def La(f:FuncId):Bool:=Nat.beq f 67||Nat.beq f 69||Nat.beq f 70||Nat.beq f 71||Nat.beq f 72||Nat.beq f 116||Nat.beq f 117||Nat.beq f 118||Nat.beq f 120||Nat.beq f 121||Nat.beq f 122||Nat.beq f 123||Nat.beq f 124||Nat.beq f 221
theorem VL[Io]{f:FuncId}(h:La f=true):cU Tryz.prog f [.eD] .eD/\cU Tryz.prog f [.iw 0 []] .eD:=by
 unfold La at h
 simp only[Bool.or_eq_true]at h
 rcases h with((((((((((((h|h)|h)|h)|h)|h)|h)|h)|h)|h)|h)|h)|h)|h
 ·obtain rfl:=Nat.eq_of_beq_eq_true h;exact⟨Tryz.adf,Tryz.adg⟩
 ·obtain rfl:=Nat.eq_of_beq_eq_true h;exact⟨Tryz.adh,Tryz.adi⟩
 ·obtain rfl:=Nat.eq_of_beq_eq_true h;exact⟨Tryz.adj,Tryz.adk⟩
 ·obtain rfl:=Nat.eq_of_beq_eq_true h;exact⟨Tryz.adl,Tryz.adm⟩
 ·obtain rfl:=Nat.eq_of_beq_eq_true h;exact⟨Tryz.adn,Tryz.ado⟩
 ·obtain rfl:=Nat.eq_of_beq_eq_true h;exact⟨Tryz.Vo,Tryz.Vp⟩
 ·obtain rfl:=Nat.eq_of_beq_eq_true h;exact⟨Tryz.Vr,Tryz.Vt⟩
 ·obtain rfl:=Nat.eq_of_beq_eq_true h;exact⟨Tryz.Vu,Tryz.Vv⟩
 ·obtain rfl:=Nat.eq_of_beq_eq_true h;exact⟨Tryz.Vw,Tryz.Vx⟩
 ·obtain rfl:=Nat.eq_of_beq_eq_true h;exact⟨Tryz.Vy,Tryz.Vz⟩
 ·obtain rfl:=Nat.eq_of_beq_eq_true h;exact⟨Tryz.VA,Tryz.VB⟩
 ·obtain rfl:=Nat.eq_of_beq_eq_true h;exact⟨Tryz.VC,Tryz.VD⟩
 ·obtain rfl:=Nat.eq_of_beq_eq_true h;exact⟨Tryz.VE,Tryz.VF⟩
 ·obtain rfl:=Nat.eq_of_beq_eq_true h;exact⟨Tryz.VG,Tryz.VH⟩
def Qg(f:FuncId)(az:List AV):Option AV:=bif La f then(bif i6 [.eD] az then some .eD else(bif i6 [.iw 0 []] az then some .eD else none))else none
theorem Df[Io]: ∀ f az v,Qg f az=some v->cU Tryz.prog f az v:=by
 intro f az v h
 unfold Qg at h
 cases hc:La f with
 |false=>rw[hc]at h;cases h
 |true=>
  obtain⟨k1,k2⟩:=VL hc
  rw[hc,cond_true]at h
  cases h1:i6 [.eD] az with
  |true=>rw[h1]at h;cases h;obtain rfl:=iC _ _ h1;exact k1
  |false=>
   rw[h1,cond_false]at h
   cases h2:i6 [.iw 0 []] az with
   |true=>rw[h2]at h;cases h;obtain rfl:=iC _ _ h2;exact k2
   |false=>rw[h2]at h;cases h
def ahT(n d:Nat):cY:=EU Qg (rz Tryz.gt (EU Qg) n d)
theorem EW[Io](n d:Nat):dR Tryz.prog (ahT n d):=De Df (vz (DJ Tryz.mixed) Tryz.gts (fun _ hc=>De Df hc) n d)
theorem ahU[Io]:cU Tryz.prog 10 [] (.bool true):=xu (EW 1000 60) (by kernel_rfl) (by kernel_rfl)
theorem adp[Io]:cU Tryz.prog 56 [.agg (canon Qf Br)] (.int .i64 0):=xu (EW 1000 60) (by kernel_rfl) (by kernel_rfl)
theorem ahV[Io]{m:List AV}(h:EV N0 Qf Br m):cU Tryz.prog 56 [.agg m] (.int .i64 0):=by
 refine⟨Tryz.call56,fun g w vs hi ht hv=>adp.2 g w vs hi ht ?_⟩
 simp only[bQ,VR]at hv ⊢
 obtain⟨v,l,rfl,⟨us,rfl,hu⟩,rfl⟩:=hv
 exact⟨_,_,rfl,⟨us,rfl,sb Qf Br m _ h hu⟩,rfl⟩
end Go.Proofs.Vq
