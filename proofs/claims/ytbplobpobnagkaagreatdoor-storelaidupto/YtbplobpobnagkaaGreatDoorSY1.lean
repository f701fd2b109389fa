import Derived.Test.YtbplobpobnagkaaGreatDoorSY0
import Derived.Test.YtbplobpobnagkaaGreatDoorVbS
import Derived.Test.YtbplobpobnagkaaGreatDoorLfJ
import Derived.Test.YtbplobpobnagkaaGreatDoorVdU2
noncomputable section
namespace Go.Ab
open Go.Ab.Lf
def wrF(lk:FuncId->List AV->Option AV)(c:cX):cX:=fun f args h=>match lk f args with
 |some v=>.ok v h
 |none=>c f args h
theorem Ca[Io]{P:Program}{lk:FuncId->List AV->Option AV}(ht: ∀ f args v,lk f args=some v->dL P f args v){call:cX}(hc:eQ P call):eQ P (wrF lk call):=by
 intro f args h v h' e
 unfold wrF at e
 cases ht1:lk f args with
 |none=>rw[ht1]at e;exact hc f args h v h' e
 |some v1=>
  rw[ht1]at e
  cases e
  obtain⟨k1,k2⟩:=ht f args v ht1
  refine⟨k1,fun g w vs H hv=>?_⟩
  refine(k2 g w vs H.fw H.tb hv).mono ?_
  rintro e w' ⟨x,rfl,K,hx⟩
  obtain⟨g',UK⟩: ∃ g':G,g'=⟨g.m,fun b=>g.fw b∨(w.heap.size<=b/\b<w'.heap.size)⟩:=⟨_,rfl⟩
  have hO: ∀ b,jW g' h b->jW g h b:=by
   rintro b ⟨id,cs,s,e,m⟩
   rw[UK]at m
   exact⟨id,cs,s,e,m⟩
  have M:tz g w g' w':=⟨fun _ _ e=>by rw[UK];exact e,fun b i=>by rw[UK];exact .inl i,fun b i=>K.rL b (H.fw b i),K.rows⟩
  refine⟨x,g',rfl,⟨K.os,K.tape,K.output,K.size,Nat.le_refl _,M.m,fun b hb _=>K.rL b hb,K.rows,M.fw,fun b i=>?_,fun b o=>.inl (hO b o)⟩,⟨fun id jB=>?_,fun id cs e=>?_,fun id xt b s s' cs cs' e1 e2 m1 m2=>?_,fun b i=>?_,nJ.mono M H.tb⟩,?_⟩
  ·rw[UK]at i
   rcases i with i|i
   ·exact .inl i
   ·exact .inr (.inr i.1)
  ·rw[UK];exact H.fresh id jB
  ·obtain⟨b,s,C,el,us,h1,h2,h3,h4,h5⟩:=H.aL id cs e
   have hb:=(Array.getElem?_eq_some_iff.1 h2).1
   refine⟨b,s,C,el,us,M.m _ _ h1,by rw[K.rL b hb];exact h2,?_,bD.gg M _ _ h4,h5⟩
   rw[UK]
   rintro(i|i)
   ·exact h3 i
   ·omega
  ·rw[UK]at m1 m2
   exact H.inj id xt b s s' cs cs' e1 e2 m1 m2
  ·rw[UK]at i
   rcases i with i|i
   ·exact Nat.lt_of_lt_of_le (H.fw b i) K.size
   ·exact i.2
  ·refine VR.gg (⟨(fun _ _ e=>by cases e),(fun b i=>by rw[UK];exact .inr i),fun _ _=>rfl,fun _=>Nat.le_refl _⟩:tz _ _ g' w') _ _ hx
end Go.Ab
namespace Go.Ab.Lf
open Go.Ab
end Go.Ab.Lf
namespace Go.Ab
instance ioS:Io:=⟨fun _=>0,[]⟩
end Go.Ab
namespace Go.Proofs.Vd
open Go.Ab Go.Ab.Lf Go.RowKit
set_option maxRecDepth 100000
def Ql(f:FuncId):Bool:=Nat.beq f 31||Nat.beq f 32||Nat.beq f 33||Nat.beq f 34||Nat.beq f 35||Nat.beq f 37||Nat.beq f 38||Nat.beq f 39||Nat.beq f 40||Nat.beq f 41||Nat.beq f 79
theorem aaR[Io]{f:FuncId}(h:Ql f=true):dL Tryz.prog f [.fm] .fm/\dL Tryz.prog f [.kX 0 []] .fm:=by
 unfold Ql at h
 simp only[Bool.or_eq_true]at h
 rcases h with(((((((((h|h)|h)|h)|h)|h)|h)|h)|h)|h)|h
 ·obtain rfl:=Nat.eq_of_beq_eq_true h;exact⟨Tryz.afi,Tryz.afj⟩
 ·obtain rfl:=Nat.eq_of_beq_eq_true h;exact⟨Tryz.afk,Tryz.afl⟩
 ·obtain rfl:=Nat.eq_of_beq_eq_true h;exact⟨Tryz.afm,Tryz.afn⟩
 ·obtain rfl:=Nat.eq_of_beq_eq_true h;exact⟨Tryz.afo,Tryz.afp⟩
 ·obtain rfl:=Nat.eq_of_beq_eq_true h;exact⟨Tryz.afq,Tryz.afr⟩
 ·obtain rfl:=Nat.eq_of_beq_eq_true h;exact⟨Tryz.afs,Tryz.aft⟩
 ·obtain rfl:=Nat.eq_of_beq_eq_true h;exact⟨Tryz.afu,Tryz.afv⟩
 ·obtain rfl:=Nat.eq_of_beq_eq_true h;exact⟨Tryz.afw,Tryz.afx⟩
 ·obtain rfl:=Nat.eq_of_beq_eq_true h;exact⟨Tryz.afy,Tryz.afz⟩
 ·obtain rfl:=Nat.eq_of_beq_eq_true h;exact⟨Tryz.afA,Tryz.afB⟩
 ·obtain rfl:=Nat.eq_of_beq_eq_true h;exact⟨Tryz.afC,Tryz.afD⟩
def UL(f:FuncId)(az:List AV):Option AV:=bif Ql f then(bif jO [.fm] az then some .fm else(bif jO [.kX 0 []] az then some .fm else none))else none
theorem GM[Io]: ∀ f az v,UL f az=some v->dL Tryz.prog f az v:=by
 intro f az v h
 unfold UL at h
 cases hc:Ql f with
 |false=>rw[hc]at h;cases h
 |true=>
  obtain⟨k1,k2⟩:=aaR hc
  rw[hc,cond_true]at h
  cases h1:jO [.fm] az with
  |true=>rw[h1]at h;cases h;obtain rfl:=jn _ _ h1;exact k1
  |false=>
   rw[h1,cond_false]at h
   cases h2:jO [.kX 0 []] az with
   |true=>rw[h2]at h;cases h;obtain rfl:=jn _ _ h2;exact k2
   |false=>rw[h2]at h;cases h
def alw(n d:Nat):cX:=wrF UL (Ma Tryz.gt (wrF UL) n d)
theorem UM[Io](n d:Nat):eQ Tryz.prog (alw n d):=Ca GM (xW (Hk Tryz.mixed) Tryz.gts (fun _ hc=>Ca GM hc) n d)
theorem kn6[Io]:dL Tryz.prog 6 [] (.bool true):=Ji (UM 1000 60) (by kernel_rfl) (by kernel_rfl)
def Ey(f:FuncId)(az:List AV):Option AV:=bif Ql f then UL f az else
 bif Nat.beq f 6 then(match az with| []=>some (.bool true)| _=>none)else none
theorem PV[Io]: ∀ f az v,Ey f az=some v->dL Tryz.prog f az v:=by
 intro f az v h
 unfold Ey at h
 cases hc:Ql f with
 |true=>rw[hc]at h;exact GM f az v h
 |false=>
  rw[hc,cond_false]at h
  cases Tn:Nat.beq f 6 with
  |true=>
   rw[Tn,cond_true]at h
   obtain rfl:=Nat.eq_of_beq_eq_true Tn
   split at h
   ·cases h;exact kn6
   ·cases h
  |false=>rw[Tn]at h;cases h
def gZ(n d:Nat):cX:=wrF Ey (Ma Tryz.gt (wrF Ey) n d)
theorem UN[Io](n d:Nat):eQ Tryz.prog (gZ n d):=Ca PV (xW (Hk Tryz.mixed) Tryz.gts (fun _ hc=>Ca PV hc) n d)
theorem Cb{f:FuncId}{az:List AV}{v:AV}{h:Hp}(hl:Ey f az=some v)(n d:Nat):gZ n d f az h=.ok v h:=by
 show(match Ey f az with|some v=>Ro.ok v h|none=>_)=_
 rw[hl]
theorem pd{f:FuncId}{b:dC}(hf:Tryz.xs.get f=some b){n d:Nat}{az:List AV}{h:Hp}(hl:Ey f az=none):gZ n (d+1) f az h=yo b.fb n (gZ n d) az h:=by
 show(match Ey f az with|some v=>Ro.ok v h|none=>C9 Tryz.gt n (gZ n d) f az h)=_
 rw[hl]
 show C9 Tryz.gt n (gZ n d) f az h=_
 unfold C9
 rw[Tryz.afh hf]
 rfl
theorem aaS{f:FuncId}{b:dC}(hC:Ql f=true)(hf:Tryz.xs.get f=some b): ∀ n d h,yo b.fb n (gZ n d) [.fm] h=.bad/\yo b.fb n (gZ n d) [.kX 0 []] h=.bad:=by
 unfold Ql at hC
 simp only[Bool.or_eq_true]at hC
 rcases hC with(((((((((h|h)|h)|h)|h)|h)|h)|h)|h)|h)|h
 ·obtain rfl:=Nat.eq_of_beq_eq_true h;obtain rfl:b=Tryz.x31:=(Option.some.inj hf).symm;exact fun n d h=>⟨by kernel_rfl,by kernel_rfl⟩
 ·obtain rfl:=Nat.eq_of_beq_eq_true h;obtain rfl:b=Tryz.x32:=(Option.some.inj hf).symm;exact fun n d h=>⟨by kernel_rfl,by kernel_rfl⟩
 ·obtain rfl:=Nat.eq_of_beq_eq_true h;obtain rfl:b=Tryz.x33:=(Option.some.inj hf).symm;exact fun n d h=>⟨by kernel_rfl,by kernel_rfl⟩
 ·obtain rfl:=Nat.eq_of_beq_eq_true h;obtain rfl:b=Tryz.x34:=(Option.some.inj hf).symm;exact fun n d h=>⟨by kernel_rfl,by kernel_rfl⟩
 ·obtain rfl:=Nat.eq_of_beq_eq_true h;obtain rfl:b=Tryz.x35:=(Option.some.inj hf).symm;exact fun n d h=>⟨by kernel_rfl,by kernel_rfl⟩
 ·obtain rfl:=Nat.eq_of_beq_eq_true h;obtain rfl:b=Tryz.x37:=(Option.some.inj hf).symm;exact fun n d h=>⟨by kernel_rfl,by kernel_rfl⟩
 ·obtain rfl:=Nat.eq_of_beq_eq_true h;obtain rfl:b=Tryz.x38:=(Option.some.inj hf).symm;exact fun n d h=>⟨by kernel_rfl,by kernel_rfl⟩
 ·obtain rfl:=Nat.eq_of_beq_eq_true h;obtain rfl:b=Tryz.x39:=(Option.some.inj hf).symm;exact fun n d h=>⟨by kernel_rfl,by kernel_rfl⟩
 ·obtain rfl:=Nat.eq_of_beq_eq_true h;obtain rfl:b=Tryz.x40:=(Option.some.inj hf).symm;exact fun n d h=>⟨by kernel_rfl,by kernel_rfl⟩
 ·obtain rfl:=Nat.eq_of_beq_eq_true h;obtain rfl:b=Tryz.x41:=(Option.some.inj hf).symm;exact fun n d h=>⟨by kernel_rfl,by kernel_rfl⟩
 ·obtain rfl:=Nat.eq_of_beq_eq_true h;obtain rfl:b=Tryz.x79:=(Option.some.inj hf).symm;exact fun n d h=>⟨by kernel_rfl,by kernel_rfl⟩
theorem AF: ∀ f b,bkD f=some b->mJ gZ f b:=by
 intro f b hb n d az h c h' e
 unfold bkD at hb
 cases hx:(Nat.beq f 6||Nat.beq f 83)with
 |true=>rw[hx]at hb;cases hb
 |false=>
  rw[hx,cond_false]at hb
  rw[Bool.or_eq_false_iff]at hx
  obtain⟨h6,_⟩:=hx
  cases hC:Ql f with
  |false=>
   rw[pd hb (by unfold Ey;rw[hC,h6];rfl)]
   exact e
  |true=>
   obtain⟨q1,q2⟩:=aaS hC hb n d h
   have hl:Ey f az=none:=by
    unfold Ey
    rw[hC,cond_true]
    unfold UL
    rw[hC,cond_true]
    cases h1:jO [.fm] az with
    |true=>obtain rfl:=jn _ _ h1;rw[q1]at e;cases e
    |false=>
     rw[cond_false]
     cases h2:jO [.kX 0 []] az with
     |true=>obtain rfl:=jn _ _ h2;rw[q2]at e;cases e
     |false=>rfl
   rw[pd hb hl]
   exact e
end Go.Proofs.Vd
