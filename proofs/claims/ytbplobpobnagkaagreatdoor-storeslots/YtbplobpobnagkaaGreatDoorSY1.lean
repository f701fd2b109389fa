import Derived.Test.YtbplobpobnagkaaGreatDoorSY0
import Derived.Test.YtbplobpobnagkaaGreatDoorVbS
import Derived.Test.YtbplobpobnagkaaGreatDoorLfJ
import Derived.Test.YtbplobpobnagkaaGreatDoorVdU2
noncomputable section
namespace Go.Ab
open Go.Ab.Lf
def wrF(lk:FuncId->List AV->Option AV)(c:cZ):cZ:=fun f args h=>match lk f args with
 |some v=>.ok v h
 |none=>c f args h
theorem Cu[Io]{P:Program}{lk:FuncId->List AV->Option AV}(ht: ∀ f args v,lk f args=some v->dK P f args v){call:cZ}(hc:eR P call):eR P (wrF lk call):=by
 intro f args h v h' e
 unfold wrF at e
 cases ht1:lk f args with
 |none=>rw[ht1]at e;exact hc f args h v h' e
 |some v1=>
  rw[ht1]at e
  cases e
  obtain⟨k1,k2⟩:=ht f args v ht1
  refine⟨k1,fun g w vs H hv=>?_⟩
  refine(k2 g w vs H.fx H.tb hv).mono ?_
  rintro e w' ⟨x,rfl,K,hx⟩
  obtain⟨g',U3⟩: ∃ g':G,g'=⟨g.m,fun b=>g.fx b∨(w.heap.size<=b/\b<w'.heap.size)⟩:=⟨_,rfl⟩
  have hO: ∀ b,j1 g' h b->j1 g h b:=by
   rintro b ⟨id,cs,s,e,m⟩
   rw[U3]at m
   exact⟨id,cs,s,e,m⟩
  have M:ua g w g' w':=⟨fun _ _ e=>by rw[U3];exact e,fun b i=>by rw[U3];exact .inl i,fun b i=>K.so b (H.fx b i),K.rows⟩
  refine⟨x,g',rfl,⟨K.os,K.tape,K.output,K.size,Nat.le_refl _,M.m,fun b hb _=>K.so b hb,K.rows,M.fx,fun b i=>?_,fun b o=>.inl (hO b o)⟩,⟨fun id jG=>?_,fun id cs e=>?_,fun id xH b s s' cs cs' e1 e2 m1 m2=>?_,fun b i=>?_,nQ.mono M H.tb⟩,?_⟩
  ·rw[U3]at i
   rcases i with i|i
   ·exact .inl i
   ·exact .inr (.inr i.1)
  ·rw[U3];exact H.fresh id jG
  ·obtain⟨b,s,C,el,us,h1,h2,h3,h4,h5⟩:=H.aP id cs e
   have hb:=(Array.getElem?_eq_some_iff.1 h2).1
   refine⟨b,s,C,el,us,M.m _ _ h1,by rw[K.so b hb];exact h2,?_,bL.gg M _ _ h4,h5⟩
   rw[U3]
   rintro(i|i)
   ·exact h3 i
   ·omega
  ·rw[U3]at m1 m2
   exact H.inj id xH b s s' cs cs' e1 e2 m1 m2
  ·rw[U3]at i
   rcases i with i|i
   ·exact Nat.lt_of_lt_of_le (H.fx b i) K.size
   ·exact i.2
  ·refine VR.gg (⟨(fun _ _ e=>by cases e),(fun b i=>by rw[U3];exact .inr i),fun _ _=>rfl,fun _=>Nat.le_refl _⟩:ua _ _ g' w') _ _ hx
end Go.Ab
namespace Go.Ab.Lf
open Go.Ab
end Go.Ab.Lf
namespace Go.Ab
instance KO:Io:=⟨fun _=>0,[]⟩
end Go.Ab
namespace Go.Proofs.Vd
open Go.Ab Go.Ab.Lf Go.RowKit
set_option maxRecDepth 100000
def Qu(f:FuncId):Bool:=Nat.beq f 31||Nat.beq f 32||Nat.beq f 33||Nat.beq f 34||Nat.beq f 35||Nat.beq f 37||Nat.beq f 38||Nat.beq f 39||Nat.beq f 40||Nat.beq f 41||Nat.beq f 79
theorem abw[Io]{f:FuncId}(h:Qu f=true):dK Tryz.prog f [.fk] .fk/\dK Tryz.prog f [.lj 0 []] .fk:=by
 unfold Qu at h
 simp only[Bool.or_eq_true]at h
 rcases h with(((((((((h|h)|h)|h)|h)|h)|h)|h)|h)|h)|h
 ·obtain rfl:=Nat.eq_of_beq_eq_true h;exact⟨Tryz.afW,Tryz.afX⟩
 ·obtain rfl:=Nat.eq_of_beq_eq_true h;exact⟨Tryz.afY,Tryz.afZ⟩
 ·obtain rfl:=Nat.eq_of_beq_eq_true h;exact⟨Tryz.af0,Tryz.af1⟩
 ·obtain rfl:=Nat.eq_of_beq_eq_true h;exact⟨Tryz.af2,Tryz.af3⟩
 ·obtain rfl:=Nat.eq_of_beq_eq_true h;exact⟨Tryz.af4,Tryz.af5⟩
 ·obtain rfl:=Nat.eq_of_beq_eq_true h;exact⟨Tryz.af6,Tryz.af7⟩
 ·obtain rfl:=Nat.eq_of_beq_eq_true h;exact⟨Tryz.af8,Tryz.af9⟩
 ·obtain rfl:=Nat.eq_of_beq_eq_true h;exact⟨Tryz.af',Tryz.aga⟩
 ·obtain rfl:=Nat.eq_of_beq_eq_true h;exact⟨Tryz.agb,Tryz.agc⟩
 ·obtain rfl:=Nat.eq_of_beq_eq_true h;exact⟨Tryz.agd,Tryz.age⟩
 ·obtain rfl:=Nat.eq_of_beq_eq_true h;exact⟨Tryz.agf,Tryz.agh⟩
def U4(f:FuncId)(az:List AV):Option AV:=bif Qu f then(bif jS [.fk] az then some .fk else(bif jS [.lj 0 []] az then some .fk else none))else none
theorem G5[Io]: ∀ f az v,U4 f az=some v->dK Tryz.prog f az v:=by
 intro f az v h
 unfold U4 at h
 cases hc:Qu f with
 |false=>rw[hc]at h;cases h
 |true=>
  obtain⟨k1,k2⟩:=abw hc
  rw[hc,cond_true]at h
  cases h1:jS [.fk] az with
  |true=>rw[h1]at h;cases h;obtain rfl:=jo _ _ h1;exact k1
  |false=>
   rw[h1,cond_false]at h
   cases h2:jS [.lj 0 []] az with
   |true=>rw[h2]at h;cases h;obtain rfl:=jo _ _ h2;exact k2
   |false=>rw[h2]at h;cases h
def ami(n d:Nat):cZ:=wrF U4 (Mt Tryz.gt (wrF U4) n d)
theorem U5[Io](n d:Nat):eR Tryz.prog (ami n d):=Cu G5 (yi (HE Tryz.mixed) Tryz.gts (fun _ hc=>Cu G5 hc) n d)
theorem kn6[Io]:dK Tryz.prog 6 [] (.bool true):=Jw (U5 1000 60) (by kernel_rfl) (by kernel_rfl)
def ER(f:FuncId)(az:List AV):Option AV:=bif Qu f then U4 f az else
 bif Nat.beq f 6 then(match az with| []=>some (.bool true)| _=>none)else none
theorem P6[Io]: ∀ f az v,ER f az=some v->dK Tryz.prog f az v:=by
 intro f az v h
 unfold ER at h
 cases hc:Qu f with
 |true=>rw[hc]at h;exact G5 f az v h
 |false=>
  rw[hc,cond_false]at h
  cases Tv:Nat.beq f 6 with
  |true=>
   rw[Tv,cond_true]at h
   obtain rfl:=Nat.eq_of_beq_eq_true Tv
   split at h
   ·cases h;exact kn6
   ·cases h
  |false=>rw[Tv]at h;cases h
def gZ(n d:Nat):cZ:=wrF ER (Mt Tryz.gt (wrF ER) n d)
theorem U6[Io](n d:Nat):eR Tryz.prog (gZ n d):=Cu P6 (yi (HE Tryz.mixed) Tryz.gts (fun _ hc=>Cu P6 hc) n d)
theorem Cv{f:FuncId}{az:List AV}{v:AV}{h:Hp}(hl:ER f az=some v)(n d:Nat):gZ n d f az h=.ok v h:=by
 show(match ER f az with|some v=>Ro.ok v h|none=>_)=_
 rw[hl]
theorem pq{f:FuncId}{b:dB}(hf:Tryz.xs.get f=some b){n d:Nat}{az:List AV}{h:Hp}(hl:ER f az=none):gZ n (d+1) f az h=yA b.fb n (gZ n d) az h:=by
 show(match ER f az with|some v=>Ro.ok v h|none=>Dn Tryz.gt n (gZ n d) f az h)=_
 rw[hl]
 show Dn Tryz.gt n (gZ n d) f az h=_
 unfold Dn
 rw[Tryz.afV hf]
 rfl
theorem abx{f:FuncId}{b:dB}(hC:Qu f=true)(hf:Tryz.xs.get f=some b): ∀ n d h,yA b.fb n (gZ n d) [.fk] h=.bad/\yA b.fb n (gZ n d) [.lj 0 []] h=.bad:=by
 unfold Qu at hC
 simp only[Bool.or_eq_true]at hC
 rcases hC with(((((((((h|h)|h)|h)|h)|h)|h)|h)|h)|h)|h
 ·obtain rfl:=Nat.eq_of_beq_eq_true h;obtain rfl:b=Tryz.x31:=(Option.some.inj hf).symm;exact fun n d h=>⟨by kernel_rfl,by kernel_rfl⟩
 ·obtain rfl:=Nat.eq_of_beq_eq_true h;obtain rfl:b=Tryz.x32:=(Option.some.inj hf).symm;exact fun n d h=>⟨by kernel_rfl,by kernel_rfl⟩
 ·obtain rfl:=Nat.eq_of_beq_eq_true h;obtain rfl:b=Tryz.x33:=(Option.some.inj hf).symm;exact fun n d h=>⟨by kernel_rfl,by kernel_rfl⟩
 ·obtain rfl:=Nat.eq_of_beq_eq_true h;obtain rfl:b=Tryz.x34:=(Option.some.inj hf).symm;exact fun n d h=>⟨by kernel_rfl,by kernel_rfl⟩
 ·obtain rfl:=Nat.eq_of_beq_eq_true h;obtain rfl:b=Tryz.x35:=(Option.some.inj hf).symm;exact fun n d h=>⟨by kernel_rfl,by kernel_rfl⟩
 ·obtain rfl:=Nat.eq_of_beq_eq_true h;obtain rfl:b=Tryz.x37:=(Option.some.inj hf).symm;exact fun n d h=>⟨by kernel_rfl,by kernel_rfl⟩
 ·obtain rfl:=Nat.eq_of_beq_eq_true h;obtain rfl:b=Tryz.x38:=(Option.some.inj hf).symm;exact fun n d h=>⟨by kernel_rfl,by kernel_rfl⟩
 ·obtain rfl:=Nat.eq_of_beq_eq_true h;obtain rfl:b=Tryz.x39:=(Option.some.inj hf).symm;exact fun n d h=>⟨by kernel_rfl,by kernel_rfl⟩
 ·obtain rfl:=Nat.eq_of_beq_eq_true h;obtain rfl:b=Tryz.x40:=(Option.some.inj hf).symm;exact fun n d h=>⟨by kernel_rfl,by kernel_rfl⟩
 ·obtain rfl:=Nat.eq_of_beq_eq_true h;obtain rfl:b=Tryz.x41:=(Option.some.inj hf).symm;exact fun n d h=>⟨by kernel_rfl,by kernel_rfl⟩
 ·obtain rfl:=Nat.eq_of_beq_eq_true h;obtain rfl:b=Tryz.x79:=(Option.some.inj hf).symm;exact fun n d h=>⟨by kernel_rfl,by kernel_rfl⟩
theorem AX: ∀ f b,bkD f=some b->mT gZ f b:=by
 intro f b hb n d az h c h' e
 unfold bkD at hb
 cases hx:(Nat.beq f 6||Nat.beq f 83)with
 |true=>rw[hx]at hb;cases hb
 |false=>
  rw[hx,cond_false]at hb
  rw[Bool.or_eq_false_iff]at hx
  obtain⟨h6,_⟩:=hx
  cases hC:Qu f with
  |false=>
   rw[pq hb (by unfold ER;rw[hC,h6];rfl)]
   exact e
  |true=>
   obtain⟨q1,q2⟩:=abx hC hb n d h
   have hl:ER f az=none:=by
    unfold ER
    rw[hC,cond_true]
    unfold U4
    rw[hC,cond_true]
    cases h1:jS [.fk] az with
    |true=>obtain rfl:=jo _ _ h1;rw[q1]at e;cases e
    |false=>
     rw[cond_false]
     cases h2:jS [.lj 0 []] az with
     |true=>obtain rfl:=jo _ _ h2;rw[q2]at e;cases e
     |false=>rfl
   rw[pq hb hl]
   exact e
end Go.Proofs.Vd
