import Derived.Test.YtcnkojgmochcgaaGreatDoorAb17
import Derived.KernelRfl
import Derived.Below
import Derived.Lib.SmallJoins
noncomputable section
namespace Go.Ab
variable [Io]
section
variable {P:Program}{call:bV}
def Cv(f:dh):Prop:= ∀ t h v h',f t h=.ok v h'->h'=h
omit [Io] in
theorem tX{b:Bool}{x:Ro}{v:AV}{h:Hp}(e:(bif b then x else .bad)=.ok v h):x=.ok v h:=by cases b;cases e;exact e
omit [Io] in
theorem iF:Cv bE:=by intro t h v h' e;cases e
omit [Io] in
theorem D4{c:Bool}{f:dh}(i:Cv f):Cv (ek c f bE):=by cases c;exact iF;exact i
omit [Io] in
theorem IP{n:Nat}{b:Bool}{x:dk}:Cv (ae n b x):=by
 intro t h v h' e
 unfold ae at e
 split at e
 ·split at e
  ·cases e;rfl
  ·cases e
 ·cases e
omit [Io] in
theorem BQ{x:dk}{lo hi:Option dk}:Cv (ct x lo hi):=by
 intro t h v h' e
 unfold ct at e
 split at e
 ·split at e
  ·cases e;rfl
  ·cases e
 ·cases e
omit [Io] in
theorem D5{n:Nat}{x:dk}{lo hi:Option dk}:Cv (iZ n x lo hi):=by
 intro t h v h' e
 unfold iZ at e
 split at e
 ·split at e
  ·cases e;rfl
  ·cases e
 ·split at e
  ·have e:=tX e
   cases e;rfl
  ·cases e
 ·split at e
  ·cases e;rfl
  ·cases e
 ·cases e
omit [Io] in
theorem BR{n:Nat}{x:dk}{lo hi:Option dk}:Cv (bM n x lo hi):=by
 intro t h v h' e
 unfold bM at e
 split at e
 ·rename_i a hx
  cases hE:lX a with
  |false=>rw[hE]at e;exact D5 _ _ _ _ e
  |true=>
   rw[hE]at e
   simp only[cond_true]at e
   split at e
   ·cases e;rfl
   ·cases e
 ·cases e
omit [Io] in
theorem BS{n m:Nat}{x:dk}{lo hi:Option dk}:Cv (en n m x lo hi):=by
 intro t h v h' e
 unfold en at e
 split at e
 ·split at e
  ·split at e
   ·have e:=tX e
    cases e;rfl
   ·cases e
  ·cases e
 ·cases e
omit [Io] in
theorem Ny{x y z:dk}:Cv (qa x y z):=by
 intro t h v h' e
 unfold qa at e
 split at e
 ·split at e
  ·have e:=tX e
   split at e
   ·cases e;rfl
   ·cases e;rfl
   ·cases e;rfl
   ·cases e
  ·cases e
 ·cases e
omit [Io] in
theorem Nz{o:Op}(hc:(jM P call o).1=.p1):Cv (jM P call o).2:=by
 cases o<;>simp only[jM]at hc ⊢
 case load T x=>
  unfold vC
  split
  ·split
   ·exact IP
   ·exact iF
  ·exact iF
 case slice T x lo hi mx=>
  cases mx with
  |some m=>
   simp only
   unfold mP
   split
   ·split
    ·split
     ·exact Ny
     ·exact iF
    ·exact iF
   ·exact iF
  |none=>
   simp only
   unfold qz
   split
   ·exact BQ
   ·split
    ·exact BR
    ·exact iF
   ·split
    ·exact D4 BS
    ·exact iF
   ·exact iF
 case binOp op T x y yT=>cases h:vB P op T<;>rw[h]at hc<;>cases hc
 case unOp op T x=>cases h:Nn op<;>rw[h]at hc<;>cases hc
 case convert S D x=>
  cases h:P.underlying D with
  |none=>rw[h]at hc;cases hc
  |some d=>cases d<;>rw[h]at hc<;>cases hc
 case makeFunc f first caps=>
  cases f<;>try (cases hc;done)
  simp only at hc
  cases h:first.toList<;>rw[h]at hc<;>cases hc
 case makeMap T r=>cases r<;>cases hc
 case call c=>cases h:eR P c<;>rw[h]at hc<;>cases hc
 all_goals (cases hc)
omit [Io] in
theorem D6{nt:Nat}{all:List Oper}{o:Oper}(dL:(jM P call o.op).1=.p1):Cv (gA P call nt all o):=by
 have hf:Cv (jM P call o.op).2:=Nz dL
 unfold gA
 cases o.guard with
 |none=>exact hf
 |some p=>
  obtain⟨j,want⟩:=p
  simp only
  split
  ·split
   ·refine D4 ?_
    intro t h v h' e
    unfold gF at e
    split at e
    ·rename_i b _
     cases hw:ek want b (!b)with
     |false=>rw[hw]at e;cases e;rfl
     |true=>rw[hw]at e;exact hf t h v h' e
    ·cases e;rfl
    ·cases e
   ·exact iF
  ·exact iF
end
omit [Io] in
theorem jy{b x:Bool}(h:(Bool.rec true x b:Bool)=true)(hb:b=true):x=true:=by subst hb;exact h
namespace Cx
variable {c:Cx}
omit [Io] in
theorem fY{k:Cl}{i:Nat}:mW c.P c.call c.ops.toList k i=true↔c.cz i k:=by
 unfold mW cz
 rw[ec]
 constructor
 ·intro h
  split at h
  ·rename_i o ho
   exact⟨o,by simpa using ho,D3 h⟩
  ·cases h
 ·rintro⟨o,ho,hk⟩
  have:c.ops.toList[i]? =some o:=by simpa using ho
  rw[this,<-hk]
  simp only
  cases(jM c.P c.call o.op).1<;>rfl
omit [Io] in
theorem qK{bN:List Nat}{i:Nat}(h:xA c.nt c.ops.toList bN i=true): ∀ u∈c.GW i,u<c.nt/\((∀ j,c.ik j u->j∈bN/\c.An i j)∨ ∀ j,c.ik j u->j∉bN/\c.An j i/\ ¬ c.An i j):=by
 unfold xA at h
 rw[ec]at h
 unfold GW
 intro u hu
 cases ho:c.ops[i]? with
 |none=>rw[ho]at hu;cases hu
 |some o=>
  rw[ho]at hu
  have:c.ops.toList[i]? =some o:=by simpa using ho
  rw[this]at h
  simp only[eJ,List.all_eq_true]at h
  have:=h u hu
  rw[Bool.and_eq_true]at this
  refine⟨bt.1 this.1,?_⟩
  cases h1:allI (fun j o'=>Bool.rec true (gM j bN&&x7 c.ops.toList i j) (sE o' u)) c.ops.toList 0 with
  |true=>
   refine .inl ?_
   rintro j ⟨oj,Zb,hd⟩
   have h2:=jy (gk h1 j oj (by simpa using Zb)) (oc hd)
   rw[Bool.and_eq_true,gj]at h2
   exact h2
  |false=>
   rw[h1]at this
   refine .inr ?_
   rintro j ⟨oj,Zb,hd⟩
   have h2:=jy (gk this.2 j oj (by simpa using Zb)) (oc hd)
   simp only[Bool.and_eq_true,Bool.not_eq_true']at h2
   refine⟨fun k=>?_,h2.2.1,fun k=>?_⟩
   ·rw[gj.2 k]at h2;cases h2.1
   ·unfold An at k;rw[k]at h2;cases h2.2.2
def Cov(c:Cx)(bN:List Nat)(u:Nat):Prop:= ∀ j,c.ik j u->j∈bN
def Lw(c:Cx)(bN:List Nat)(t:Tm):Prop:= ∀ u,u<512->(∀ j,c.ik j u->j∉bN)->t.at u=c.t0.at u
def Fr(c:Cx)(bN:List Nat)(t:Tm):Prop:= ∀ u,u<512->c.Cov bN u->c.te.at u=t.at u
omit [Io] in
theorem mX{i:Nat}{k:iu}{t:Tm}{h:Hp}{te:Tm}{hE:Hp}(e:IN c.P c.call c.nt c.ops.toList i k t h=.ok te hE):
 ∃ o v h1 t1,c.ops[i]? =some o/\gA c.P c.call c.nt c.ops.toList o t h=.ok v h1/\k t1 h1=.ok te hE/\((∃ d,o.dst=some d/\d<c.nt/\t1=sT d v t)∨(o.dst=none/\t1=t)):=by
 unfold IN at e
 rw[ec]at e
 cases ho:c.ops.toList[i]? with
 |none=>rw[ho]at e;cases e
 |some o=>
  rw[ho]at e
  simp only at e
  have il:c.ops[i]? =some o:=by simpa using ho
  cases hd:o.dst with
  |none=>
   rw[hd]at e
   change sn (gA c.P c.call c.nt c.ops.toList o) k t h=_ at e
   unfold sn at e
   cases hg:gA c.P c.call c.nt c.ops.toList o t h with
   |bad=>rw[hg]at e;cases e
   |ok v h1=>rw[hg]at e;exact⟨o,v,h1,t,il,hg,e,.inr ⟨hd,rfl⟩⟩
  |some d=>
   rw[hd]at e
   simp only at e
   cases hb:Nat.blt d c.nt with
   |false=>rw[hb]at e;cases e
   |true=>
    rw[hb]at e
    change st (sT d) (gA c.P c.call c.nt c.ops.toList o) k t h=_ at e
    unfold st at e
    cases hg:gA c.P c.call c.nt c.ops.toList o t h with
    |bad=>rw[hg]at e;cases e
    |ok v h1=>rw[hg]at e;exact⟨o,v,h1,_,il,hg,e,.inl ⟨d,hd,bt.1 hb,rfl⟩⟩
omit [Io] in
theorem zJ{f:dh}{t:Tm}{h h':Hp}{v:AV}(e:mn f t h=.ok v h'):f t h=.ok v h'/\h.next<=h'.next:=by
 unfold mn at e
 cases hf:f t h with
 |bad=>rw[hf]at e;cases e
 |ok v1 h1=>
  rw[hf]at e
  change (Bool.rec Ro.bad (Ro.ok v1 h1) (Nat.ble h.next h1.next):Ro)=_ at e
  cases hb:Nat.ble h.next h1.next with
  |false=>rw[hb]at e;cases e
  |true=>rw[hb]at e;cases e;exact⟨rfl,Nat.ble_eq.mp hb⟩
omit [Io] in
theorem vR{i:Nat}{k:iu}{t:Tm}{h:Hp}{te:Tm}{hE:Hp}(e:runM c.P c.call c.nt c.ops.toList i k t h=.ok te hE):
 ∃ o v h1 t1,c.ops[i]? =some o/\gA c.P c.call c.nt c.ops.toList o t h=.ok v h1/\h.next<=h1.next/\k t1 h1=.ok te hE/\((∃ d,o.dst=some d/\d<c.nt/\t1=sT d v t)∨(o.dst=none/\t1=t)):=by
 unfold runM at e
 rw[ec]at e
 cases ho:c.ops.toList[i]? with
 |none=>rw[ho]at e;cases e
 |some o=>
  rw[ho]at e
  simp only at e
  have il:c.ops[i]? =some o:=by simpa using ho
  cases hd:o.dst with
  |none=>
   rw[hd]at e
   change sn (mn (gA c.P c.call c.nt c.ops.toList o)) k t h=_ at e
   unfold sn at e
   cases hg:mn (gA c.P c.call c.nt c.ops.toList o) t h with
   |bad=>rw[hg]at e;cases e
   |ok v h1=>rw[hg]at e;exact⟨o,v,h1,t,il,(zJ hg).1,(zJ hg).2,e,.inr ⟨hd,rfl⟩⟩
  |some d=>
   rw[hd]at e
   simp only at e
   cases hb:Nat.blt d c.nt with
   |false=>rw[hb]at e;cases e
   |true=>
    rw[hb]at e
    change st (sT d) (mn (gA c.P c.call c.nt c.ops.toList o)) k t h=_ at e
    unfold st at e
    cases hg:mn (gA c.P c.call c.nt c.ops.toList o) t h with
    |bad=>rw[hg]at e;cases e
    |ok v h1=>rw[hg]at e;exact⟨o,v,h1,_,il,(zJ hg).1,(zJ hg).2,e,.inl ⟨d,hd,bt.1 hb,rfl⟩⟩
omit [Io] in
theorem vS{i:Nat}{k:iu}{t:Tm}{h:Hp}{te:Tm}{hE:Hp}(hc:c.cz i .p1)(e:Nw c.P c.call c.nt c.ops.toList i k t h=.ok te hE):
 ∃ o v,c.ops[i]? =some o/\gA c.P c.call c.nt c.ops.toList o t h=.ok v h/\k t h=.ok te hE/\ ∀ d,o.dst=some d->d<c.nt/\t.at d=some v:=by
 unfold Nw at e
 rw[ec]at e
 cases ho:c.ops.toList[i]? with
 |none=>rw[ho]at e;cases e
 |some o=>
  rw[ho]at e
  simp only at e
  have il:c.ops[i]? =some o:=by simpa using ho
  have XY: ∀ v h1,gA c.P c.call c.nt c.ops.toList o t h=.ok v h1->h1=h:=by
   intro v h1 hg
   obtain⟨o',ju,Cs⟩:=hc
   rw[il]at ju
   cases ju
   exact D6 Cs _ _ _ _ hg
  cases hd:o.dst with
  |none=>
   rw[hd]at e
   change sn (gA c.P c.call c.nt c.ops.toList o) k t h=_ at e
   unfold sn at e
   cases hg:gA c.P c.call c.nt c.ops.toList o t h with
   |bad=>rw[hg]at e;cases e
   |ok v h1=>
    rw[hg]at e
    obtain rfl:=XY v h1 hg
    exact⟨o,v,il,hg,e,fun d h=>by rw[hd]at h;cases h⟩
  |some d=>
   rw[hd]at e
   simp only at e
   cases hb:Nat.blt d c.nt with
   |false=>rw[hb]at e;cases e
   |true=>
    rw[hb]at e
    change ck (oT d) (gA c.P c.call c.nt c.ops.toList o) k t h=_ at e
    unfold ck at e
    cases hg:gA c.P c.call c.nt c.ops.toList o t h with
    |bad=>rw[hg]at e;cases e
    |ok v h1=>
     rw[hg]at e
     obtain rfl:=XY v h1 hg
     change (Option.rec Rt.bad (fun u=>Bool.rec Rt.bad (k t h1) (iK u v)) (t.at d):Rt)=_ at e
     cases ht:t.at d with
     |none=>rw[ht]at e;cases e
     |some u=>
      rw[ht]at e
      change (Bool.rec Rt.bad (k t h1) (iK u v):Rt)=_ at e
      cases hq:iK u v with
      |false=>rw[hq]at e;cases e
      |true=>
       rw[hq]at e
       obtain rfl:=pM _ _ hq
       exact⟨o,u,il,hg,e,fun d' h=>by rw[hd]at h;cases h;exact⟨bt.1 hb,ht⟩⟩
omit [Io] in
theorem mY{bN:List Nat}{i:Nat}{o:Oper}{t t1:Tm}{v:AV}(eS:c.nt<=512)(ho:c.ops[i]? =some o)(hi:i∉bN)
 (ht:(∃ d,o.dst=some d/\d<c.nt/\t1=sT d v t)∨(o.dst=none/\t1=t))(F:c.Fr (i::bN) t1):c.Fr bN t:=by
 intro u hu hc
 rw[F u hu (fun j hj=>List.mem_cons_of_mem _ (hc j hj))]
 rcases ht with⟨d,hd,Ct,rfl⟩|⟨_,rfl⟩
 ·show(Tm.put t d (some v)).at u=t.at u
  rw[Tm.fh _ _ _ _ (Nat.lt_of_lt_of_le Ct eS) hu,if_neg]
  intro e
  subst e
  exact hi (hc i ⟨o,ho,hd⟩)
 ·rfl
omit [Io] in
theorem jz{i:Nat}{l:List Nat}(h:gM i l=false):i∉l:=fun k=>by rw[gj.2 k]at h;cases h
omit [Io] in
theorem lB(eS:c.nt<=512){k:List Nat->iu}(hk: ∀ bN t h,k bN t h=.ok c.te c.hE->c.Fr bN t): ∀ (pre bN:List Nat) (t:Tm) (h:Hp),
 vQ c.P c.call c.nt c.ops.toList pre bN k t h=.ok c.te c.hE->c.Fr bN t
 | [],bN,t,h,e=>hk bN t h e
 |i::l,bN,t,h,e=>by
  unfold vQ at e
  cases h1:xA c.nt c.ops.toList bN i with
  |false=>rw[h1]at e;cases e
  |true=>
  rw[h1]at e
  simp only[ek]at e
  cases h2:gM i bN with
  |true=>
   rw[h2]at e
   cases h3:mW c.P c.call c.ops.toList .p1 i with
   |false=>rw[h3]at e;cases e
   |true=>
    rw[h3]at e
    obtain⟨o,v,_,_,e,_⟩:=vS (fY.1 h3) e
    exact lB eS hk l bN t h e
  |false=>
   rw[h2]at e
   cases h3:(mW c.P c.call c.ops.toList .p0 i||mW c.P c.call c.ops.toList .p1 i)with
   |false=>rw[h3]at e;cases e
   |true=>
    rw[h3]at e
    obtain⟨o,v,ju,t1,ho,_,e,ht⟩:=mX e
    exact mY eS ho (jz h2) ht (lB eS hk l (i::bN) t1 ju e)
omit [Io] in
theorem jR(eS:c.nt<=512){k:List Nat->iu}(hk: ∀ bN t h,k bN t h=.ok c.te c.hE->c.Fr bN t): ∀ (eo bN:List Nat) (t:Tm) (h:Hp),
 yg c.P c.call c.nt c.ops.toList eo bN k t h=.ok c.te c.hE->c.Fr bN t
 | [],bN,t,h,e=>hk bN t h e
 |i::l,bN,t,h,e=>by
  unfold yg at e
  cases h1:(xA c.nt c.ops.toList bN i&&(!gM i bN&&(mW c.P c.call c.ops.toList .p0 i||mW c.P c.call c.ops.toList .al i)))with
  |false=>rw[h1]at e;cases e
  |true=>
   rw[h1]at e
   simp only[ek]at e
   simp only[Bool.and_eq_true,Bool.not_eq_true']at h1
   obtain⟨o,v,ju,t1,ho,_,e,ht⟩:=mX e
   exact mY eS ho (jz h1.2.1) ht (jR eS hk l (i::bN) t1 ju e)
omit [Io] in
theorem mZ(eS:c.nt<=512): ∀ (pl:gZ) (bN:List Nat) (t:Tm) (h:Hp),jx c.P c.call c.nt c.ops.toList pl bN t h=.ok c.te c.hE->c.Fr bN t
 | .last pre eo,bN,t,h,e=>by
  unfold jx at e
  refine lB eS (fun bN t h e=>?_) pre bN t h e
  refine jR eS (fun bN t h e=>?_) eo bN t h e
  cases hb:allI (fun i _=>gM i bN) c.ops.toList 0 with
  |false=>rw[hb]at e;cases e
  |true=>
   rw[hb]at e
   obtain⟨rfl,_⟩:=Rt.ok.inj e
   exact fun u _ _=>rfl
 | .cons pre eo q rest,bN,t,h,e=>by
  unfold jx at e
  refine lB eS (fun bN t h e=>?_) pre bN t h e
  refine jR eS (fun bN t h e=>?_) eo bN t h e
  cases h1:(xA c.nt c.ops.toList bN q&&(!gM q bN&&mW c.P c.call c.ops.toList .ch q))with
  |false=>rw[h1]at e;cases e
  |true=>
   rw[h1]at e
   simp only[ek]at e
   simp only[Bool.and_eq_true,Bool.not_eq_true']at h1
   obtain⟨o,v,ju,t1,ho,_,_,e,ht⟩:=vR e
   exact mY eS ho (jz h1.2.1) ht (mZ eS rest (q::bN) t1 ju e)
omit [Io] in
theorem qL{bN:List Nat}{i:Nat}{o:Oper}{t t1:Tm}{v:AV}(eS:c.nt<=512)(ho:c.ops[i]? =some o)
 (ht:(∃ d,o.dst=some d/\d<c.nt/\t1=sT d v t)∨(o.dst=none/\t1=t))(F:c.Lw bN t):c.Lw (i::bN) t1:=by
 intro u hu hc
 rw[<-F u hu (fun j hj k=>hc j hj (List.mem_cons_of_mem _ k))]
 rcases ht with⟨d,hd,Ct,rfl⟩|⟨_,rfl⟩
 ·show(Tm.put t d (some v)).at u=t.at u
  rw[Tm.fh _ _ _ _ (Nat.lt_of_lt_of_le Ct eS) hu,if_neg]
  intro e
  subst e
  exact hc i ⟨o,ho,hd⟩ List.mem_cons_self
 ·rfl
omit [Io] in
theorem RI{i u:Nat}(eg: ∀ u∈c.GW i,u<512)(hu:u∈c.GW i):((∃ j,c.ik j u/\c.An i j)/\(c.rf i).at u=c.te.at u)∨((¬ ∃ j,c.ik j u/\c.An i j)/\(c.rf i).at u=c.t0.at u):=by
 have key: ∀ (l:List Nat),(∀ u∈l,u<512)->u∈l->((∃ j,c.ik j u/\c.An i j)/\(c.Cu i l).at u=c.te.at u)∨((¬ ∃ j,c.ik j u/\c.An i j)/\(c.Cu i l).at u=c.t0.at u):=by
  intro l
  induction l with
  |nil=>intro _ h;cases h
  |cons x l ih=>
   intro hl hm
   rw[Cu,Tm.fh _ _ _ _ (hl x List.mem_cons_self) (hl u hm)]
   by_cases hx:u=x
   ·subst hx
    rw[if_pos rfl]
    by_cases hw: ∃ j,c.ik j u/\c.An i j
    ·rw[if_pos hw];exact .inl ⟨hw,rfl⟩
    ·rw[if_neg hw];exact .inr ⟨hw,rfl⟩
   ·rw[if_neg hx]
    exact ih (fun y hy=>hl y (List.mem_cons_of_mem _ hy)) ((List.mem_cons.1 hm).resolve_left hx)
 exact key _ eg hu
omit [Io] in
theorem vT{bN:List Nat}{i:Nat}{o:Oper}{t:Tm}{h h1:Hp}{v:AV}(eS:c.nt<=512)(ep: ∀ u,u<512->(∀ j,¬ c.ik j u)->c.te.at u=c.t0.at u)(F:c.Fr bN t)(hO:c.Lw bN t)(ho:c.ops[i]? =some o)(hr:xA c.nt c.ops.toList bN i=true)
 (e:gA c.P c.call c.nt c.ops.toList o t h=.ok v h1):c.FE i (c.rf i) h=.ok v h1:=by
 rw[oU ho,<-e]
 refine IC fun u hu=>?_
 rw[<-Ns ho]at hu
 have eg: ∀ u∈c.GW i,u<512:=fun u hu=>Nat.lt_of_lt_of_le (qK hr u hu).1 eS
 obtain⟨_,GV⟩:=qK hr u hu
 rcases RI eg hu with⟨⟨j,hj,hA⟩,er⟩|⟨Y',er⟩
 ·rw[er]
  rcases GV with h1|h1
  ·exact F u (eg u hu) (fun j hj=>(h1 j hj).1)
  ·exact absurd hA (h1 j hj).2.2
 ·rw[er]
  rcases GV with h1|h1
  ·have hn: ∀ j,¬ c.ik j u:=fun j hj=>Y' ⟨j,hj,(h1 j hj).2⟩
   rw[<-ep u (eg u hu) hn]
   exact F u (eg u hu) (fun j hj=>absurd hj (hn j))
  ·exact(hO u (eg u hu) (fun j hj=>(h1 j hj).1)).symm
omit [Io] in
theorem oe{bN:List Nat}{i:Nat}{o:Oper}{t t1:Tm}{v:AV}(eS:c.nt<=512)(uV: ∀ i j d,c.ik i d->c.ik j d->i=j)(ho:c.ops[i]? =some o)
 (ht:(∃ d,o.dst=some d/\d<c.nt/\t1=sT d v t)∨(o.dst=none/\t1=t))(F:c.Fr (i::bN) t1):c.Slot i v:=by
 intro d hd
 obtain⟨o',il,sB⟩:=id hd
 rw[ho]at il
 cases il
 rcases ht with⟨d2,sa,Ct,rfl⟩|⟨hn,_⟩
 ·rw[sB]at sa
  cases sa
  refine⟨Ct,?_⟩
  rw[F d (Nat.lt_of_lt_of_le Ct eS) (fun j hj=>by rw[uV j i d hj hd];exact List.mem_cons_self)]
  show(Tm.put t d (some v)).at d=_
  rw[Tm.fh _ _ _ _ (Nat.lt_of_lt_of_le Ct eS) (Nat.lt_of_lt_of_le Ct eS),if_pos rfl]
 ·rw[sB]at hn;cases hn
end Cx
end Go.Ab

noncomputable section
namespace Go.Ab
variable [Io]
namespace Cx
def wi(c:Cx)(nx bd:Nat->Nat):Cx:={c with nx:=nx,bd:=bd}
def GI(c:Cx)(i:Nat):Prop:=
 (c.cz i .p0-> ∃ v,(∀ h,c.FE i (c.rf i) h=.ok v h)/\c.Slot i v/\c.jP i (c.bd i))/\
 (c.cz i .al-> ∃ v,c.Slot i v/\c.jP i (c.nx i)/\((c.FE i (c.rf i) (dM (c.nx i))=.ok v (dM (c.nx i))/\c.bd i=c.nx i)∨
  ∃ cs,c.FE i (c.rf i) (dM (c.nx i))=.ok v (cy (dM (c.nx i)) cs)/\c.bd i=c.nx i+1))
def xr(f:Nat->Nat)(i n:Nat):Nat->Nat:=fun j=>if j=i then n else f j
omit [Io] in
theorem iG{f:Nat->Nat}{i n:Nat}:xr f i n i=n:=if_pos rfl
omit [Io] in
theorem jS{f:Nat->Nat}{i n j:Nat}(h:j≠i):xr f i n j=f j:=if_neg h
variable {c:Cx}
omit [Io] in
theorem D7{nx bd:Nat->Nat}{i:Nat}: ∀ (l:List Nat),(c.wi nx bd).Cu i l=c.Cu i l
 | []=>rfl
 |u::l=>by
  rw[Cu,Cu,D7 l]
  rfl
omit [Io] in
theorem vU{nx bd:Nat->Nat}{i:Nat}:(c.wi nx bd).rf i=c.rf i:=D7 _
omit [Io] in
theorem zK{bN:List Nat}{i N:Nat}(hr:xA c.nt c.ops.toList bN i=true)(hb: ∀ j∈bN,c.bd j<=N):c.jP i N:=by
 intro u hu
 obtain⟨h1,h2⟩:=qK hr u hu
 exact⟨h1,h2.imp (fun h j hj=>⟨(h j hj).2,hb j (h j hj).1⟩) (fun h j hj=>(h j hj).2.1)⟩
omit [Io] in
theorem pN(eS:c.nt<=512)(ep: ∀ u,u<512->(∀ j,¬ c.ik j u)->c.te.at u=c.t0.at u)(uV: ∀ i j d,c.ik i d->c.ik j d->i=j){k:List Nat->iu}(hk: ∀ bN t h,k bN t h=.ok c.te c.hE->c.Fr bN t)
 {Φ:(Nat->Nat)->(Nat->Nat)->List Nat->Prop}{h:Hp}
 (ih: ∀ (bN:List Nat) (t:Tm) (lN j5:Nat->Nat),k bN t h=.ok c.te c.hE->c.Lw bN t->(∀ j∈bN,j5 j<=h.next)-> ∃ nx bd,(∀ j∈bN,nx j=lN j/\bd j=j5 j)/\Φ nx bd bN):
 ∀ (pre bN:List Nat) (t:Tm) (lN j5:Nat->Nat),vQ c.P c.call c.nt c.ops.toList pre bN k t h=.ok c.te c.hE->c.Lw bN t->(∀ j∈bN,j5 j<=h.next)->
  ∃ nx bd,(∀ j∈bN,nx j=lN j/\bd j=j5 j)/\(c.wi nx bd).XX pre h/\ ∃ kd,Φ nx bd kd/\ ∀ i∈kd,i∈bN∨((c.wi nx bd).GI i/\(c.cz i .p0∨c.cz i .p1))
 | [],bN,t,lN,j5,e,hO,hb=>by
  obtain⟨nx,bd,h1,h2⟩:=ih bN t lN j5 e hO hb
  exact⟨nx,bd,h1,(fun i hi=>by cases hi),bN,h2,fun i hi=>.inl hi⟩
 |i::l,bN,t,lN,j5,e,hO,hb=>by
  have F:=lB eS hk (i::l) bN t h e
  unfold vQ at e
  cases h1:xA c.nt c.ops.toList bN i with
  |false=>rw[h1]at e;cases e
  |true=>
  rw[h1]at e
  simp only[ek]at e
  cases h2:gM i bN with
  |true=>
   rw[h2]at e
   cases h3:mW c.P c.call c.ops.toList .p1 i with
   |false=>rw[h3]at e;cases e
   |true=>
    rw[h3]at e
    obtain⟨o,v,ho,hg,e,hs⟩:=vS (fY.1 h3) e
    obtain⟨nx,bd,a1,a2,kd,a3,a4⟩:=pN eS ep uV hk ih l bN t lN j5 e hO hb
    refine⟨nx,bd,a1,fun j hj hc=>?_,kd,a3,a4⟩
    rcases List.mem_cons.1 hj with rfl|hj
    ·refine⟨v,vT eS ep F hO ho h1 hg,?_,zK (c:=c.wi nx bd) h1 (fun j hj=>by show bd j<=_;rw[(a1 j hj).2];exact hb j hj)⟩
     intro d hd
     obtain⟨o',il,sB⟩:=id hd
     have D8:c.ops[j]? =some o':=il
     rw[ho]at D8
     cases D8
     obtain⟨s1,s2⟩:=hs d sB
     refine⟨s1,?_⟩
     show c.te.at d=_
     rw[F d (Nat.lt_of_lt_of_le s1 eS) (fun x hx=>by rw[uV x j d hx hd];exact gj.1 h2)]
     exact s2
    ·exact a2 j hj hc
  |false=>
   rw[h2]at e
   have Lx:=jz h2
   cases h3:(mW c.P c.call c.ops.toList .p0 i||mW c.P c.call c.ops.toList .p1 i)with
   |false=>rw[h3]at e;cases e
   |true=>
    rw[h3]at e
    have dL:c.cz i .p0∨c.cz i .p1:=by
     rw[Bool.or_eq_true]at h3
     exact h3.imp fY.1 fY.1
    obtain⟨o,v,ju,t1,ho,hg,e2,ht⟩:=mX e
    clear e
    have XY:ju=h:=by
     rcases dL with⟨o',il,vV⟩|⟨o',il,vV⟩
     ·rw[ho]at il;cases il
      exact((mR vV).ok hg).1
     ·rw[ho]at il;cases il
      exact D6 vV _ _ _ _ hg
    subst XY
    have lj: ∀ j∈bN,j≠i:=fun j hj e=>Lx (e▸hj)
    obtain⟨nx,bd,a1,a2,kd,a3,a4⟩:=pN eS ep uV hk ih l (i::bN) t1 (xr lN i ju.next) (xr j5 i ju.next) e2 (qL eS ho ht hO) (fun j hj=>by
     rcases List.mem_cons.1 hj with rfl|hj
     ·rw[iG];exact Nat.le_refl _
     ·rw[jS (lj j hj)];exact hb j hj)
    have agree: ∀ j∈bN,nx j=lN j/\bd j=j5 j:=fun j hj=>by
     have:=a1 j (List.mem_cons_of_mem _ hj)
     rwa [jS (lj j hj),jS (lj j hj)]at this
    have Qv:bd i=ju.next:=by
     have:=(a1 i List.mem_cons_self).2
     rwa [iG]at this
    have RJ:(c.wi nx bd).jP i ju.next:=zK (c:=c.wi nx bd) h1 (fun j hj=>by show bd j<=_;rw[(agree j hj).2];exact hb j hj)
    have dj:c.Slot i v:=oe eS uV ho ht (lB eS hk l (i::bN) t1 ju e2)
    refine⟨nx,bd,agree,fun j hj hc=>?_,kd,a3,fun j hj=>?_⟩
    ·rcases List.mem_cons.1 hj with rfl|hj
     ·exact⟨v,vT eS ep F hO ho h1 hg,dj,RJ⟩
     ·exact a2 j hj hc
    ·rcases a4 j hj with h|h
     ·rcases List.mem_cons.1 h with rfl|h
      ·refine .inr ⟨⟨fun hc=>⟨v,?_,dj,?_⟩,fun hc=>?_⟩,dL⟩
       ·obtain⟨o',il,vV⟩:=hc
        have D8:c.ops[j]? =some o':=il
        rw[ho]at D8
        cases D8
        intro h0
        rw[vU]
        show c.FE j (c.rf j) h0=_
        have:=vT eS ep F hO ho h1 hg
        rw[oU ho]at this ⊢
        exact((mR vV).ok this).2 h0
       ·show Cx.jP _ j (bd j)
        rw[Qv];exact RJ
       ·rcases dL with h|h<;>cases c.fS h hc
      ·exact .inl h
     ·exact .inr h
omit [Io] in
theorem tY(eS:c.nt<=512)(ep: ∀ u,u<512->(∀ j,¬ c.ik j u)->c.te.at u=c.t0.at u)(uV: ∀ i j d,c.ik i d->c.ik j d->i=j){k:List Nat->iu}(hk: ∀ bN t h,k bN t h=.ok c.te c.hE->c.Fr bN t)
 {Φ:(Nat->Nat)->(Nat->Nat)->List Nat->Hp->Prop}
 (ih: ∀ (bN:List Nat) (t:Tm) (h:Hp) (lN j5:Nat->Nat),k bN t h=.ok c.te c.hE->c.Lw bN t->(∀ j∈bN,j5 j<=h.next)-> ∃ nx bd,(∀ j∈bN,nx j=lN j/\bd j=j5 j)/\Φ nx bd bN h):
 ∀ (eo bN:List Nat) (t:Tm) (h:Hp) (lN j5:Nat->Nat),yg c.P c.call c.nt c.ops.toList eo bN k t h=.ok c.te c.hE->c.Lw bN t->(∀ j∈bN,j5 j<=h.next)->
  ∃ nx bd,(∀ j∈bN,nx j=lN j/\bd j=j5 j)/\ ∃ h1 kd,(c.wi nx bd).pe eo h h1/\Φ nx bd kd h1/\ ∀ i∈kd,i∈bN∨((c.wi nx bd).GI i/\i∈eo/\(c.cz i .p0∨c.cz i .al))
 | [],bN,t,h,lN,j5,e,hO,hb=>by
  obtain⟨nx,bd,h1,h2⟩:=ih bN t h lN j5 e hO hb
  exact⟨nx,bd,h1,h,bN,rfl,h2,fun i hi=>.inl hi⟩
 |i::l,bN,t,h,lN,j5,e,hO,hb=>by
  have F:=jR eS hk (i::l) bN t h e
  unfold yg at e
  cases zL:(xA c.nt c.ops.toList bN i&&(!gM i bN&&(mW c.P c.call c.ops.toList .p0 i||mW c.P c.call c.ops.toList .al i)))with
  |false=>rw[zL]at e;cases e
  |true=>
   rw[zL]at e
   simp only[ek]at e
   simp only[Bool.and_eq_true,Bool.not_eq_true',Bool.or_eq_true]at zL
   obtain⟨h1,h2,h3⟩:=zL
   have Lx:=jz h2
   have dL:c.cz i .p0∨c.cz i .al:=h3.imp fY.1 fY.1
   obtain⟨o,v,h',t1,ho,hg,e2,ht⟩:=mX e
   clear e
   have lj: ∀ j∈bN,j≠i:=fun j hj e=>Lx (e▸hj)
   have hle:h.next<=h'.next:=by
    rcases dL with⟨o',il,vV⟩|⟨o',il,vV⟩
    ·rw[ho]at il;cases il
     rw[((mR vV).ok hg).1]
     exact Nat.le_refl _
    ·rw[ho]at il;cases il
     rcases vO vV _ _ _ _ hg (dM h.next) rfl with⟨rfl,_⟩|⟨cs,rfl,_⟩
     ·exact Nat.le_refl _
     ·exact Nat.le_succ _
   obtain⟨nx,bd,a1,ju,kd,a2,a3,a4⟩:=tY eS ep uV hk ih l (i::bN) t1 h' (xr lN i h.next) (xr j5 i h'.next) e2 (qL eS ho ht hO) (fun j hj=>by
    rcases List.mem_cons.1 hj with rfl|hj
    ·rw[iG];exact Nat.le_refl _
    ·rw[jS (lj j hj)];exact Nat.le_trans (hb j hj) hle)
   have agree: ∀ j∈bN,nx j=lN j/\bd j=j5 j:=fun j hj=>by
    have:=a1 j (List.mem_cons_of_mem _ hj)
    rwa [jS (lj j hj),jS (lj j hj)]at this
   have Qv:bd i=h'.next:=by
    have:=(a1 i List.mem_cons_self).2
    rwa [iG]at this
   have BU:nx i=h.next:=by
    have:=(a1 i List.mem_cons_self).1
    rwa [iG]at this
   have RJ:(c.wi nx bd).jP i h.next:=zK (c:=c.wi nx bd) h1 (fun j hj=>by show bd j<=_;rw[(agree j hj).2];exact hb j hj)
   have dj:c.Slot i v:=oe eS uV ho ht (jR eS hk l (i::bN) t1 h' e2)
   have XZ:=vT eS ep F hO ho h1 hg
   rcases dL with dL|dL
   ·have hh:h'=h:=by
     obtain⟨o',il,vV⟩:=dL
     rw[ho]at il;cases il
     exact((mR vV).ok hg).1
    subst hh
    refine⟨nx,bd,agree,ju,kd,.inl ⟨dL,a2⟩,a3,fun j hj=>?_⟩
    rcases a4 j hj with h|⟨h,h5,h6⟩
    ·rcases List.mem_cons.1 h with rfl|h
     ·refine .inr ⟨⟨fun hc=>⟨v,?_,dj,?_⟩,fun hc=>?_⟩,List.mem_cons_self,.inl dL⟩
      ·obtain⟨o',il,vV⟩:=dL
       rw[ho]at il
       cases il
       intro h0
       rw[vU]
       show c.FE j (c.rf j) h0=_
       rw[oU ho]at XZ ⊢
       exact((mR vV).ok XZ).2 h0
      ·show Cx.jP _ j (bd j)
       rw[Qv];exact RJ
      ·cases c.fS dL hc
     ·exact .inl h
    ·exact .inr ⟨h,List.mem_cons_of_mem _ h5,h6⟩
   ·have key:(h'=h/\c.FE i (c.rf i) (dM h.next)=.ok v (dM h.next))∨ ∃ cs,h'=cy h cs/\c.FE i (c.rf i) (dM h.next)=.ok v (cy (dM h.next) cs):=by
     obtain⟨o',il,vV⟩:=dL
     rw[ho]at il;cases il
     rw[oU ho]at XZ ⊢
     exact vO vV _ _ _ _ XZ (dM h.next) rfl
    refine⟨nx,bd,agree,ju,kd,.inr ⟨dL,BU,?_⟩,a3,fun j hj=>?_⟩
    ·rcases key with⟨rfl,_⟩|⟨cs,rfl,hf⟩
     ·exact .inl ⟨Qv.trans BU.symm,a2⟩
     ·refine .inr ⟨v,cs,?_,?_,a2⟩
      ·show bd i=nx i+1
       rw[Qv,BU];rfl
      ·rw[vU]
       show c.FE i (c.rf i) (dM (nx i))=.ok v (cy (dM (nx i)) cs)
       rw[BU];exact hf
    ·rcases a4 j hj with h0|⟨h0,h5,h6⟩
     ·rcases List.mem_cons.1 h0 with rfl|h0
      ·refine .inr ⟨⟨fun hc=>?_,fun hc=>⟨v,dj,?_,?_⟩⟩,List.mem_cons_self,.inr dL⟩
       ·cases c.fS dL hc
       ·show Cx.jP _ j (nx j)
        rw[BU];exact RJ
       ·rw[vU]
        show(c.FE j (c.rf j) (dM (nx j))=.ok v (dM (nx j))/\bd j=nx j)∨ ∃ cs,c.FE j (c.rf j) (dM (nx j))=.ok v (cy (dM (nx j)) cs)/\bd j=nx j+1
        rw[BU,Qv]
        rcases key with⟨rfl,hf⟩|⟨cs,rfl,hf⟩
        ·exact .inl ⟨hf,rfl⟩
        ·exact .inr ⟨cs,hf,rfl⟩
      ·exact .inl h0
     ·exact .inr ⟨h0,List.mem_cons_of_mem _ h5,h6⟩
omit [Io] in
theorem vW(eS:c.nt<=512)(ep: ∀ u,u<512->(∀ j,¬ c.ik j u)->c.te.at u=c.t0.at u)(uV: ∀ i j d,c.ik i d->c.ik j d->i=j): ∀ (pl:gZ) (bN:List Nat) (t:Tm) (h:Hp) (lN j5:Nat->Nat),
 jx c.P c.call c.nt c.ops.toList pl bN t h=.ok c.te c.hE->c.Lw bN t->(∀ j∈bN,j5 j<=h.next)->
  ∃ nx bd,(∀ j∈bN,nx j=lN j/\bd j=j5 j)/\(c.wi nx bd).rQ pl h/\(∀ i,i<c.ops.size->bd i<=c.hE.next)/\
   ∀ i,i<c.ops.size->i∉bN->(c.wi nx bd).GI i/\(c.cz i .al->i∈pl.eo)/\(c.cz i .ch->i∈pl.rE)
 | .last pre eo,bN,t,h,lN,j5,e,hO,hb=>by
  unfold jx at e
  have Ly: ∀ bN t h,(ek (allI (fun i _=>gM i bN) c.ops.toList 0) fi (fun _ _=>.bad):iu) t h=.ok c.te c.hE->(∀ i,i<c.ops.size->i∈bN)/\t=c.te/\h=c.hE:=by
   intro bN t h e
   cases hB:allI (fun i _=>gM i bN) c.ops.toList 0 with
   |false=>rw[hB]at e;cases e
   |true=>
    rw[hB]at e
    obtain⟨h1,h2⟩:=Rt.ok.inj e
    refine⟨fun i hi=>?_,h1,h2⟩
    have:=gk hB i c.ops[i] (by simp[hi])
    exact gj.1 this
  have hk: ∀ bN t h,(ek (allI (fun i _=>gM i bN) c.ops.toList 0) fi (fun _ _=>.bad):iu) t h=.ok c.te c.hE->c.Fr bN t:=by
   intro bN t h e
   obtain⟨_,rfl,_⟩:=Ly bN t h e
   exact fun u _ _=>rfl
  obtain⟨nx,bd,a1,a2,kd,⟨h1,ke,b2,⟨rfl,b3,b4⟩,b5⟩,a4⟩:=pN (Φ:=fun nx bd kd=> ∃ h1 ke,(c.wi nx bd).pe eo h h1/\(h1=c.hE/\(∀ i,i<c.ops.size->i∈ke)/\(∀ i∈ke,bd i<=c.hE.next))/\
   ∀ i∈ke,i∈kd∨((c.wi nx bd).GI i/\i∈eo/\(c.cz i .p0∨c.cz i .al))) eS ep uV (jR eS hk eo) (fun bN t lN j5 e hO hb=>by
   obtain⟨nx,bd,a1,h1,ke,a2,a3,a4⟩:=tY (Φ:=fun nx bd ke h1=>h1=c.hE/\(∀ i,i<c.ops.size->i∈ke)/\(∀ i∈ke,bd i<=c.hE.next)) eS ep uV hk (fun bN t h lN j5 e hO hb=>by
    obtain⟨h1,_,rfl⟩:=Ly bN t h e
    exact⟨lN,j5,fun _ _=>⟨rfl,rfl⟩,rfl,h1,hb⟩) eo bN t h lN j5 e hO hb
   exact⟨nx,bd,a1,h1,ke,a2,a3,a4⟩) pre bN t lN j5 e hO hb
  refine⟨nx,bd,a1,⟨a2,b2⟩,fun i hi=>b4 i (b3 i hi),fun i hi hn=>?_⟩
  rcases b5 i (b3 i hi)with h|⟨h,h6,h7⟩
  ·rcases a4 i h with h|⟨h,h5⟩
   ·exact absurd h hn
   ·refine⟨h,fun hc=>?_,fun hc=>?_⟩
    ·rcases h5 with h5|h5<;>cases c.fS h5 hc
    ·rcases h5 with h5|h5<;>cases c.fS h5 hc
  ·refine⟨h,fun _=>h6,fun hc=>?_⟩
   rcases h7 with h5|h5<;>cases c.fS h5 hc
 | .cons pre eo q rest,bN,t,h,lN,j5,e,hO,hb=>by
  unfold jx at e
  have hq: ∀ bN t h,(ek (xA c.nt c.ops.toList bN q&&(!gM q bN&&mW c.P c.call c.ops.toList .ch q)) (runM c.P c.call c.nt c.ops.toList q (jx c.P c.call c.nt c.ops.toList rest (q::bN))) (fun _ _=>.bad):iu) t h=.ok c.te c.hE->
   xA c.nt c.ops.toList bN q=true/\q∉bN/\c.cz q .ch/\ ∃ o v h1 t1,c.ops[q]? =some o/\gA c.P c.call c.nt c.ops.toList o t h=.ok v h1/\h.next<=h1.next/\jx c.P c.call c.nt c.ops.toList rest (q::bN) t1 h1=.ok c.te c.hE/\
    ((∃ d,o.dst=some d/\d<c.nt/\t1=sT d v t)∨(o.dst=none/\t1=t)):=by
   intro bN t h e
   cases h1:(xA c.nt c.ops.toList bN q&&(!gM q bN&&mW c.P c.call c.ops.toList .ch q))with
   |false=>rw[h1]at e;cases e
   |true=>
    rw[h1]at e
    simp only[Bool.and_eq_true,Bool.not_eq_true']at h1
    exact⟨h1.1,jz h1.2.1,fY.1 h1.2.2,vR e⟩
  have hk: ∀ bN t h,(ek (xA c.nt c.ops.toList bN q&&(!gM q bN&&mW c.P c.call c.ops.toList .ch q)) (runM c.P c.call c.nt c.ops.toList q (jx c.P c.call c.nt c.ops.toList rest (q::bN))) (fun _ _=>.bad):iu) t h=.ok c.te c.hE->c.Fr bN t:=by
   intro bN t h e
   obtain⟨_,Lx,_,o,v,h1,t1,ho,_,_,e,ht⟩:=hq bN t h e
   exact mY eS ho Lx ht (mZ eS rest (q::bN) t1 h1 e)
  obtain⟨nx,bd,a1,a2,kd,⟨h1,ke,b2,⟨c1,v,h2,c2,c3,c4,c5,c6,c7,c8,c9⟩,b5⟩,a4⟩:=pN (Φ:=fun nx bd kd=> ∃ h1 ke,(c.wi nx bd).pe eo h h1/\
   (c.cz q .ch/\ ∃ v h2,c.FE q (c.rf q) h1=.ok v h2/\c.Slot q v/\(c.wi nx bd).jP q h1.next/\bd q=h2.next/\h1.next<=h2.next/\(c.wi nx bd).rQ rest h2/\(∀ i,i<c.ops.size->bd i<=c.hE.next)/\
    ∀ i,i<c.ops.size->i∉q::ke->(c.wi nx bd).GI i/\(c.cz i .al->i∈rest.eo)/\(c.cz i .ch->i∈rest.rE))/\
   ∀ i∈ke,i∈kd∨((c.wi nx bd).GI i/\i∈eo/\(c.cz i .p0∨c.cz i .al))) eS ep uV (jR eS hk eo) (fun bN t lN j5 e hO hb=>by
   obtain⟨nx,bd,a1,h1,ke,a2,a3,a4⟩:=tY (Φ:=fun nx bd ke h1=>c.cz q .ch/\ ∃ v h2,c.FE q (c.rf q) h1=.ok v h2/\c.Slot q v/\(c.wi nx bd).jP q h1.next/\bd q=h2.next/\h1.next<=h2.next/\(c.wi nx bd).rQ rest h2/\
    (∀ i,i<c.ops.size->bd i<=c.hE.next)/\ ∀ i,i<c.ops.size->i∉q::ke->(c.wi nx bd).GI i/\(c.cz i .al->i∈rest.eo)/\(c.cz i .ch->i∈rest.rE)) eS ep uV hk (fun bN t h lN j5 e hO hb=>by
    obtain⟨hr,Lx,dL,o,v,h1,t1,ho,hg,hle,e,ht⟩:=hq bN t h e
    have lj: ∀ j∈bN,j≠q:=fun j hj e=>Lx (e▸hj)
    have Fq:=mZ eS rest (q::bN) t1 h1 e
    obtain⟨nx,bd,a1,a2,a3,a4⟩:=vW eS ep uV rest (q::bN) t1 h1 (xr lN q h.next) (xr j5 q h1.next) e (qL eS ho ht hO) (fun j hj=>by
     rcases List.mem_cons.1 hj with rfl|hj
     ·rw[iG];exact Nat.le_refl _
     ·rw[jS (lj j hj)];exact Nat.le_trans (hb j hj) hle)
    have agree: ∀ j∈bN,nx j=lN j/\bd j=j5 j:=fun j hj=>by
     have:=a1 j (List.mem_cons_of_mem _ hj)
     rwa [jS (lj j hj),jS (lj j hj)]at this
    have hbq:bd q=h1.next:=by
     have:=(a1 q List.mem_cons_self).2
     rwa [iG]at this
    exact⟨nx,bd,agree,dL,v,h1,vT eS ep (mY eS ho Lx ht Fq) hO ho hr hg,oe eS uV ho ht Fq,
     zK (c:=c.wi nx bd) hr (fun j hj=>by show bd j<=_;rw[(agree j hj).2];exact hb j hj),hbq,hle,a2,a3,a4⟩) eo bN t h lN j5 e hO hb
   exact⟨nx,bd,a1,h1,ke,a2,a3,a4⟩) pre bN t lN j5 e hO hb
  refine⟨nx,bd,a1,⟨a2,h1,b2,c1,v,h2,(by rw[vU];exact c2),c3,c4,c5,c6,c7⟩,c8,fun i hi hn=>?_⟩
  by_cases hiq:i=q
  ·subst hiq
   refine⟨⟨fun hc=>?_,fun hc=>?_⟩,fun hc=>?_,fun _=>List.mem_cons_self⟩
   ·cases c.fS c1 hc
   ·cases c.fS c1 hc
   ·cases c.fS c1 hc
  ·by_cases Cs:i∈ke
   ·rcases b5 i Cs with h|⟨h,h6,h7⟩
    ·rcases a4 i h with h|⟨h,h5⟩
     ·exact absurd h hn
     ·refine⟨h,fun hc=>?_,fun hc=>?_⟩
      ·rcases h5 with h5|h5<;>cases c.fS h5 hc
      ·rcases h5 with h5|h5<;>cases c.fS h5 hc
    ·refine⟨h,fun _=>List.mem_append_left _ h6,fun hc=>?_⟩
     rcases h7 with h5|h5<;>cases c.fS h5 hc
   ·obtain⟨r1,r2,r3⟩:=c9 i hi (fun k=>by
     rcases List.mem_cons.1 k with k|k
     ·exact hiq k
     ·exact Cs k)
    exact⟨r1,fun hc=>List.mem_append_right _ (r2 hc),fun hc=>List.mem_cons_of_mem _ (r3 hc)⟩
end Cx
end Go.Ab

noncomputable section
namespace Go.Ab
variable [Io]
def D9(ok:Nat->Nat->Bool)(l:List Nat):Nat->List Nat:=
 List.rec (fun _=>[]) (fun i _ ih r=>Bool.rec (ih r) (i::ih (Nat.lor r (Nat.pow 2 i))) (ok i r)) l
def Lz(l:List Nat)(r:Nat):Nat:=List.rec r (fun i _ ih=>Nat.lor (Nat.pow 2 i) ih) l
def bit(r i:Nat):Bool:=Nat.beq (Nat.mod (Nat.div r (Nat.pow 2 i)) 2) 1
def IQ(p:Nat->Bool)(l:List Nat):List Nat:=List.rec [] (fun i _ ih=>Bool.rec ih (i::ih) (p i)) l
def NA(p:Nat->Bool)(l:List Nat):Option Nat:=List.rec none (fun i _ ih=>Bool.rec ih (some i) (p i)) l
def Ea(l:List Oper):List Nat:=List.rec (fun _=>[]) (fun _ _ ih i=>i::ih (Nat.add i 1)) l 0
section
variable (P:Program)(call:bV)(L:List Oper)
def Zc(ms idx:List Nat)(fuel:Nat):Nat->List Nat->gZ:=
 Nat.rec (fun _ _=>.last [] []) (fun _ ih done chd=>
  match D9 (fun i r=>(mW P call L .p0 i||mW P call L .p1 i)&&(!bit r i&&Nat.beq (Nat.land ((gG ms i).getD 0) r) ((gG ms i).getD 0))) idx done with
  |new=>match IQ (fun i=>bit done i&&(mW P call L .p1 i&& !yf (fun j=>bit ((gG ms j).getD 0) i) chd)) idx with
   |j2=>match Lz new done with
    |zM=>match NA (fun i=>mW P call L .ch i&& !bit zM i) idx with
     |none=>.last (app j2 new) (D9 (fun i r=> !bit r i) idx zM)
     |some q=>match D9 (fun i r=> !bit r i&&bit ((gG ms q).getD 0) i) idx zM with
      |eo=>.cons (app j2 new) eo q (ih (Nat.lor (Nat.pow 2 q) (Lz eo zM)) (q::chd))) fuel
def og:gZ:=Zc P call L (kF L []) (Ea L) (Nat.succ (len L)) 0 []
end
def aE(P:Program)(call:bV)(nt:Nat)(ops:Array Oper):iu:=
 match og P call ops.toList with
 |pl=>ek (zI ops.toList&&(IM ops.toList&&sF P call ops.toList pl [])) (jx P call nt ops.toList pl []) (fun _ _=>.bad)
namespace Cx
variable {c:Cx}
omit [Io] in
theorem zN: ∀ (pl:gZ) (past:List Nat),sF c.P c.call c.ops.toList pl past=true->c.zF past pl
 | .last pre eo,past,h=>by
  intro i hi
  obtain⟨o,ho,_⟩:=id hi
  have:=jy (gk h i o (by simpa using ho)) (fY.2 hi)
  rw[Bool.or_eq_true,mV,gj]at this
  exact this
 | .cons pre eo q rest,past,h=>by
  unfold sF at h
  simp only[Bool.and_eq_true]at h
  obtain⟨h1,h2,h3,h4⟩:=h
  refine⟨fun i hi=>?_,fun i hi hc=>?_,fun q' hq=>?_,zN rest _ h4⟩
  ·obtain⟨o,ho,_⟩:=id hi
   have:=jy (gk h1 i o (by simpa using ho)) (fY.2 hi)
   rw[Bool.or_eq_true,Bool.or_eq_true,mV,mV,gj]at this
   exact this
  ·rw[eJ,List.all_eq_true]at h2
   exact jy (h2 i hi) (fY.2 hc)
  ·rw[eJ,List.all_eq_true]at h3
   exact h3 q' hq
omit [Io] in
theorem NB(h:IM c.ops.toList=true): ∀ i j d,c.ik i d->c.ik j d->i=j:=by
 rintro i j d ⟨o,ho,hd⟩ ⟨o',il,sB⟩
 have h1:=gk h i o (by simpa using ho)
 rw[hd]at h1
 have h2:=jy (gk h1 j o' (by simpa using il)) (oc sB)
 exact Nat.eq_of_beq_eq_true h2
end Cx
theorem IS{g:G}{w:World}{h:Hp}(H:HR g w h):g.to h.next=g:=by
 cases g with
 |mk m im=>
  unfold G.to
  simp only[G.mk.injEq,and_true]
  funext id
  by_cases eO:id<h.next
  ·simp only[eO,if_true]
  ·simp only[eO,if_false]
   exact(H.fresh id (by omega)).symm
omit [Io] in
theorem oh{g:G}{w w':World}(h:w'.heap=w.heap):jr g w g w':=
 ⟨fun _ _ e=>e,fun _ i=>i,fun b _=>by rw[h],fun b=>by unfold cO;rw[h];exact Nat.le_refl _⟩
theorem HR.heap{g:G}{w w':World}{hp:Hp}(h:w'.heap=w.heap)(H:HR g w hp):HR g w' hp:=by
 refine⟨H.fresh,fun id cs e=>?_,H.inj,fun b i=>by rw[h];exact H.cV b i,gT.mono (oh h) H.tb⟩
 obtain⟨b,s,C,el,vs,h1,h2,h3,h4,h5⟩:=H.aQ id cs e
 exact⟨b,s,C,el,vs,h1,by rw[h];exact h2,h3,bA.dB (oh h) _ _ h4,h5⟩
omit [Io] in
theorem BV(g:G)(w:World)(h:Hp)(n:Nat):Ext g w h g {w with drawn:=n} h:=
 ⟨rfl,rfl,rfl,Nat.le_refl _,Nat.le_refl _,fun _ _ e=>e,fun _ _ _=>rfl,fun _=>Nat.le_refl _,fun _ i=>i,fun _ i=>.inl i,fun _ o=>.inl o⟩
theorem tZ{P:Program}(hm:P.follows .mixedOrders=true):tQ P (aE P):=by
 intro call nt hc id ops g w t h a t' h' H T D e Q K
 refine wp_region_draw fun tk=>?_
 rw[hm]
 change (ek (zI ops.toList&&(IM ops.toList&&sF P call ops.toList (og P call ops.toList) [])) (jx P call nt ops.toList (og P call ops.toList) []) (fun _ _=>.bad):iu) t h=.ok t' h' at e
 cases hB:(zI ops.toList&&(IM ops.toList&&sF P call ops.toList (og P call ops.toList) []))with
 |false=>rw[hB]at e;cases e
 |true=>
 rw[hB]at e
 change jx P call nt ops.toList (og P call ops.toList) [] t h=.ok t' h' at e
 simp only[Bool.and_eq_true]at hB
 obtain⟨Ct,uV,pH⟩:=hB
 obtain⟨pl,Qm⟩: ∃ pl,pl=og P call ops.toList:=⟨_,rfl⟩
 rw[<-Qm]at e pH
 have L:=tR (IL Ct) tk
 let c0:Cx:=⟨P,call,ops,nt,t,t',fun _=>0,fun _=>0,g,w,h,h'⟩
 have RK: ∀ i j d,c0.ik i d->c0.ik j d->i=j:=Cx.NB (c:=c0) uV
 have eS:nt<=512:=T.1
 have F:=Cx.mZ (c:=c0) eS pl [] t h e
 have ep: ∀ u,u<512->(∀ j,¬ c0.ik j u)->c0.te.at u=c0.t0.at u:=fun u hu hd=>F u hu (fun j hj=>absurd hj (hd j))
 obtain⟨nx,bd,_,fV,Zd,X0⟩:=Cx.vW (c:=c0) eS ep RK pl [] t h (fun _=>0) (fun _=>0) e (fun u _ _=>rfl) (fun j hj=>by cases hj)
 let c:Cx:=c0.wi nx bd
 have eg: ∀ {i k},c.cz i k->i<c.ops.size:=fun⟨o,ho,_⟩=>(Array.getElem?_eq_some_iff.1 ho).1
 have G0:c.IJ:=
  ⟨fun i hi=>(X0 i (eg hi) (by simp)).1.1 hi,fun i hi=>(X0 i (eg hi) (by simp)).1.2 hi,RK,Zd,ep,hc,eS⟩
 have pL:g.to h.next=g:=IS H
 refine Cx.Qt (c:=c) G0 K _ [] [] pl g {w with drawn:=w.drawn+1} h a L ?_
 exact
 {run:=fV
  stat:=Cx.zN (c:=c) pl [] pH
  closed:=fun j hj=>by cases hj
  rE:=fun i hi=>.inl ((X0 i (eg hi) (by simp)).2.2 hi)
  GX:=fun i _ h=>by cases h
  oS:=fun j hj=>by cases hj
  Ls:=fun i hi=>.inl ((X0 i (eg hi) (by simp)).2.1 hi)
  st:=⟨(by rw[pL];exact HR.heap (w:=w) rfl H),(by rw[pL];exact BV _ _ _ _),(fun i _ h=>by cases h),(fun i _ j _ h=>by cases h)⟩
  Lt:=fun id x m=>.inl (by
   refine Classical.byContradiction fun k=>?_
   rw[H.fresh id (by omega)]at m;cases m)
  kK:=fun j hj=>by cases hj
  free:=fun u v hu hd eu=>by
   obtain⟨h1,h2⟩:=T.2.2 u v hu eu
   refine⟨h1,?_⟩
   rw[pL]
   exact VR.dB (oh (w:=w) (w':={w with drawn:=w.drawn+1}) rfl) _ _ h2
  size:=T.2.1
  defers:=D}
end Go.Ab

noncomputable section
namespace Go.Ab
variable [Io]
def yh(F:Func):Code:=match F.body with
 |some c=>c
 |none=>.skip
omit [Io] in
theorem aG{P:Program}{draw:bV->Nat->Array Oper->iu}{f:FuncId}{F:Func}{b:Fb}(h1:P.funcs[f]? =some F)(h2: ∀ args w,(callFunc f args).run P w=.ok (.enter f args) w)
 (h3:F.body.isSome=true)(h4:b.ntmps=F.ntmps)(h5:Nat.ble b.ntmps 512=true)(h6:DI P b.ntmps F.results.toList=some b.res)
 (h7:b.body=fun call n=>dX P (draw call b.ntmps) call n b.ntmps (yh F)):aZ P draw f b:=by
 refine⟨⟨F,yh F,h1,?_,h4,Nat.ble_eq.mp h5,h6,h7⟩,h2⟩
 unfold yh
 cases h:F.body with
 |none=>rw[h]at h3;cases h3
 |some c=>rfl
def Eb{α:Type}(p:Nat->α->Prop)(a b:Nat):Tr α->Prop
 | .nil=>True
 | .node l v r=>(∀ x,v=some x->p b x)/\Eb p (2*a) (a+b) l/\Eb p (2*a) (2*a+b) r
omit [Io] in
theorem Eb.get{α:Type}{p:Nat->α->Prop}: ∀ {t:Tr α} {a b:Nat},Eb p a b t-> ∀ k x,t.get k=some x->p (a*k+b) x
 | .nil,a,b,_,k,x,e=>by cases e
 | .node l v r,a,b,⟨h1,h2,h3⟩,k,x,e=>by
  rw[Tr.kh]at e
  by_cases h0:k=0
  ·subst h0
   rw[if_pos rfl]at e
   simpa using h1 x e
  ·rw[if_neg h0]at e
   by_cases hk:k % 2=1
   ·rw[if_pos hk]at e
    have:=h2.get _ x e
    have e2:2*a*(k / 2)+(a+b)=a*k+b:=by
     have:k=2*(k / 2)+1:=by omega
     generalize k / 2=m at*
     subst this
     rw[Nat.mul_add,Nat.mul_one,<-Nat.mul_assoc,Nat.mul_comm a 2]
     omega
    rwa [e2]at this
   ·rw[if_neg hk]at e
    have:=h3.get _ x e
    have e2:2*a*(k / 2 - 1)+(2*a+b)=a*k+b:=by
     have:k=2*(k / 2 - 1)+2:=by omega
     generalize k / 2 - 1=m at*
     subst this
     rw[Nat.mul_add,<-Nat.mul_assoc,Nat.mul_comm a 2]
     omega
    rwa [e2]at this
omit [Io] in
theorem pC{α:Type}{p:Nat->α->Prop}{b:Nat}: ∀ x,(none:Option α)=some x->p b x:=fun _ e=>by cases e
end Go.Ab

noncomputable section
namespace Go.Ab
variable [Io]
structure pf(w w':World):Prop where
 os:w'.os=w.os
 tape:w'.tape=w.tape
 output:w'.output=w.output
 size:w.heap.size<=w'.heap.size
 j2: ∀ b,b<w.heap.size->w'.heap[b]? =w.heap[b]?
omit [Io] in
theorem pf.rows{w w':World}(K:pf w w')(b:Nat):cO w b<=cO w' b:=by
 unfold cO
 by_cases h:b<w.heap.size
 ·rw[K.j2 b h];exact Nat.le_refl _
 ·rw[Array.getElem?_eq_none (by omega)];exact Nat.zero_le _
omit [Io] in
theorem pf.trans{w w1 w2:World}(a:pf w w1)(b:pf w1 w2):pf w w2:=
 ⟨b.os.trans a.os,b.tape.trans a.tape,b.output.trans a.output,Nat.le_trans a.size b.size,fun k h=>(b.j2 k (Nat.lt_of_lt_of_le h a.size)).trans (a.j2 k h)⟩
def gE(cV:Nat->Prop):G:=⟨fun _=>none,cV⟩
theorem vX{cV:Nat->Prop}{w:World}(h: ∀ b,cV b->b<w.heap.size)(t:gT (gE cV) w):HR (gE cV) w (dM 0):=
 ⟨fun _ _=>rfl,(fun _ _ e=>by cases e),(fun _ _ _ _ _ _ _ e=>by cases e),h,t⟩
omit [Io] in
theorem zO{cV:Nat->Prop}{w:World}{g':G}{w':World}{h':Hp}(E:Ext (gE cV) w (dM 0) g' w' h'):pf w w':=
 ⟨E.os,E.tape,E.output,E.size,fun b hb=>E.j2 b hb (by rintro⟨id,cs,s,e,_⟩;cases e)⟩
def mapA(f:AV->Option AV)(l:List AV):Option (List AV):=
 List.rec (some []) (fun a _ ih=>match f a with
  |some b=>match ih with
   |some r=>some (b::r)
   |none=>none
  |none=>none) l
def mb(n:Nat):Hp->AV->Option AV:=
 Nat.rec (fun _ _=>none) (fun _ ih h a=>match a with
  | .dj id off n sz=>match h.aQ.get id with
   |some cs=>match cs.fN off (Nat.mul n sz)with
    |some l=>match mapA (ih h) l with
     |some l=>some (.fc n l)
     |none=>none
    |none=>none
   |none=>none
  | .ref id off=>match h.aQ.get id with
   |some cs=>match cs.fN off (Nat.sub cs.n off)with
    |some l=>match mapA (ih h) l with
     |some l=>some (.eh l)
     |none=>none
    |none=>none
   |none=>none
  | .agg l=>match mapA (ih h) l with
   |some l=>some (.agg l)
   |none=>none
  | .mw l=>match mapA (ih h) l with
   |some l=>some (.mw l)
   |none=>none
  | .fn f l=>match mapA (ih h) l with
   |some l=>some (.fn f l)
   |none=>none
  | .fc n l=>match mapA (ih h) l with
   |some l=>some (.fc n l)
   |none=>none
  | .eh l=>match mapA (ih h) l with
   |some l=>some (.eh l)
   |none=>none
  |a=>some a) n
theorem pO{g g':G}{w:World}{f:AV->Option AV}(hf: ∀ a a' v,f a=some a'->VR g w a v->VR g' w a' v): ∀ {l l':List AV} {vs:List Value},mapA f l=some l'->bA g w l vs->bA g' w l' vs
 | [],l',vs,e,h=>by cases e;simpa only[bA]using h
 |a::l,l',vs,e,h=>by
  change (match f a with|some b=>(match mapA f l with|some r=>some (b::r)|none=>none)|none=>none)=some l' at e
  simp only[bA]at h
  obtain⟨v,r,rfl,hv,hr⟩:=h
  cases h1:f a with
  |none=>rw[h1]at e;cases e
  |some b=>
   cases h2:mapA f l with
   |none=>rw[h1,h2]at e;cases e
   |some r'=>
    rw[h1,h2]at e
    cases e
    simp only[bA]
    exact⟨v,r,rfl,hf a b v h1 hv,pO hf h2 hr⟩
theorem NC{g g':G}{w:World}{h:Hp}(H:HR g w h)(hi: ∀ b,g.cV b->g'.cV b)(ho: ∀ b,eN g h b->g'.cV b): ∀ (n:Nat) (a a':AV) (v:Value),mb n h a=some a'->VR g w a v->VR g' w a' v:=by
 intro n
 induction n with
 |zero=>intro a a' v e;cases e
 |succ n ih=>
  intro a a' v e hv
  have hm:= @pO _ g g' w (mb n h) ih
  cases a with
  |int k n=>cases e;simpa only[VR]using hv
  |bool b=>cases e;simpa only[VR]using hv
  |sc x=>cases e;simpa only[VR]using hv
  |cW=>cases e;simpa only[VR]using hv
  |jm=>cases e;simpa only[VR]using hv
  |sym k s lo hi o=>cases e;simpa only[VR]using hv
  |any=>cases e;simpa only[VR]using hv
  |agg l=>
   change (match mapA (mb n h) l with|some l=>some (AV.agg l)|none=>none)=some a' at e
   cases h1:mapA (mb n h) l with
   |none=>rw[h1]at e;cases e
   |some l'=>
    rw[h1]at e
    cases e
    simp only[VR]at hv ⊢
    obtain⟨vs,e,q⟩:=hv
    exact⟨vs,e,hm h1 q⟩
  |mw l=>
   change (match mapA (mb n h) l with|some l=>some (AV.mw l)|none=>none)=some a' at e
   cases h1:mapA (mb n h) l with
   |none=>rw[h1]at e;cases e
   |some l'=>
    rw[h1]at e
    cases e
    simp only[VR]at hv ⊢
    obtain⟨vs,e,q⟩:=hv
    exact⟨vs,e,hm h1 q⟩
  |fn f l=>
   change (match mapA (mb n h) l with|some l=>some (AV.fn f l)|none=>none)=some a' at e
   cases h1:mapA (mb n h) l with
   |none=>rw[h1]at e;cases e
   |some l'=>
    rw[h1]at e
    cases e
    simp only[VR]at hv ⊢
    obtain⟨vs,e,q⟩:=hv
    exact⟨vs,e,hm h1 q⟩
  |fc m l=>
   change (match mapA (mb n h) l with|some l=>some (AV.fc m l)|none=>none)=some a' at e
   cases h1:mapA (mb n h) l with
   |none=>rw[h1]at e;cases e
   |some l'=>
    rw[h1]at e
    cases e
    simp only[VR]at hv ⊢
    obtain⟨x,cap,e,hle,q⟩:=hv
    refine⟨x,cap,e,hle,?_⟩
    rcases q with⟨q1,rfl⟩|⟨b,o,vs,q1,q2,q3,q4⟩
    ·cases h1
     exact .inl ⟨q1,rfl⟩
    ·exact .inr ⟨b,o,vs,q1,hi b q2,q3,hm h1 q4⟩
  |eh l=>
   change (match mapA (mb n h) l with|some l=>some (AV.eh l)|none=>none)=some a' at e
   cases h1:mapA (mb n h) l with
   |none=>rw[h1]at e;cases e
   |some l'=>
    rw[h1]at e
    cases e
    simp only[VR]at hv ⊢
    obtain⟨b,o,vs,q1,q2,q3,q4⟩:=hv
    exact⟨b,o,vs,q1,hi b q2,q3,hm h1 q4⟩
  |ref id off=>
   change (match h.aQ.get id with|some cs=>(match cs.fN off (Nat.sub cs.n off)with|some l=>(match mapA (mb n h) l with|some l=>some (AV.eh l)|none=>none)|none=>none)|none=>none)=some a' at e
   cases h0:h.aQ.get id with
   |none=>rw[h0]at e;cases e
   |some cs=>
   rw[h0]at e
   simp only at e
   cases hs:cs.fN off (Nat.sub cs.n off)with
   |none=>rw[hs]at e;cases e
   |some l=>
   rw[hs]at e
   simp only at e
   cases h1:mapA (mb n h) l with
   |none=>rw[h1]at e;cases e
   |some l'=>
    rw[h1]at e
    cases e
    obtain⟨rfl,_,_⟩:=fC hs
    simp only[VR]at hv ⊢
    obtain⟨b,s,Ec,rfl⟩:=hv
    obtain⟨C,el,vs,hw,_,da,hC⟩:=H.row h0 Ec
    exact⟨b,s+off,(vs.drop off).take (Nat.sub cs.n off),rfl,ho b ⟨id,cs,s,h0,Ec⟩,((dW hw hC).drop off).take _,hm h1 ((da.drop off).take _)⟩
  |dj id off m sz=>
   change (match h.aQ.get id with|some cs=>(match cs.fN off (Nat.mul m sz)with|some l=>(match mapA (mb n h) l with|some l=>some (AV.fc m l)|none=>none)|none=>none)|none=>none)=some a' at e
   cases h0:h.aQ.get id with
   |none=>rw[h0]at e;cases e
   |some cs=>
   rw[h0]at e
   simp only at e
   cases hs:cs.fN off (Nat.mul m sz)with
   |none=>rw[hs]at e;cases e
   |some l=>
   rw[hs]at e
   simp only at e
   cases h1:mapA (mb n h) l with
   |none=>rw[h1]at e;cases e
   |some l'=>
    rw[h1]at e
    cases e
    obtain⟨rfl,hlen,_⟩:=fC hs
    simp only[VR]at hv ⊢
    rcases hv with⟨rfl,x,rfl⟩|⟨b,s,cap,Ec,rfl,hle,_⟩
    ·refine⟨x,0,rfl,Nat.le_refl _,.inl ⟨rfl,?_⟩⟩
     have hz:Nat.mul 0 sz=0:=Nat.zero_mul sz
     rw[hz]at h1
     simp only[List.take_zero]at h1
     cases h1
     rfl
    ·obtain⟨C,el,vs,hw,_,da,hC⟩:=H.row h0 Ec
     exact⟨_,cap,rfl,hle,.inr ⟨b,s+off,(vs.drop off).take (Nat.mul m sz),rfl,ho b ⟨id,cs,s,h0,Ec⟩,((dW hw hC).drop off).take _,hm h1 ((da.drop off).take _)⟩⟩
end Go.Ab

noncomputable section
namespace Go.Ab
end Go.Ab

noncomputable section
namespace Go.Ab
variable [Io]
end Go.Ab
namespace Go.Ab
end Go.Ab

noncomputable section
namespace Go.Ab
variable [Io]
section
variable {P:Program}{call:bV}
end
end Go.Ab

noncomputable section
namespace Go.Ab
def Ed(P:Program)(f:FuncId)(k:IntKind)(A B:Int)(v:AV):Prop:=
 (∀ as w,(callFunc f as).run P w=.ok (.enter f as) w)/\ ∀ (I:Io) (x:Int),A<=x->x<=B-> ∀ (g:G) (w:World),(∀ b,g.cV b->b<w.heap.size)-> @gT I g w->
  Calls P f #[.int k x] w fun e w'=> ∃ y,e=.returned y/\pf w w'/\ @VR I (gE fun b=>g.cV b∨(w.heap.size<=b/\b<w'.heap.size)) w' v y
structure Row where
 k:IntKind
 A:Int
 B:Int
 v:AV
end Go.Ab

noncomputable section
namespace Go.Ab
def X4(r:Ro):Bool:=match r with
 | .ok (.bool b) _=>b
 | _=>false
theorem ND{r:Ro}(h:X4 r=true): ∃ h',r=.ok (.bool true) h':=by
 unfold X4 at h
 split at h
 ·subst h;exact⟨_,rfl⟩
 ·cases h
theorem pf.below{w w':World}(K:pf w w'):Go.RowKit.Below w.heap.size w w':=⟨K.os,K.tape,K.output,K.size,K.j2⟩
theorem NF[Io]{P:Program}{call:bV}(hc:cI P call){f:FuncId}{args:List AV}{vs:List Value}(e:X4 (call f args (dM 0))=true)(w:World){cV:Nat->Prop}(hi: ∀ b,cV b->b<w.heap.size)(ht:gT (gE cV) w)(hv:bA (gE cV) w args vs):
 Calls P f vs.toArray w fun e w'=>e=.returned (.bool true)/\Go.RowKit.Below w.heap.size w w':=by
 obtain⟨h',e'⟩:=ND e
 refine((hc f args (dM 0) _ h' e').2 (gE cV) w vs (vX hi ht) hv).mono ?_
 rintro e w' ⟨x,g',rfl,E,H',hx⟩
 simp only[VR]at hx
 subst hx
 exact⟨rfl,(zO E).below⟩
theorem yi{n:Int}(h:(Lit.int .u64 n).wf=true):0<=n/\n<=18446744073709551615:=by
 simp[Lit.wf,IntKind.min,IntKind.max,IntKind.bits,IntKind.signed]at h
 omega
def KR(P:Program)(f:FuncId)(l:List Row):Prop:= ∀ r∈l,Ed P f r.k r.A r.B r.v
theorem KR.cons{P:Program}{f:FuncId}{k:IntKind}{A B:Int}{v:AV}{l:List Row}(h:Ed P f k A B v)(t:KR P f l):KR P f (⟨k,A,B,v⟩::l):=by
 intro r hr
 cases hr with
 |head=>exact h
 |tail _ hr=>exact t r hr
end Go.Ab

noncomputable section
namespace Go.Ab
variable [Io]
section
variable {P:Program}
def vY(fn:FuncId->Option Fb)(n:Nat)(c:bV):bV:=fun f args h=>match fn f with
 |none=>.bad
 |some b=>ek (Nat.ble (len args) b.ntmps) (match b.body c n (fU args 0 Tm.none) h with
  | .norm t h=>fin b.res t h
  | .ret t h=>fin b.res t h
  | _=>.bad) .bad
theorem Ee{draw:bV->Nat->Array Oper->iu}(hd:tQ P draw){fn:FuncId->Option Fb}(hf: ∀ f b,fn f=some b->aZ P draw f b)(n:Nat){c:bV}(hc:cI P c):cI P (vY fn n c):=by
 intro f args h v h' e
 change (match fn f with
  |none=>Ro.bad
  |some b=>ek (Nat.ble (len args) b.ntmps) (match b.body (c) n (fU args 0 Tm.none) h with| .norm t h=>fin b.res t h| .ret t h=>fin b.res t h| _=>.bad) .bad)=.ok v h' at e
 cases hb:fn f with
 |none=>rw[hb]at e;cases e
 |some b=>
 rw[hb]at e
 simp only at e
 cases hle:Nat.ble (len args) b.ntmps with
 |false=>rw[hle]at e;cases e
 |true=>
 rw[hle]at e
 change (match b.body (c) n (fU args 0 Tm.none) h with| .norm t h=>fin b.res t h| .ret t h=>fin b.res t h| _=>.bad)=Ro.ok v h' at e
 rw[bJ]at hle
 have No:args.length<=b.ntmps:=Nat.ble_eq.mp hle
 have F0:=hf f b hb
 obtain⟨F,cd,hF,hcb,eS,pd,Np,DM⟩:=F0.ex
 refine⟨F0.enter,fun g w vs H hv=>?_⟩
 rw[DM]at e
 have DN:=zC hc (draw:=draw (c) b.ntmps) (nt:=b.ntmps) (fun id ops=>hd _ _ hc id ops) n cd
 have XR:=hv.length
 have sx:(vs.toArray++Array.replicate (F.ntmps - vs.toArray.size) undef).size=b.ntmps:=by simp;omega
 have Rv:TR g w b.ntmps Tm.none (vs.toArray++Array.replicate (F.ntmps - vs.toArray.size) undef):=
  ⟨pd,sx,fun i v hi e=>by rw[Tm.pC i hi]at e;cases e⟩
 have hT:=kE args vs 0 b.ntmps Tm.none _ hv (by omega) Rv (fun j v e=>by
  rw[Array.getElem?_append_left (by have:=(List.getElem?_eq_some_iff.1 e).1;simpa using this)]
  simpa using e)
 refine calls_of_wp hF hcb ?_
 have:=DN g w _ h {tmps:=vs.toArray++Array.replicate (F.ntmps - vs.toArray.size) undef,defers:=[]}
  (bodyPost P F (fun e w'=> ∃ x g',e=.returned x/\Ext g w h g' w' h'/\HR g' w' h'/\VR g' w' v x)) H hT rfl
 have vI: ∀ t1 h1,fin b.res t1 h1=.ok v h'-> ∀ g' w' (a':Act),Ext g w h g' w' h1->HR g' w' h1->TR g' w' b.ntmps t1 a'.tmps->a'.defers=[]->
  a'.defers=[]/\ ∃ x,(results F a'.tmps).run P w'=.ok x w'/\ ∃ y g',Ending.returned x=.returned y/\Ext g w h g' w' h'/\HR g' w' h'/\VR g' w' v y:=by
  intro t1 h1 Nq g' w' a' E' H' T' D'
  obtain⟨rfl,x,hx,BI⟩:=DK H' T' Np Nq
  exact⟨D',x,hx,x,g',rfl,E',H',BI⟩
 simp only at e
 cases hr:dX P (draw (c) b.ntmps) (c) n b.ntmps cd (fU args 0 Tm.none) h with
 |bad=>rw[hr]at e;cases e
 |norm t1 h1=>rw[hr]at e this;exact this (vI t1 h1 e)
 |ret t1 h1=>rw[hr]at e this;exact this (vI t1 h1 e)
 |exit i t1 h1=>rw[hr]at e;cases e
end
end Go.Ab

noncomputable section
namespace Go.Ab
open Go.ChangeShapes Go.WideShapes Go.ChangeAt Go.RowKit Go.Deep Go.Joins
end Go.Ab

noncomputable section
namespace Go.Ab
variable [Io]
end Go.Ab
namespace Go.Ab
variable [Io]
section
variable {P:Program}
def na(fn:FuncId->Option Fb)(wr:bV->bV)(n:Nat)(d:Nat):bV:=Nat.rec (fun _ _ _=>.bad) (fun _ ih=>vY fn n (wr ih)) d
theorem qM{draw:bV->Nat->Array Oper->iu}(hd:tQ P draw){fn:FuncId->Option Fb}(hf: ∀ f b,fn f=some b->aZ P draw f b){wr:bV->bV}
 (hw: ∀ c,cI P c->cI P (wr c))(n:Nat): ∀ d,cI P (na fn wr n d)
 |0=>by intro f args h v h' e;cases e
 |d+1=>Ee hd hf n (hw _ (qM hd hf hw n d))
theorem bA.split{g:G}{w:World}: ∀ {l r:List AV} {vs:List Value},bA g w (l++r) vs-> ∃ us ts,vs=us++ts/\bA g w l us/\bA g w r ts
 | [],r,vs,h=>⟨[],vs,rfl,by simp[bA],h⟩
 |a::l,r,vs,h=>by
  simp only[List.cons_append,bA]at h
  obtain⟨v,l',rfl,q,p⟩:=h
  obtain⟨us,ts,rfl,h1,h2⟩:=bA.split p
  refine⟨v::us,ts,rfl,?_,h2⟩
  simp only[bA]
  exact⟨v,us,rfl,q,h1⟩
end
end Go.Ab
namespace Go.Ab
variable [Io]
end Go.Ab

noncomputable section
namespace Go.Ab
variable [Io]
def nc(n:Nat):Hp->AV->Option AV:=
 Nat.rec (fun _ _=>none) (fun _ ih h a=>match a with
  | .dj id off n sz=>match h.aQ.get id with
   |some cs=>match cs.fN off (Nat.mul n sz)with
    |some l=>match mapA (ih h) l with
     |some l=>some (.fc n l)
     |none=>none
    |none=>none
   |none=>none
  | .ref id off=>match h.aQ.get id with
   |some cs=>match cs.fN off (Nat.sub cs.n off)with
    |some l=>match mapA (ih h) l with
     |some l=>some (.eh l)
     |none=>none
    |none=>none
   |none=>none
  | .agg l=>match mapA (ih h) l with
   |some l=>some (.agg l)
   |none=>none
  | .mw l=>match mapA (ih h) l with
   |some l=>some (.mw l)
   |none=>none
  | .fn f l=>match mapA (ih h) l with
   |some l=>some (.fn f l)
   |none=>none
  | .fc _ _=>none
  | .eh _=>none
  |a=>some a) n
theorem IT{g g':G}{w:World}{h:Hp}(H:HR g w h)(ho: ∀ b,eN g h b->g'.cV b): ∀ (n:Nat) (a a':AV) (v:Value),nc n h a=some a'->VR g w a v->VR g' w a' v:=by
 intro n
 induction n with
 |zero=>intro a a' v e;cases e
 |succ n ih=>
  intro a a' v e hv
  have hm:= @pO _ g g' w (nc n h) ih
  cases a with
  |int k n=>cases e;simpa only[VR]using hv
  |bool b=>cases e;simpa only[VR]using hv
  |sc x=>cases e;simpa only[VR]using hv
  |cW=>cases e;simpa only[VR]using hv
  |jm=>cases e;simpa only[VR]using hv
  |sym k s lo hi o=>cases e;simpa only[VR]using hv
  |any=>cases e;simpa only[VR]using hv
  |agg l=>
   change (match mapA (nc n h) l with|some l=>some (AV.agg l)|none=>none)=some a' at e
   cases h1:mapA (nc n h) l with
   |none=>rw[h1]at e;cases e
   |some l'=>
    rw[h1]at e
    cases e
    simp only[VR]at hv ⊢
    obtain⟨vs,e,q⟩:=hv
    exact⟨vs,e,hm h1 q⟩
  |mw l=>
   change (match mapA (nc n h) l with|some l=>some (AV.mw l)|none=>none)=some a' at e
   cases h1:mapA (nc n h) l with
   |none=>rw[h1]at e;cases e
   |some l'=>
    rw[h1]at e
    cases e
    simp only[VR]at hv ⊢
    obtain⟨vs,e,q⟩:=hv
    exact⟨vs,e,hm h1 q⟩
  |fn f l=>
   change (match mapA (nc n h) l with|some l=>some (AV.fn f l)|none=>none)=some a' at e
   cases h1:mapA (nc n h) l with
   |none=>rw[h1]at e;cases e
   |some l'=>
    rw[h1]at e
    cases e
    simp only[VR]at hv ⊢
    obtain⟨vs,e,q⟩:=hv
    exact⟨vs,e,hm h1 q⟩
  |fc m l=>cases e
  |eh l=>cases e
  |ref id off=>
   change (match h.aQ.get id with|some cs=>(match cs.fN off (Nat.sub cs.n off)with|some l=>(match mapA (nc n h) l with|some l=>some (AV.eh l)|none=>none)|none=>none)|none=>none)=some a' at e
   cases h0:h.aQ.get id with
   |none=>rw[h0]at e;cases e
   |some cs=>
   rw[h0]at e
   simp only at e
   cases hs:cs.fN off (Nat.sub cs.n off)with
   |none=>rw[hs]at e;cases e
   |some l=>
   rw[hs]at e
   simp only at e
   cases h1:mapA (nc n h) l with
   |none=>rw[h1]at e;cases e
   |some l'=>
    rw[h1]at e
    cases e
    obtain⟨rfl,_,_⟩:=fC hs
    simp only[VR]at hv ⊢
    obtain⟨b,s,Ec,rfl⟩:=hv
    obtain⟨C,el,vs,hw,_,da,hC⟩:=H.row h0 Ec
    exact⟨b,s+off,(vs.drop off).take (Nat.sub cs.n off),rfl,ho b ⟨id,cs,s,h0,Ec⟩,((dW hw hC).drop off).take _,hm h1 ((da.drop off).take _)⟩
  |dj id off m sz=>
   change (match h.aQ.get id with|some cs=>(match cs.fN off (Nat.mul m sz)with|some l=>(match mapA (nc n h) l with|some l=>some (AV.fc m l)|none=>none)|none=>none)|none=>none)=some a' at e
   cases h0:h.aQ.get id with
   |none=>rw[h0]at e;cases e
   |some cs=>
   rw[h0]at e
   simp only at e
   cases hs:cs.fN off (Nat.mul m sz)with
   |none=>rw[hs]at e;cases e
   |some l=>
   rw[hs]at e
   simp only at e
   cases h1:mapA (nc n h) l with
   |none=>rw[h1]at e;cases e
   |some l'=>
    rw[h1]at e
    cases e
    obtain⟨rfl,hlen,_⟩:=fC hs
    simp only[VR]at hv ⊢
    rcases hv with⟨rfl,x,rfl⟩|⟨b,s,cap,Ec,rfl,hle,_⟩
    ·refine⟨x,0,rfl,Nat.le_refl _,.inl ⟨rfl,?_⟩⟩
     have hz:Nat.mul 0 sz=0:=Nat.zero_mul sz
     rw[hz]at h1
     simp only[List.take_zero]at h1
     cases h1
     rfl
    ·obtain⟨C,el,vs,hw,_,da,hC⟩:=H.row h0 Ec
     exact⟨_,cap,rfl,hle,.inr ⟨b,s+off,(vs.drop off).take (Nat.mul m sz),rfl,ho b ⟨id,cs,s,h0,Ec⟩,((dW hw hC).drop off).take _,hm h1 ((da.drop off).take _)⟩⟩
mutual
def j6:AV->Bool
 | .agg l=>jT l
 | .mw l=>jT l
 | .fc _ l=>jT l
 | .eh l=>jT l
 | .fn _ l=>jT l
 | .ref _ _=>false
 | .dj _ _ _ _=>false
 | _=>true
def jT:List AV->Bool
 | []=>true
 |a::l=>j6 a&&jT l
end
mutual
theorem VR.j6{g:G}{w:World}: ∀ (a:AV) (v:Value),j6 a=true->VR g w a v->VR (gE g.cV) w a v
 | .int _ _,v,n,r=>by simpa only[VR]using r
 | .bool _,v,n,r=>by simpa only[VR]using r
 | .sc _,v,n,r=>by simpa only[VR]using r
 | .cW,v,n,r=>by simpa only[VR]using r
 | .jm,v,n,r=>by simpa only[VR]using r
 | .any,v,n,r=>by simpa only[VR]using r
 | .sym _ _ _ _ _,v,n,r=>by simpa only[VR]using r
 | .ref _ _,v,n,r=>by cases n
 | .dj _ _ _ _,v,n,r=>by cases n
 | .agg cs,v,n,r=>by
  simp only[VR]at r ⊢
  obtain⟨vs,e,q⟩:=r
  exact⟨vs,e,bA.j6 cs _ n q⟩
 | .mw cs,v,n,r=>by
  simp only[VR]at r ⊢
  obtain⟨vs,e,q⟩:=r
  exact⟨vs,e,bA.j6 cs _ n q⟩
 | .fn f cs,v,n,r=>by
  simp only[VR]at r ⊢
  obtain⟨vs,e,q⟩:=r
  exact⟨vs,e,bA.j6 cs _ n q⟩
 | .fc m cs,v,n,r=>by
  simp only[VR]at r ⊢
  obtain⟨a,cap,e,l,r⟩:=r
  refine⟨a,cap,e,l,?_⟩
  rcases r with r|⟨b,o,vs,e,i,c,q⟩
  ·exact .inl r
  ·exact .inr ⟨b,o,vs,e,i,c,bA.j6 cs _ n q⟩
 | .eh cs,v,n,r=>by
  simp only[VR]at r ⊢
  obtain⟨b,o,vs,e,i,c,q⟩:=r
  exact⟨b,o,vs,e,i,c,bA.j6 cs _ n q⟩
theorem bA.j6{g:G}{w:World}: ∀ (l:List AV) (vs:List Value),jT l=true->bA g w l vs->bA (gE g.cV) w l vs
 | [],vs,n,r=>by simpa only[bA]using r
 |a::l,vs,n,r=>by
  simp only[jT,Bool.and_eq_true]at n
  simp only[bA]at r ⊢
  obtain⟨v,l',e,q,r⟩:=r
  exact⟨v,l',e,VR.j6 a v n.1 q,bA.j6 l l' n.2 r⟩
end
def bQ(P:Program)(f:FuncId)(args:List AV)(v:AV):Prop:=
 (∀ as w,(callFunc f as).run P w=.ok (.enter f as) w)/\ ∀ (g:G) (w:World) (vs:List Value),(∀ b,g.cV b->b<w.heap.size)->gT g w->bA g w args vs->
  Calls P f vs.toArray w fun e w'=> ∃ x,e=.returned x/\pf w w'/\VR (gE fun b=>w.heap.size<=b/\b<w'.heap.size) w' v x
def Ze(r:Ro):Option AV:=Ro.rec none (fun v h=>nc 8 h v) r
theorem sH{P:Program}{call:bV}(hc:cI P call){f:FuncId}{args:List AV}{v':AV}(e:Ze (call f args (dM 0))=some v')(ha:jT args=true):bQ P f args v':=by
 cases hr:call f args (dM 0)with
 |bad=>rw[hr]at e;cases e
 |ok v h'=>
 rw[hr]at e
 have hf:nc 8 h' v=some v':=e
 obtain⟨Rp,sw⟩:=hc f args (dM 0) v h' hr
 refine⟨Rp,fun g w vs hi ht hv=>(sw (gE g.cV) w vs (vX hi ht) (bA.j6 _ _ ha hv)).mono ?_⟩
 rintro e w' ⟨x,g',rfl,E,H',hx⟩
 refine⟨x,rfl,zO E,IT H' (fun b k=>?_) 8 v v' x hf hx⟩
 rcases E.jq b k with⟨id,cs,s,e,_⟩|k1
 ·cases e
 ·obtain⟨id,cs,s,e,m⟩:=k
  obtain⟨_,_,_,hw,_⟩:=H'.row e m
  exact⟨k1,(Array.getElem?_eq_some_iff.1 hw).1⟩
def NG(has:FuncId->Bool)(RL:FuncId->List AV->Option AV)(call:bV):bV:=fun f args h=>Bool.rec (call f args h) (match mapA (mb 8 h) args with
 |some kL=>match RL f kL with
  |some v=>.ok v h
  |none=>call f args h
 |none=>call f args h) (has f)
theorem IU{P:Program}{has:FuncId->Bool}{RL:FuncId->List AV->Option AV}{call:bV}(ht: ∀ f args v,RL f args=some v->bQ P f args v)(hc:cI P call):cI P (NG has RL call):=by
 intro f args h v h' e
 unfold NG at e
 cases hh:has f with
 |false=>rw[hh]at e;exact hc f args h v h' e
 |true=>
 rw[hh]at e
 simp only at e
 cases Qn:mapA (mb 8 h) args with
 |none=>rw[Qn]at e;exact hc f args h v h' e
 |some kL=>
 rw[Qn]at e
 simp only at e
 cases NH:RL f kL with
 |none=>rw[NH]at e;exact hc f args h v h' e
 |some v1=>
  rw[NH]at e
  cases e
  obtain⟨k1,k2⟩:=ht f kL v NH
  refine⟨k1,fun g w vs H hv=>?_⟩
  have Rk:bA (gE fun b=>b<w.heap.size) w kL vs:=pO (g:=g) (fun a a' x=>NC H (g':=gE fun b=>b<w.heap.size) H.cV (fun b ⟨id,cs,s,e,m⟩=>by
   obtain⟨_,_,_,hw,_⟩:=H.row e m
   exact(Array.getElem?_eq_some_iff.1 hw).1) 8 a a' x) Qn hv
  refine(k2 (gE fun b=>b<w.heap.size) w vs (fun b k=>k) (fun p hp=>⟨H.cV _ (H.tb p hp).1,(H.tb p hp).2⟩) Rk).mono ?_
  rintro e w' ⟨x,rfl,K,hx⟩
  obtain⟨g',ua⟩: ∃ g':G,g'=⟨g.m,fun b=>g.cV b∨(w.heap.size<=b/\b<w'.heap.size)⟩:=⟨_,rfl⟩
  have hO: ∀ b,eN g' h b->eN g h b:=by
   rintro b ⟨id,cs,s,e,m⟩
   rw[ua]at m
   exact⟨id,cs,s,e,m⟩
  have M:jr g w g' w':=⟨fun _ _ e=>by rw[ua];exact e,fun b i=>by rw[ua];exact .inl i,fun b i=>K.j2 b (H.cV b i),K.rows⟩
  refine⟨x,g',rfl,⟨K.os,K.tape,K.output,K.size,Nat.le_refl _,M.m,fun b hb _=>K.j2 b hb,K.rows,M.cV,fun b i=>?_,fun b o=>.inl (hO b o)⟩,⟨fun id eO=>?_,fun id cs e=>?_,fun id o6 b s s' cs cs' e1 e2 m1 m2=>?_,fun b i=>?_,gT.mono M H.tb⟩,?_⟩
  ·rw[ua]at i
   rcases i with i|i
   ·exact .inl i
   ·exact .inr (.inr i.1)
  ·rw[ua];exact H.fresh id eO
  ·obtain⟨b,s,C,el,us,h1,h2,h3,h4,h5⟩:=H.aQ id cs e
   have hb:=(Array.getElem?_eq_some_iff.1 h2).1
   refine⟨b,s,C,el,us,M.m _ _ h1,by rw[K.j2 b hb];exact h2,?_,bA.dB M _ _ h4,h5⟩
   rw[ua]
   rintro(i|i)
   ·exact h3 i
   ·omega
  ·rw[ua]at m1 m2
   exact H.inj id o6 b s s' cs cs' e1 e2 m1 m2
  ·rw[ua]at i
   rcases i with i|i
   ·exact Nat.lt_of_lt_of_le (H.cV b i) K.size
   ·exact i.2
  ·refine VR.dB (⟨(fun _ _ e=>by cases e),(fun b i=>by rw[ua];exact .inr i),fun _ _=>rfl,fun _=>Nat.le_refl _⟩:jr _ _ g' w') _ _ hx
structure Kn where
 f:FuncId
 args:List AV
 v:AV
def KT(P:Program)(rows:List Kn):Prop:= ∀ r∈rows,bQ P r.f r.args r.v
theorem KT.cons{P:Program}{f:FuncId}{args:List AV}{v:AV}{l:List Kn}(h:bQ P f args v)(t:KT P l):KT P (⟨f,args,v⟩::l):=by
 intro r hr
 cases hr with
 |head=>exact h
 |tail _ hr=>exact t r hr
end Go.Ab

noncomputable section
namespace Go.Ab
inductive Od where
 |t (i:Nat)
 |c (v:AV)
 |zz
 |w (o:Od)
inductive BF where
 |add|sub|mul|quo|rem|and|or|xor|andNot|shl|shr|lss|leq|gtr|geq
 |eqI (neg:Bool)|Le (neg:Bool)|GQ (neg:Bool)|X5 (neg:Bool)|X6 (neg:Bool)|iK (neg:Bool) (l:List Bool)
inductive UF where
 |not|neg|xor|int (k:IntKind)
inductive fZ where
 |mv (a:Od)|pk (c a b:Od)|nw (cs:List AV)|bx (a:Od)|bd (z:List AV) (ps:List (Nat×Nat×Od))|rw(n sz:Nat) (z:List AV) (ps:List (Nat×Od))
 |ld (sz:Nat) (agg:Bool) (a:Od)|sto (sz:Nat) (a b:Od)|nl (a:Od)|bn (f:BF) (a b:Od)|un (f:UF) (a:Od)|bys (a:Od)|fn (f:FuncId) (cap:List Od)
 |mk (size bytes:Nat) (zero:List AV) (l c:Od)|slS (a:Od) (lo hi:Option Od)|slN (size:Nat) (a:Od) (lo hi:Option Od)|slA (n size:Nat) (a:Od) (lo hi:Option Od)
 |fa (off:Nat) (a:Od)|fd (off size:Nat) (agg:Bool) (a:Od)|ixS (size:Nat) (a i:Od)|ixA (n size:Nat) (a i:Od)|ix (n size:Nat) (agg:Bool) (a i:Od)|ixT (a i:Od)
 |ex (a:Od) (i:Nat)|lnT (a:Od)|ln (a:Od)|ap (size bytes:Nat) (s a:Od)|apZ (size bytes:Nat) (z:List AV) (s a:Od)|apS (bytes:Nat) (s a:Od)|mrk (a:Od)
 |cpy (size:Nat) (d s:Od)|emp (a b c:Od)|min (a b:Od)|max (a b:Od)|map|cap (a:Od)|bad|call (f:FuncId) (args:List Od)|callV (f:Od) (args:List Od)
 |gd (j:Od) (want:Bool) (f:fZ)|mn (f:fZ)
inductive rR where
 |fi
 |st (i:Nat) (f:fZ) (k:rR)
 |sn (f:fZ) (k:rR)
 |ck (s:Od) (f:fZ) (k:rR)
inductive j7 where
 |rg (r:rR)|sk|sq (a b:j7)|Qw (c:Od) (a b:j7)|bl (id:Nat) (b:j7)|lp (b:j7)|ex (i:Nat)|rt|bad
structure bR where
 ntmps:Nat
 res:List RV
 code:j7
def bC(o:Od):dk:=Od.rec (fun i=>oT i) (fun v=>oC v) oX (fun _ ih=>wO ih) o
def BF.f:BF->AV->AV->Option AV
 | .add=>aX| .sub=>cg| .mul=>eQ| .quo=>mA| .rem=>mz| .and=>cB| .or=>gh| .xor=>rZ| .andNot=>jF| .shl=>fl| .shr=>cM
 | .lss=>aV| .leq=>cC| .gtr=>cK| .geq=>bS
 | .eqI n=>ak n| .Le n=>th n| .GQ n=>p6 n| .X5 n=>gQ n| .X6 n=>gR n| .iK n l=>xE n l
def UF.f:UF->AV->Option AV
 | .not=>eA| .neg=>tl| .xor=>Bg| .int k=>aM k
def yj(call:bV)(o:fZ):dh:=match o with
 | .mv a=>aa (bC a)| .pk c a b=>aR (bC c) (bC a) (bC b)| .nw cs=>cf cs| .bx a=>cp (bC a)
 | .bd z ps=>ao z (ps.map fun p=>(p.1,p.2.1,bC p.2.2))| .rw n sz z ps=>bp n sz z (ps.map fun p=>(p.1,bC p.2))
 | .ld sz agg a=>ae sz agg (bC a)| .sto sz a b=>aA sz (bC a) (bC b)| .nl a=>aB (bC a)| .bn f a b=>af f.f (bC a) (bC b)| .un f a=>bL f.f (bC a)
 | .bys a=>jH (bC a)| .fn f cap=>GR f (cap.map bC)| .mk s b z l c=>jo s b z (bC l) (bC c)
 | .slS a lo hi=>ct (bC a) (lo.map bC) (hi.map bC)| .slN s a lo hi=>bM s (bC a) (lo.map bC) (hi.map bC)| .slA n s a lo hi=>en n s (bC a) (lo.map bC) (hi.map bC)
 | .fa off a=>ab off (bC a)| .fd off s g a=>iy off s g (bC a)| .ixS s a i=>bq s (bC a) (bC i)| .ixA n s a i=>j9 n s (bC a) (bC i)| .ix n s g a i=>gH n s g (bC a) (bC i)| .ixT a i=>bK (bC a) (bC i)
 | .ex a i=>aJ (bC a) i| .lnT a=>fy (bC a)| .ln a=>aT (bC a)| .ap s b x y=>aF s b (bC x) (bC y)| .apZ s b z x y=>j1 s b z (bC x) (bC y)| .apS b x y=>mE b (bC x) (bC y)
 | .mrk a=>lS (bC a)| .cpy s d a=>fQ s (bC d) (bC a)| .emp a b c=>qa (bC a) (bC b) (bC c)| .min a b=>nS (bC a) (bC b)| .max a b=>rJ (bC a) (bC b)| .map=>Bh| .cap a=>mC (bC a)| .bad=>bE
 | .call f args=>aj call f (args.map bC)| .callV f args=>eB call (bC f) (args.map bC)
 | .gd j want f=>gF (bC j) want (yj call f)| .mn f=>mn (yj call f)
def Cw(call:bV)(r:rR):iu:=
 rR.rec Go.Ab.fi (fun i f _ ih=>st (sT i) (yj call f) ih) (fun f _ ih=>sn (yj call f) ih) (fun s f _ ih=>ck (bC s) (yj call f) ih) r
def iL(call:bV)(n:Nat)(c:j7):rD:=
 j7.rec (fun r=>ai (Cw call r)) aY (fun _ _ a b=>ah a b) (fun c _ _ a b=>aD (bC c) a b) (fun id _ b=>bP id b) (fun _ b=>dH n b) (fun i=>dK i) ba u9 c
def bR.fb(b:bR):Fb:=⟨b.ntmps,b.res,fun call n=>iL call n b.code⟩
namespace X
abbrev oC(v:AV):Od:=.c v
abbrev oT(i:Nat):Od:=.t i
abbrev oX:Od:=.zz
abbrev wO(o:Od):Od:=.w o
abbrev aa:=fZ.mv
abbrev aR:=fZ.pk
abbrev cf:=fZ.nw
abbrev cp:=fZ.bx
abbrev ao:=fZ.bd
abbrev bp:=fZ.rw
abbrev ae:=fZ.ld
abbrev aA:=fZ.sto
abbrev aB:=fZ.nl
abbrev af:=fZ.bn
abbrev bL:=fZ.un
abbrev jH:=fZ.bys
abbrev GR:=fZ.fn
abbrev jo:=fZ.mk
abbrev ct:=fZ.slS
abbrev bM:=fZ.slN
abbrev en:=fZ.slA
abbrev ab:=fZ.fa
abbrev iy:=fZ.fd
abbrev bq:=fZ.ixS
abbrev j9:=fZ.ixA
abbrev gH:=fZ.ix
abbrev bK:=fZ.ixT
abbrev aJ:=fZ.ex
abbrev fy:=fZ.lnT
abbrev aT:=fZ.ln
abbrev aF:=fZ.ap
abbrev j1:=fZ.apZ
abbrev mE:=fZ.apS
abbrev lS:=fZ.mrk
abbrev fQ:=fZ.cpy
abbrev qa:=fZ.emp
abbrev nS:=fZ.min
abbrev rJ:=fZ.max
abbrev Bh:=fZ.map
abbrev mC:=fZ.cap
abbrev bE:=fZ.bad
abbrev aj(_:Unit)(f:FuncId)(args:List Od):=fZ.call f args
abbrev eB(_:Unit)(f:Od)(args:List Od):=fZ.callV f args
abbrev gF:=fZ.gd
abbrev mn:=fZ.mn
abbrev fi:=rR.fi
abbrev st:=rR.st
abbrev sn:=rR.sn
abbrev ck:=rR.ck
abbrev ai:=j7.rg
abbrev aY:=j7.sk
abbrev ah:=j7.sq
abbrev aD:=j7.Qw
abbrev bP:=j7.bl
abbrev dH(_:Unit)(b:j7):=j7.lp b
abbrev dK:=j7.ex
abbrev ba:=j7.rt
abbrev u9:=j7.bad
abbrev aX:=BF.add
abbrev cg:=BF.sub
abbrev eQ:=BF.mul
abbrev mA:=BF.quo
abbrev mz:=BF.rem
abbrev cB:=BF.and
abbrev gh:=BF.or
abbrev rZ:=BF.xor
abbrev jF:=BF.andNot
abbrev fl:=BF.shl
abbrev cM:=BF.shr
abbrev aV:=BF.lss
abbrev cC:=BF.leq
abbrev cK:=BF.gtr
abbrev bS:=BF.geq
abbrev ak:=BF.eqI
abbrev th:=BF.Le
abbrev p6:=BF.GQ
abbrev gQ:=BF.X5
abbrev gR:=BF.X6
abbrev xE:=BF.iK
abbrev eA:=UF.not
abbrev tl:=UF.neg
abbrev Bg:=UF.xor
abbrev aM:=UF.int
abbrev bb(n:Nat)(r:List RV)(b:Unit->Unit->j7):bR:=⟨n,r,b () ()⟩
end X
end Go.Ab
