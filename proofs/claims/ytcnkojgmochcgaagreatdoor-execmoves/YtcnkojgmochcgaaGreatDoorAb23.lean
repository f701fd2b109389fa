import Derived.Test.YtcnkojgmochcgaaGreatDoorAb17
import Derived.KernelRfl
import Derived.Below
import Derived.Lib.SmallJoins
noncomputable section
namespace Go.Ab
variable [Io]
section
variable {P:Program}{call:bP}
def Ci(f:dg):Prop:= ∀ t h v h',f t h=.ok v h'->h'=h
omit [Io] in
theorem tP{b:Bool}{x:Ro}{v:AV}{h:Hp}(e:(bif b then x else .bad)=.ok v h):x=.ok v h:=by cases b;cases e;exact e
omit [Io] in
theorem iz:Ci bA:=by intro t h v h' e;cases e
omit [Io] in
theorem DT{c:Bool}{f:dg}(i:Ci f):Ci (ej c f bA):=by cases c;exact iz;exact i
omit [Io] in
theorem ID{n:Nat}{b:Bool}{x:dj}:Ci (ae n b x):=by
 intro t h v h' e
 unfold ae at e
 split at e
 ·split at e
  ·cases e;rfl
  ·cases e
 ·cases e
omit [Io] in
theorem BE{x:dj}{lo hi:Option dj}:Ci (ct x lo hi):=by
 intro t h v h' e
 unfold ct at e
 split at e
 ·split at e
  ·cases e;rfl
  ·cases e
 ·cases e
omit [Io] in
theorem DU{n:Nat}{x:dj}{lo hi:Option dj}:Ci (iU n x lo hi):=by
 intro t h v h' e
 unfold iU at e
 split at e
 ·split at e
  ·cases e;rfl
  ·cases e
 ·split at e
  ·have e:=tP e
   cases e;rfl
  ·cases e
 ·split at e
  ·cases e;rfl
  ·cases e
 ·cases e
omit [Io] in
theorem BG{n:Nat}{x:dj}{lo hi:Option dj}:Ci (bB n x lo hi):=by
 intro t h v h' e
 unfold bB at e
 split at e
 ·rename_i a hx
  cases hE:l8 a with
  |false=>rw[hE]at e;exact DU _ _ _ _ e
  |true=>
   rw[hE]at e
   simp only[cond_true]at e
   split at e
   ·cases e;rfl
   ·cases e
 ·cases e
omit [Io] in
theorem BH{n m:Nat}{x:dj}{lo hi:Option dj}:Ci (ek n m x lo hi):=by
 intro t h v h' e
 unfold ek at e
 split at e
 ·split at e
  ·split at e
   ·have e:=tP e
    cases e;rfl
   ·cases e
  ·cases e
 ·cases e
omit [Io] in
theorem NI{x y z:dj}:Ci (pY x y z):=by
 intro t h v h' e
 unfold pY at e
 split at e
 ·split at e
  ·have e:=tP e
   split at e
   ·cases e;rfl
   ·cases e;rfl
   ·cases e;rfl
   ·cases e
  ·cases e
 ·cases e
omit [Io] in
theorem NJ{o:Op}(hc:(jG P call o).1=.p1):Ci (jG P call o).2:=by
 cases o<;>simp only[jG]at hc ⊢
 case load T x=>
  unfold vA
  split
  ·split
   ·exact ID
   ·exact iz
  ·exact iz
 case slice T x lo hi mx=>
  cases mx with
  |some m=>
   simp only
   unfold mU
   split
   ·split
    ·split
     ·exact NI
     ·exact iz
    ·exact iz
   ·exact iz
  |none=>
   simp only
   unfold qo
   split
   ·exact BE
   ·split
    ·exact BG
    ·exact iz
   ·split
    ·exact DT BH
    ·exact iz
   ·exact iz
 case binOp op T x y yT=>cases h:vz P op T<;>rw[h]at hc<;>cases hc
 case unOp op T x=>cases h:Nw op<;>rw[h]at hc<;>cases hc
 case convert S D x=>
  cases h:P.underlying D with
  |none=>rw[h]at hc;cases hc
  |some d=>cases d<;>rw[h]at hc<;>cases hc
 case makeFunc f first caps=>
  cases f<;>try (cases hc;done)
  simp only at hc
  cases h:first.toList<;>rw[h]at hc<;>cases hc
 case makeMap T r=>cases r<;>cases hc
 case call c=>cases h:eW P c<;>rw[h]at hc<;>cases hc
 all_goals (cases hc)
omit [Io] in
theorem DV{nt:Nat}{all:List Oper}{o:Oper}(dH:(jG P call o.op).1=.p1):Ci (gv P call nt all o):=by
 have hf:Ci (jG P call o.op).2:=NJ dH
 unfold gv
 cases o.guard with
 |none=>exact hf
 |some p=>
  obtain⟨j,want⟩:=p
  simp only
  split
  ·split
   ·refine DT ?_
    intro t h v h' e
    unfold gF at e
    split at e
    ·rename_i b _
     cases hw:ej want b (!b)with
     |false=>rw[hw]at e;cases e;rfl
     |true=>rw[hw]at e;exact hf t h v h' e
    ·cases e;rfl
    ·cases e
   ·exact iz
  ·exact iz
end
omit [Io] in
theorem jn{b x:Bool}(h:(Bool.rec true x b:Bool)=true)(hb:b=true):x=true:=by subst hb;exact h
namespace Cx
variable {c:Cx}
omit [Io] in
theorem ga{k:Cl}{i:Nat}:nb c.P c.call c.ops.toList k i=true↔c.cy i k:=by
 unfold nb cy
 rw[dW]
 constructor
 ·intro h
  split at h
  ·rename_i o ho
   exact⟨o,by simpa using ho,DS h⟩
  ·cases h
 ·rintro⟨o,ho,hk⟩
  have:c.ops.toList[i]? =some o:=by simpa using ho
  rw[this,<-hk]
  simp only
  cases(jG c.P c.call o.op).1<;>rfl
omit [Io] in
theorem qC{bH:List Nat}{i:Nat}(h:xz c.nt c.ops.toList bH i=true): ∀ u∈c.GM i,u<c.nt/\((∀ j,c.gZ j u->j∈bH/\c.An i j)∨ ∀ j,c.gZ j u->j∉bH/\c.An j i/\ ¬ c.An i j):=by
 unfold xz at h
 rw[dW]at h
 unfold GM
 intro u hu
 cases ho:c.ops[i]? with
 |none=>rw[ho]at hu;cases hu
 |some o=>
  rw[ho]at hu
  have:c.ops.toList[i]? =some o:=by simpa using ho
  rw[this]at h
  simp only[eP,List.all_eq_true]at h
  have:=h u hu
  rw[Bool.and_eq_true]at this
  refine⟨bh.1 this.1,?_⟩
  cases h1:allI (fun j o'=>Bool.rec true (gG j bH&&x7 c.ops.toList i j) (so o' u)) c.ops.toList 0 with
  |true=>
   refine .inl ?_
   rintro j ⟨oj,Zv,hd⟩
   have h2:=jn (gm h1 j oj (by simpa using Zv)) (oh hd)
   rw[Bool.and_eq_true,gk]at h2
   exact h2
  |false=>
   rw[h1]at this
   refine .inr ?_
   rintro j ⟨oj,Zv,hd⟩
   have h2:=jn (gm this.2 j oj (by simpa using Zv)) (oh hd)
   simp only[Bool.and_eq_true,Bool.not_eq_true']at h2
   refine⟨fun k=>?_,h2.2.1,fun k=>?_⟩
   ·rw[gk.2 k]at h2;cases h2.1
   ·unfold An at k;rw[k]at h2;cases h2.2.2
def Cov(c:Cx)(bH:List Nat)(u:Nat):Prop:= ∀ j,c.gZ j u->j∈bH
def Ly(c:Cx)(bH:List Nat)(t:Tm):Prop:= ∀ u,u<512->(∀ j,c.gZ j u->j∉bH)->t.at u=c.t0.at u
def Fr(c:Cx)(bH:List Nat)(t:Tm):Prop:= ∀ u,u<512->c.Cov bH u->c.te.at u=t.at u
omit [Io] in
theorem nc{i:Nat}{k:ic}{t:Tm}{h:Hp}{te:Tm}{hE:Hp}(e:IC c.P c.call c.nt c.ops.toList i k t h=.ok te hE):
 ∃ o v h1 t1,c.ops[i]? =some o/\gv c.P c.call c.nt c.ops.toList o t h=.ok v h1/\k t1 h1=.ok te hE/\((∃ d,o.dst=some d/\d<c.nt/\t1=sT d v t)∨(o.dst=none/\t1=t)):=by
 unfold IC at e
 rw[dW]at e
 cases ho:c.ops.toList[i]? with
 |none=>rw[ho]at e;cases e
 |some o=>
  rw[ho]at e
  simp only at e
  have hI:c.ops[i]? =some o:=by simpa using ho
  cases hd:o.dst with
  |none=>
   rw[hd]at e
   change sn (gv c.P c.call c.nt c.ops.toList o) k t h=_ at e
   unfold sn at e
   cases hg:gv c.P c.call c.nt c.ops.toList o t h with
   |bad=>rw[hg]at e;cases e
   |ok v h1=>rw[hg]at e;exact⟨o,v,h1,t,hI,hg,e,.inr ⟨hd,rfl⟩⟩
  |some d=>
   rw[hd]at e
   simp only at e
   cases hb:Nat.blt d c.nt with
   |false=>rw[hb]at e;cases e
   |true=>
    rw[hb]at e
    change st (sT d) (gv c.P c.call c.nt c.ops.toList o) k t h=_ at e
    unfold st at e
    cases hg:gv c.P c.call c.nt c.ops.toList o t h with
    |bad=>rw[hg]at e;cases e
    |ok v h1=>rw[hg]at e;exact⟨o,v,h1,_,hI,hg,e,.inl ⟨d,hd,bh.1 hb,rfl⟩⟩
omit [Io] in
theorem zA{f:dg}{t:Tm}{h h':Hp}{v:AV}(e:mn f t h=.ok v h'):f t h=.ok v h'/\h.next<=h'.next:=by
 unfold mn at e
 cases hf:f t h with
 |bad=>rw[hf]at e;cases e
 |ok v1 h1=>
  rw[hf]at e
  change (Bool.rec Ro.bad (Ro.ok v1 h1) (Nat.ble h.next h1.next):Ro)=_ at e
  cases hb:Nat.ble h.next h1.next with
  |false=>rw[hb]at e;cases e
  |true=>rw[hb]at e;cases e;exact⟨rfl,Nat.ble_eq.mp hb⟩
omit [Io] in
theorem vO{i:Nat}{k:ic}{t:Tm}{h:Hp}{te:Tm}{hE:Hp}(e:runM c.P c.call c.nt c.ops.toList i k t h=.ok te hE):
 ∃ o v h1 t1,c.ops[i]? =some o/\gv c.P c.call c.nt c.ops.toList o t h=.ok v h1/\h.next<=h1.next/\k t1 h1=.ok te hE/\((∃ d,o.dst=some d/\d<c.nt/\t1=sT d v t)∨(o.dst=none/\t1=t)):=by
 unfold runM at e
 rw[dW]at e
 cases ho:c.ops.toList[i]? with
 |none=>rw[ho]at e;cases e
 |some o=>
  rw[ho]at e
  simp only at e
  have hI:c.ops[i]? =some o:=by simpa using ho
  cases hd:o.dst with
  |none=>
   rw[hd]at e
   change sn (mn (gv c.P c.call c.nt c.ops.toList o)) k t h=_ at e
   unfold sn at e
   cases hg:mn (gv c.P c.call c.nt c.ops.toList o) t h with
   |bad=>rw[hg]at e;cases e
   |ok v h1=>rw[hg]at e;exact⟨o,v,h1,t,hI,(zA hg).1,(zA hg).2,e,.inr ⟨hd,rfl⟩⟩
  |some d=>
   rw[hd]at e
   simp only at e
   cases hb:Nat.blt d c.nt with
   |false=>rw[hb]at e;cases e
   |true=>
    rw[hb]at e
    change st (sT d) (mn (gv c.P c.call c.nt c.ops.toList o)) k t h=_ at e
    unfold st at e
    cases hg:mn (gv c.P c.call c.nt c.ops.toList o) t h with
    |bad=>rw[hg]at e;cases e
    |ok v h1=>rw[hg]at e;exact⟨o,v,h1,_,hI,(zA hg).1,(zA hg).2,e,.inl ⟨d,hd,bh.1 hb,rfl⟩⟩
omit [Io] in
theorem vP{i:Nat}{k:ic}{t:Tm}{h:Hp}{te:Tm}{hE:Hp}(hc:c.cy i .p1)(e:NH c.P c.call c.nt c.ops.toList i k t h=.ok te hE):
 ∃ o v,c.ops[i]? =some o/\gv c.P c.call c.nt c.ops.toList o t h=.ok v h/\k t h=.ok te hE/\ ∀ d,o.dst=some d->d<c.nt/\t.at d=some v:=by
 unfold NH at e
 rw[dW]at e
 cases ho:c.ops.toList[i]? with
 |none=>rw[ho]at e;cases e
 |some o=>
  rw[ho]at e
  simp only at e
  have hI:c.ops[i]? =some o:=by simpa using ho
  have Yk: ∀ v h1,gv c.P c.call c.nt c.ops.toList o t h=.ok v h1->h1=h:=by
   intro v h1 hg
   obtain⟨o',kd,Cf⟩:=hc
   rw[hI]at kd
   cases kd
   exact DV Cf _ _ _ _ hg
  cases hd:o.dst with
  |none=>
   rw[hd]at e
   change sn (gv c.P c.call c.nt c.ops.toList o) k t h=_ at e
   unfold sn at e
   cases hg:gv c.P c.call c.nt c.ops.toList o t h with
   |bad=>rw[hg]at e;cases e
   |ok v h1=>
    rw[hg]at e
    obtain rfl:=Yk v h1 hg
    exact⟨o,v,hI,hg,e,fun d h=>by rw[hd]at h;cases h⟩
  |some d=>
   rw[hd]at e
   simp only at e
   cases hb:Nat.blt d c.nt with
   |false=>rw[hb]at e;cases e
   |true=>
    rw[hb]at e
    change ck (oT d) (gv c.P c.call c.nt c.ops.toList o) k t h=_ at e
    unfold ck at e
    cases hg:gv c.P c.call c.nt c.ops.toList o t h with
    |bad=>rw[hg]at e;cases e
    |ok v h1=>
     rw[hg]at e
     obtain rfl:=Yk v h1 hg
     change (Option.rec Rt.bad (fun u=>Bool.rec Rt.bad (k t h1) (iG u v)) (t.at d):Rt)=_ at e
     cases ht:t.at d with
     |none=>rw[ht]at e;cases e
     |some u=>
      rw[ht]at e
      change (Bool.rec Rt.bad (k t h1) (iG u v):Rt)=_ at e
      cases hq:iG u v with
      |false=>rw[hq]at e;cases e
      |true=>
       rw[hq]at e
       obtain rfl:=pH _ _ hq
       exact⟨o,u,hI,hg,e,fun d' h=>by rw[hd]at h;cases h;exact⟨bh.1 hb,ht⟩⟩
omit [Io] in
theorem nd{bH:List Nat}{i:Nat}{o:Oper}{t t1:Tm}{v:AV}(eX:c.nt<=512)(ho:c.ops[i]? =some o)(hi:i∉bH)
 (ht:(∃ d,o.dst=some d/\d<c.nt/\t1=sT d v t)∨(o.dst=none/\t1=t))(F:c.Fr (i::bH) t1):c.Fr bH t:=by
 intro u hu hc
 rw[F u hu (fun j hj=>List.mem_cons_of_mem _ (hc j hj))]
 rcases ht with⟨d,hd,zm,rfl⟩|⟨_,rfl⟩
 ·show(Tm.put t d (some v)).at u=t.at u
  rw[Tm.fj _ _ _ _ (Nat.lt_of_lt_of_le zm eX) hu,if_neg]
  intro e
  subst e
  exact hi (hc i ⟨o,ho,hd⟩)
 ·rfl
omit [Io] in
theorem jo{i:Nat}{l:List Nat}(h:gG i l=false):i∉l:=fun k=>by rw[gk.2 k]at h;cases h
omit [Io] in
theorem lB(eX:c.nt<=512){k:List Nat->ic}(hk: ∀ bH t h,k bH t h=.ok c.te c.hE->c.Fr bH t): ∀ (pre bH:List Nat) (t:Tm) (h:Hp),
 vN c.P c.call c.nt c.ops.toList pre bH k t h=.ok c.te c.hE->c.Fr bH t
 | [],bH,t,h,e=>hk bH t h e
 |i::l,bH,t,h,e=>by
  unfold vN at e
  cases h1:xz c.nt c.ops.toList bH i with
  |false=>rw[h1]at e;cases e
  |true=>
  rw[h1]at e
  simp only[ej]at e
  cases h2:gG i bH with
  |true=>
   rw[h2]at e
   cases h3:nb c.P c.call c.ops.toList .p1 i with
   |false=>rw[h3]at e;cases e
   |true=>
    rw[h3]at e
    obtain⟨o,v,_,_,e,_⟩:=vP (ga.1 h3) e
    exact lB eX hk l bH t h e
  |false=>
   rw[h2]at e
   cases h3:(nb c.P c.call c.ops.toList .p0 i||nb c.P c.call c.ops.toList .p1 i)with
   |false=>rw[h3]at e;cases e
   |true=>
    rw[h3]at e
    obtain⟨o,v,kd,t1,ho,_,e,ht⟩:=nc e
    exact nd eX ho (jo h2) ht (lB eX hk l (i::bH) t1 kd e)
omit [Io] in
theorem jL(eX:c.nt<=512){k:List Nat->ic}(hk: ∀ bH t h,k bH t h=.ok c.te c.hE->c.Fr bH t): ∀ (en bH:List Nat) (t:Tm) (h:Hp),
 yg c.P c.call c.nt c.ops.toList en bH k t h=.ok c.te c.hE->c.Fr bH t
 | [],bH,t,h,e=>hk bH t h e
 |i::l,bH,t,h,e=>by
  unfold yg at e
  cases h1:(xz c.nt c.ops.toList bH i&&(!gG i bH&&(nb c.P c.call c.ops.toList .p0 i||nb c.P c.call c.ops.toList .al i)))with
  |false=>rw[h1]at e;cases e
  |true=>
   rw[h1]at e
   simp only[ej]at e
   simp only[Bool.and_eq_true,Bool.not_eq_true']at h1
   obtain⟨o,v,kd,t1,ho,_,e,ht⟩:=nc e
   exact nd eX ho (jo h1.2.1) ht (jL eX hk l (i::bH) t1 kd e)
omit [Io] in
theorem nf(eX:c.nt<=512): ∀ (pl:gS) (bH:List Nat) (t:Tm) (h:Hp),jm c.P c.call c.nt c.ops.toList pl bH t h=.ok c.te c.hE->c.Fr bH t
 | .last pre en,bH,t,h,e=>by
  unfold jm at e
  refine lB eX (fun bH t h e=>?_) pre bH t h e
  refine jL eX (fun bH t h e=>?_) en bH t h e
  cases hb:allI (fun i _=>gG i bH) c.ops.toList 0 with
  |false=>rw[hb]at e;cases e
  |true=>
   rw[hb]at e
   obtain⟨rfl,_⟩:=Rt.ok.inj e
   exact fun u _ _=>rfl
 | .cons pre en q rest,bH,t,h,e=>by
  unfold jm at e
  refine lB eX (fun bH t h e=>?_) pre bH t h e
  refine jL eX (fun bH t h e=>?_) en bH t h e
  cases h1:(xz c.nt c.ops.toList bH q&&(!gG q bH&&nb c.P c.call c.ops.toList .ch q))with
  |false=>rw[h1]at e;cases e
  |true=>
   rw[h1]at e
   simp only[ej]at e
   simp only[Bool.and_eq_true,Bool.not_eq_true']at h1
   obtain⟨o,v,kd,t1,ho,_,_,e,ht⟩:=vO e
   exact nd eX ho (jo h1.2.1) ht (nf eX rest (q::bH) t1 kd e)
omit [Io] in
theorem qD{bH:List Nat}{i:Nat}{o:Oper}{t t1:Tm}{v:AV}(eX:c.nt<=512)(ho:c.ops[i]? =some o)
 (ht:(∃ d,o.dst=some d/\d<c.nt/\t1=sT d v t)∨(o.dst=none/\t1=t))(F:c.Ly bH t):c.Ly (i::bH) t1:=by
 intro u hu hc
 rw[<-F u hu (fun j hj k=>hc j hj (List.mem_cons_of_mem _ k))]
 rcases ht with⟨d,hd,zm,rfl⟩|⟨_,rfl⟩
 ·show(Tm.put t d (some v)).at u=t.at u
  rw[Tm.fj _ _ _ _ (Nat.lt_of_lt_of_le zm eX) hu,if_neg]
  intro e
  subst e
  exact hc i ⟨o,ho,hd⟩ List.mem_cons_self
 ·rfl
omit [Io] in
theorem RU{i u:Nat}(ee: ∀ u∈c.GM i,u<512)(hu:u∈c.GM i):((∃ j,c.gZ j u/\c.An i j)/\(c.rf i).at u=c.te.at u)∨((¬ ∃ j,c.gZ j u/\c.An i j)/\(c.rf i).at u=c.t0.at u):=by
 have key: ∀ (l:List Nat),(∀ u∈l,u<512)->u∈l->((∃ j,c.gZ j u/\c.An i j)/\(c.Ch i l).at u=c.te.at u)∨((¬ ∃ j,c.gZ j u/\c.An i j)/\(c.Ch i l).at u=c.t0.at u):=by
  intro l
  induction l with
  |nil=>intro _ h;cases h
  |cons x l ih=>
   intro hl hm
   rw[Ch,Tm.fj _ _ _ _ (hl x List.mem_cons_self) (hl u hm)]
   by_cases hx:u=x
   ·subst hx
    rw[if_pos rfl]
    by_cases hw: ∃ j,c.gZ j u/\c.An i j
    ·rw[if_pos hw];exact .inl ⟨hw,rfl⟩
    ·rw[if_neg hw];exact .inr ⟨hw,rfl⟩
   ·rw[if_neg hx]
    exact ih (fun y hy=>hl y (List.mem_cons_of_mem _ hy)) ((List.mem_cons.1 hm).resolve_left hx)
 exact key _ ee hu
omit [Io] in
theorem vQ{bH:List Nat}{i:Nat}{o:Oper}{t:Tm}{h h1:Hp}{v:AV}(eX:c.nt<=512)(eo: ∀ u,u<512->(∀ j,¬ c.gZ j u)->c.te.at u=c.t0.at u)(F:c.Fr bH t)(hO:c.Ly bH t)(ho:c.ops[i]? =some o)(hr:xz c.nt c.ops.toList bH i=true)
 (e:gv c.P c.call c.nt c.ops.toList o t h=.ok v h1):c.FE i (c.rf i) h=.ok v h1:=by
 rw[oU ho,<-e]
 refine Ir fun u hu=>?_
 rw[<-NC ho]at hu
 have ee: ∀ u∈c.GM i,u<512:=fun u hu=>Nat.lt_of_lt_of_le (qC hr u hu).1 eX
 obtain⟨_,GL⟩:=qC hr u hu
 rcases RU ee hu with⟨⟨j,hj,hA⟩,er⟩|⟨Zt,er⟩
 ·rw[er]
  rcases GL with h1|h1
  ·exact F u (ee u hu) (fun j hj=>(h1 j hj).1)
  ·exact absurd hA (h1 j hj).2.2
 ·rw[er]
  rcases GL with h1|h1
  ·have hn: ∀ j,¬ c.gZ j u:=fun j hj=>Zt ⟨j,hj,(h1 j hj).2⟩
   rw[<-eo u (ee u hu) hn]
   exact F u (ee u hu) (fun j hj=>absurd hj (hn j))
  ·exact(hO u (ee u hu) (fun j hj=>(h1 j hj).1)).symm
omit [Io] in
theorem oi{bH:List Nat}{i:Nat}{o:Oper}{t t1:Tm}{v:AV}(eX:c.nt<=512)(uQ: ∀ i j d,c.gZ i d->c.gZ j d->i=j)(ho:c.ops[i]? =some o)
 (ht:(∃ d,o.dst=some d/\d<c.nt/\t1=sT d v t)∨(o.dst=none/\t1=t))(F:c.Fr (i::bH) t1):c.Slot i v:=by
 intro d hd
 obtain⟨o',hI,uP⟩:=id hd
 rw[ho]at hI
 cases hI
 rcases ht with⟨d2,zb,zm,rfl⟩|⟨hn,_⟩
 ·rw[uP]at zb
  cases zb
  refine⟨zm,?_⟩
  rw[F d (Nat.lt_of_lt_of_le zm eX) (fun j hj=>by rw[uQ j i d hj hd];exact List.mem_cons_self)]
  show(Tm.put t d (some v)).at d=_
  rw[Tm.fj _ _ _ _ (Nat.lt_of_lt_of_le zm eX) (Nat.lt_of_lt_of_le zm eX),if_pos rfl]
 ·rw[uP]at hn;cases hn
end Cx
end Go.Ab

noncomputable section
namespace Go.Ab
variable [Io]
namespace Cx
def wi(c:Cx)(nx bd:Nat->Nat):Cx:={c with nx:=nx,bd:=bd}
def GI(c:Cx)(i:Nat):Prop:=
 (c.cy i .p0-> ∃ v,(∀ h,c.FE i (c.rf i) h=.ok v h)/\c.Slot i v/\c.jJ i (c.bd i))/\
 (c.cy i .al-> ∃ v,c.Slot i v/\c.jJ i (c.nx i)/\((c.FE i (c.rf i) (dL (c.nx i))=.ok v (dL (c.nx i))/\c.bd i=c.nx i)∨
  ∃ cs,c.FE i (c.rf i) (dL (c.nx i))=.ok v (cx (dL (c.nx i)) cs)/\c.bd i=c.nx i+1))
def xr(f:Nat->Nat)(i n:Nat):Nat->Nat:=fun j=>if j=i then n else f j
omit [Io] in
theorem iA{f:Nat->Nat}{i n:Nat}:xr f i n i=n:=if_pos rfl
omit [Io] in
theorem jM{f:Nat->Nat}{i n j:Nat}(h:j≠i):xr f i n j=f j:=if_neg h
variable {c:Cx}
omit [Io] in
theorem DW{nx bd:Nat->Nat}{i:Nat}: ∀ (l:List Nat),(c.wi nx bd).Ch i l=c.Ch i l
 | []=>rfl
 |u::l=>by
  rw[Ch,Ch,DW l]
  rfl
omit [Io] in
theorem vR{nx bd:Nat->Nat}{i:Nat}:(c.wi nx bd).rf i=c.rf i:=DW _
omit [Io] in
theorem zC{bH:List Nat}{i N:Nat}(hr:xz c.nt c.ops.toList bH i=true)(hb: ∀ j∈bH,c.bd j<=N):c.jJ i N:=by
 intro u hu
 obtain⟨h1,h2⟩:=qC hr u hu
 exact⟨h1,h2.imp (fun h j hj=>⟨(h j hj).2,hb j (h j hj).1⟩) (fun h j hj=>(h j hj).2.1)⟩
omit [Io] in
theorem pI(eX:c.nt<=512)(eo: ∀ u,u<512->(∀ j,¬ c.gZ j u)->c.te.at u=c.t0.at u)(uQ: ∀ i j d,c.gZ i d->c.gZ j d->i=j){k:List Nat->ic}(hk: ∀ bH t h,k bH t h=.ok c.te c.hE->c.Fr bH t)
 {Φ:(Nat->Nat)->(Nat->Nat)->List Nat->Prop}{h:Hp}
 (ih: ∀ (bH:List Nat) (t:Tm) (lS j5:Nat->Nat),k bH t h=.ok c.te c.hE->c.Ly bH t->(∀ j∈bH,j5 j<=h.next)-> ∃ nx bd,(∀ j∈bH,nx j=lS j/\bd j=j5 j)/\Φ nx bd bH):
 ∀ (pre bH:List Nat) (t:Tm) (lS j5:Nat->Nat),vN c.P c.call c.nt c.ops.toList pre bH k t h=.ok c.te c.hE->c.Ly bH t->(∀ j∈bH,j5 j<=h.next)->
  ∃ nx bd,(∀ j∈bH,nx j=lS j/\bd j=j5 j)/\(c.wi nx bd).Yj pre h/\ ∃ kf,Φ nx bd kf/\ ∀ i∈kf,i∈bH∨((c.wi nx bd).GI i/\(c.cy i .p0∨c.cy i .p1))
 | [],bH,t,lS,j5,e,hO,hb=>by
  obtain⟨nx,bd,h1,h2⟩:=ih bH t lS j5 e hO hb
  exact⟨nx,bd,h1,(fun i hi=>by cases hi),bH,h2,fun i hi=>.inl hi⟩
 |i::l,bH,t,lS,j5,e,hO,hb=>by
  have F:=lB eX hk (i::l) bH t h e
  unfold vN at e
  cases h1:xz c.nt c.ops.toList bH i with
  |false=>rw[h1]at e;cases e
  |true=>
  rw[h1]at e
  simp only[ej]at e
  cases h2:gG i bH with
  |true=>
   rw[h2]at e
   cases h3:nb c.P c.call c.ops.toList .p1 i with
   |false=>rw[h3]at e;cases e
   |true=>
    rw[h3]at e
    obtain⟨o,v,ho,hg,e,hs⟩:=vP (ga.1 h3) e
    obtain⟨nx,bd,a1,a2,kf,a3,a4⟩:=pI eX eo uQ hk ih l bH t lS j5 e hO hb
    refine⟨nx,bd,a1,fun j hj hc=>?_,kf,a3,a4⟩
    rcases List.mem_cons.1 hj with rfl|hj
    ·refine⟨v,vQ eX eo F hO ho h1 hg,?_,zC (c:=c.wi nx bd) h1 (fun j hj=>by show bd j<=_;rw[(a1 j hj).2];exact hb j hj)⟩
     intro d hd
     obtain⟨o',hI,uP⟩:=id hd
     have DX:c.ops[j]? =some o':=hI
     rw[ho]at DX
     cases DX
     obtain⟨s1,s2⟩:=hs d uP
     refine⟨s1,?_⟩
     show c.te.at d=_
     rw[F d (Nat.lt_of_lt_of_le s1 eX) (fun x hx=>by rw[uQ x j d hx hd];exact gk.1 h2)]
     exact s2
    ·exact a2 j hj hc
  |false=>
   rw[h2]at e
   have Lz:=jo h2
   cases h3:(nb c.P c.call c.ops.toList .p0 i||nb c.P c.call c.ops.toList .p1 i)with
   |false=>rw[h3]at e;cases e
   |true=>
    rw[h3]at e
    have dH:c.cy i .p0∨c.cy i .p1:=by
     rw[Bool.or_eq_true]at h3
     exact h3.imp ga.1 ga.1
    obtain⟨o,v,kd,t1,ho,hg,e2,ht⟩:=nc e
    clear e
    have Yk:kd=h:=by
     rcases dH with⟨o',hI,qE⟩|⟨o',hI,qE⟩
     ·rw[ho]at hI;cases hI
      exact((mW qE).ok hg).1
     ·rw[ho]at hI;cases hI
      exact DV qE _ _ _ _ hg
    subst Yk
    have kj: ∀ j∈bH,j≠i:=fun j hj e=>Lz (e▸hj)
    obtain⟨nx,bd,a1,a2,kf,a3,a4⟩:=pI eX eo uQ hk ih l (i::bH) t1 (xr lS i kd.next) (xr j5 i kd.next) e2 (qD eX ho ht hO) (fun j hj=>by
     rcases List.mem_cons.1 hj with rfl|hj
     ·rw[iA];exact Nat.le_refl _
     ·rw[jM (kj j hj)];exact hb j hj)
    have agree: ∀ j∈bH,nx j=lS j/\bd j=j5 j:=fun j hj=>by
     have:=a1 j (List.mem_cons_of_mem _ hj)
     rwa [jM (kj j hj),jM (kj j hj)]at this
    have QH:bd i=kd.next:=by
     have:=(a1 i List.mem_cons_self).2
     rwa [iA]at this
    have RW:(c.wi nx bd).jJ i kd.next:=zC (c:=c.wi nx bd) h1 (fun j hj=>by show bd j<=_;rw[(agree j hj).2];exact hb j hj)
    have cR:c.Slot i v:=oi eX uQ ho ht (lB eX hk l (i::bH) t1 kd e2)
    refine⟨nx,bd,agree,fun j hj hc=>?_,kf,a3,fun j hj=>?_⟩
    ·rcases List.mem_cons.1 hj with rfl|hj
     ·exact⟨v,vQ eX eo F hO ho h1 hg,cR,RW⟩
     ·exact a2 j hj hc
    ·rcases a4 j hj with h|h
     ·rcases List.mem_cons.1 h with rfl|h
      ·refine .inr ⟨⟨fun hc=>⟨v,?_,cR,?_⟩,fun hc=>?_⟩,dH⟩
       ·obtain⟨o',hI,qE⟩:=hc
        have DX:c.ops[j]? =some o':=hI
        rw[ho]at DX
        cases DX
        intro h0
        rw[vR]
        show c.FE j (c.rf j) h0=_
        have:=vQ eX eo F hO ho h1 hg
        rw[oU ho]at this ⊢
        exact((mW qE).ok this).2 h0
       ·show Cx.jJ _ j (bd j)
        rw[QH];exact RW
       ·rcases dH with h|h<;>cases c.fS h hc
      ·exact .inl h
     ·exact .inr h
omit [Io] in
theorem tQ(eX:c.nt<=512)(eo: ∀ u,u<512->(∀ j,¬ c.gZ j u)->c.te.at u=c.t0.at u)(uQ: ∀ i j d,c.gZ i d->c.gZ j d->i=j){k:List Nat->ic}(hk: ∀ bH t h,k bH t h=.ok c.te c.hE->c.Fr bH t)
 {Φ:(Nat->Nat)->(Nat->Nat)->List Nat->Hp->Prop}
 (ih: ∀ (bH:List Nat) (t:Tm) (h:Hp) (lS j5:Nat->Nat),k bH t h=.ok c.te c.hE->c.Ly bH t->(∀ j∈bH,j5 j<=h.next)-> ∃ nx bd,(∀ j∈bH,nx j=lS j/\bd j=j5 j)/\Φ nx bd bH h):
 ∀ (en bH:List Nat) (t:Tm) (h:Hp) (lS j5:Nat->Nat),yg c.P c.call c.nt c.ops.toList en bH k t h=.ok c.te c.hE->c.Ly bH t->(∀ j∈bH,j5 j<=h.next)->
  ∃ nx bd,(∀ j∈bH,nx j=lS j/\bd j=j5 j)/\ ∃ h1 kf,(c.wi nx bd).o7 en h h1/\Φ nx bd kf h1/\ ∀ i∈kf,i∈bH∨((c.wi nx bd).GI i/\i∈en/\(c.cy i .p0∨c.cy i .al))
 | [],bH,t,h,lS,j5,e,hO,hb=>by
  obtain⟨nx,bd,h1,h2⟩:=ih bH t h lS j5 e hO hb
  exact⟨nx,bd,h1,h,bH,rfl,h2,fun i hi=>.inl hi⟩
 |i::l,bH,t,h,lS,j5,e,hO,hb=>by
  have F:=jL eX hk (i::l) bH t h e
  unfold yg at e
  cases zD:(xz c.nt c.ops.toList bH i&&(!gG i bH&&(nb c.P c.call c.ops.toList .p0 i||nb c.P c.call c.ops.toList .al i)))with
  |false=>rw[zD]at e;cases e
  |true=>
   rw[zD]at e
   simp only[ej]at e
   simp only[Bool.and_eq_true,Bool.not_eq_true',Bool.or_eq_true]at zD
   obtain⟨h1,h2,h3⟩:=zD
   have Lz:=jo h2
   have dH:c.cy i .p0∨c.cy i .al:=h3.imp ga.1 ga.1
   obtain⟨o,v,h',t1,ho,hg,e2,ht⟩:=nc e
   clear e
   have kj: ∀ j∈bH,j≠i:=fun j hj e=>Lz (e▸hj)
   have hle:h.next<=h'.next:=by
    rcases dH with⟨o',hI,qE⟩|⟨o',hI,qE⟩
    ·rw[ho]at hI;cases hI
     rw[((mW qE).ok hg).1]
     exact Nat.le_refl _
    ·rw[ho]at hI;cases hI
     rcases vM qE _ _ _ _ hg (dL h.next) rfl with⟨rfl,_⟩|⟨cs,rfl,_⟩
     ·exact Nat.le_refl _
     ·exact Nat.le_succ _
   obtain⟨nx,bd,a1,kd,kf,a2,a3,a4⟩:=tQ eX eo uQ hk ih l (i::bH) t1 h' (xr lS i h.next) (xr j5 i h'.next) e2 (qD eX ho ht hO) (fun j hj=>by
    rcases List.mem_cons.1 hj with rfl|hj
    ·rw[iA];exact Nat.le_refl _
    ·rw[jM (kj j hj)];exact Nat.le_trans (hb j hj) hle)
   have agree: ∀ j∈bH,nx j=lS j/\bd j=j5 j:=fun j hj=>by
    have:=a1 j (List.mem_cons_of_mem _ hj)
    rwa [jM (kj j hj),jM (kj j hj)]at this
   have QH:bd i=h'.next:=by
    have:=(a1 i List.mem_cons_self).2
    rwa [iA]at this
   have BI:nx i=h.next:=by
    have:=(a1 i List.mem_cons_self).1
    rwa [iA]at this
   have RW:(c.wi nx bd).jJ i h.next:=zC (c:=c.wi nx bd) h1 (fun j hj=>by show bd j<=_;rw[(agree j hj).2];exact hb j hj)
   have cR:c.Slot i v:=oi eX uQ ho ht (jL eX hk l (i::bH) t1 h' e2)
   have Yl:=vQ eX eo F hO ho h1 hg
   rcases dH with dH|dH
   ·have hh:h'=h:=by
     obtain⟨o',hI,qE⟩:=dH
     rw[ho]at hI;cases hI
     exact((mW qE).ok hg).1
    subst hh
    refine⟨nx,bd,agree,kd,kf,.inl ⟨dH,a2⟩,a3,fun j hj=>?_⟩
    rcases a4 j hj with h|⟨h,h5,h6⟩
    ·rcases List.mem_cons.1 h with rfl|h
     ·refine .inr ⟨⟨fun hc=>⟨v,?_,cR,?_⟩,fun hc=>?_⟩,List.mem_cons_self,.inl dH⟩
      ·obtain⟨o',hI,qE⟩:=dH
       rw[ho]at hI
       cases hI
       intro h0
       rw[vR]
       show c.FE j (c.rf j) h0=_
       rw[oU ho]at Yl ⊢
       exact((mW qE).ok Yl).2 h0
      ·show Cx.jJ _ j (bd j)
       rw[QH];exact RW
      ·cases c.fS dH hc
     ·exact .inl h
    ·exact .inr ⟨h,List.mem_cons_of_mem _ h5,h6⟩
   ·have key:(h'=h/\c.FE i (c.rf i) (dL h.next)=.ok v (dL h.next))∨ ∃ cs,h'=cx h cs/\c.FE i (c.rf i) (dL h.next)=.ok v (cx (dL h.next) cs):=by
     obtain⟨o',hI,qE⟩:=dH
     rw[ho]at hI;cases hI
     rw[oU ho]at Yl ⊢
     exact vM qE _ _ _ _ Yl (dL h.next) rfl
    refine⟨nx,bd,agree,kd,kf,.inr ⟨dH,BI,?_⟩,a3,fun j hj=>?_⟩
    ·rcases key with⟨rfl,_⟩|⟨cs,rfl,hf⟩
     ·exact .inl ⟨QH.trans BI.symm,a2⟩
     ·refine .inr ⟨v,cs,?_,?_,a2⟩
      ·show bd i=nx i+1
       rw[QH,BI];rfl
      ·rw[vR]
       show c.FE i (c.rf i) (dL (nx i))=.ok v (cx (dL (nx i)) cs)
       rw[BI];exact hf
    ·rcases a4 j hj with h0|⟨h0,h5,h6⟩
     ·rcases List.mem_cons.1 h0 with rfl|h0
      ·refine .inr ⟨⟨fun hc=>?_,fun hc=>⟨v,cR,?_,?_⟩⟩,List.mem_cons_self,.inr dH⟩
       ·cases c.fS dH hc
       ·show Cx.jJ _ j (nx j)
        rw[BI];exact RW
       ·rw[vR]
        show(c.FE j (c.rf j) (dL (nx j))=.ok v (dL (nx j))/\bd j=nx j)∨ ∃ cs,c.FE j (c.rf j) (dL (nx j))=.ok v (cx (dL (nx j)) cs)/\bd j=nx j+1
        rw[BI,QH]
        rcases key with⟨rfl,hf⟩|⟨cs,rfl,hf⟩
        ·exact .inl ⟨hf,rfl⟩
        ·exact .inr ⟨cs,hf,rfl⟩
      ·exact .inl h0
     ·exact .inr ⟨h0,List.mem_cons_of_mem _ h5,h6⟩
omit [Io] in
theorem vS(eX:c.nt<=512)(eo: ∀ u,u<512->(∀ j,¬ c.gZ j u)->c.te.at u=c.t0.at u)(uQ: ∀ i j d,c.gZ i d->c.gZ j d->i=j): ∀ (pl:gS) (bH:List Nat) (t:Tm) (h:Hp) (lS j5:Nat->Nat),
 jm c.P c.call c.nt c.ops.toList pl bH t h=.ok c.te c.hE->c.Ly bH t->(∀ j∈bH,j5 j<=h.next)->
  ∃ nx bd,(∀ j∈bH,nx j=lS j/\bd j=j5 j)/\(c.wi nx bd).rI pl h/\(∀ i,i<c.ops.size->bd i<=c.hE.next)/\
   ∀ i,i<c.ops.size->i∉bH->(c.wi nx bd).GI i/\(c.cy i .al->i∈pl.en)/\(c.cy i .ch->i∈pl.ru)
 | .last pre en,bH,t,h,lS,j5,e,hO,hb=>by
  unfold jm at e
  have LA: ∀ bH t h,(ej (allI (fun i _=>gG i bH) c.ops.toList 0) fi (fun _ _=>.bad):ic) t h=.ok c.te c.hE->(∀ i,i<c.ops.size->i∈bH)/\t=c.te/\h=c.hE:=by
   intro bH t h e
   cases hB:allI (fun i _=>gG i bH) c.ops.toList 0 with
   |false=>rw[hB]at e;cases e
   |true=>
    rw[hB]at e
    obtain⟨h1,h2⟩:=Rt.ok.inj e
    refine⟨fun i hi=>?_,h1,h2⟩
    have:=gm hB i c.ops[i] (by simp[hi])
    exact gk.1 this
  have hk: ∀ bH t h,(ej (allI (fun i _=>gG i bH) c.ops.toList 0) fi (fun _ _=>.bad):ic) t h=.ok c.te c.hE->c.Fr bH t:=by
   intro bH t h e
   obtain⟨_,rfl,_⟩:=LA bH t h e
   exact fun u _ _=>rfl
  obtain⟨nx,bd,a1,a2,kf,⟨h1,kg,b2,⟨rfl,b3,b4⟩,b5⟩,a4⟩:=pI (Φ:=fun nx bd kf=> ∃ h1 kg,(c.wi nx bd).o7 en h h1/\(h1=c.hE/\(∀ i,i<c.ops.size->i∈kg)/\(∀ i∈kg,bd i<=c.hE.next))/\
   ∀ i∈kg,i∈kf∨((c.wi nx bd).GI i/\i∈en/\(c.cy i .p0∨c.cy i .al))) eX eo uQ (jL eX hk en) (fun bH t lS j5 e hO hb=>by
   obtain⟨nx,bd,a1,h1,kg,a2,a3,a4⟩:=tQ (Φ:=fun nx bd kg h1=>h1=c.hE/\(∀ i,i<c.ops.size->i∈kg)/\(∀ i∈kg,bd i<=c.hE.next)) eX eo uQ hk (fun bH t h lS j5 e hO hb=>by
    obtain⟨h1,_,rfl⟩:=LA bH t h e
    exact⟨lS,j5,fun _ _=>⟨rfl,rfl⟩,rfl,h1,hb⟩) en bH t h lS j5 e hO hb
   exact⟨nx,bd,a1,h1,kg,a2,a3,a4⟩) pre bH t lS j5 e hO hb
  refine⟨nx,bd,a1,⟨a2,b2⟩,fun i hi=>b4 i (b3 i hi),fun i hi hn=>?_⟩
  rcases b5 i (b3 i hi)with h|⟨h,h6,h7⟩
  ·rcases a4 i h with h|⟨h,h5⟩
   ·exact absurd h hn
   ·refine⟨h,fun hc=>?_,fun hc=>?_⟩
    ·rcases h5 with h5|h5<;>cases c.fS h5 hc
    ·rcases h5 with h5|h5<;>cases c.fS h5 hc
  ·refine⟨h,fun _=>h6,fun hc=>?_⟩
   rcases h7 with h5|h5<;>cases c.fS h5 hc
 | .cons pre en q rest,bH,t,h,lS,j5,e,hO,hb=>by
  unfold jm at e
  have hq: ∀ bH t h,(ej (xz c.nt c.ops.toList bH q&&(!gG q bH&&nb c.P c.call c.ops.toList .ch q)) (runM c.P c.call c.nt c.ops.toList q (jm c.P c.call c.nt c.ops.toList rest (q::bH))) (fun _ _=>.bad):ic) t h=.ok c.te c.hE->
   xz c.nt c.ops.toList bH q=true/\q∉bH/\c.cy q .ch/\ ∃ o v h1 t1,c.ops[q]? =some o/\gv c.P c.call c.nt c.ops.toList o t h=.ok v h1/\h.next<=h1.next/\jm c.P c.call c.nt c.ops.toList rest (q::bH) t1 h1=.ok c.te c.hE/\
    ((∃ d,o.dst=some d/\d<c.nt/\t1=sT d v t)∨(o.dst=none/\t1=t)):=by
   intro bH t h e
   cases h1:(xz c.nt c.ops.toList bH q&&(!gG q bH&&nb c.P c.call c.ops.toList .ch q))with
   |false=>rw[h1]at e;cases e
   |true=>
    rw[h1]at e
    simp only[Bool.and_eq_true,Bool.not_eq_true']at h1
    exact⟨h1.1,jo h1.2.1,ga.1 h1.2.2,vO e⟩
  have hk: ∀ bH t h,(ej (xz c.nt c.ops.toList bH q&&(!gG q bH&&nb c.P c.call c.ops.toList .ch q)) (runM c.P c.call c.nt c.ops.toList q (jm c.P c.call c.nt c.ops.toList rest (q::bH))) (fun _ _=>.bad):ic) t h=.ok c.te c.hE->c.Fr bH t:=by
   intro bH t h e
   obtain⟨_,Lz,_,o,v,h1,t1,ho,_,_,e,ht⟩:=hq bH t h e
   exact nd eX ho Lz ht (nf eX rest (q::bH) t1 h1 e)
  obtain⟨nx,bd,a1,a2,kf,⟨h1,kg,b2,⟨c1,v,h2,c2,c3,c4,c5,c6,c7,c8,c9⟩,b5⟩,a4⟩:=pI (Φ:=fun nx bd kf=> ∃ h1 kg,(c.wi nx bd).o7 en h h1/\
   (c.cy q .ch/\ ∃ v h2,c.FE q (c.rf q) h1=.ok v h2/\c.Slot q v/\(c.wi nx bd).jJ q h1.next/\bd q=h2.next/\h1.next<=h2.next/\(c.wi nx bd).rI rest h2/\(∀ i,i<c.ops.size->bd i<=c.hE.next)/\
    ∀ i,i<c.ops.size->i∉q::kg->(c.wi nx bd).GI i/\(c.cy i .al->i∈rest.en)/\(c.cy i .ch->i∈rest.ru))/\
   ∀ i∈kg,i∈kf∨((c.wi nx bd).GI i/\i∈en/\(c.cy i .p0∨c.cy i .al))) eX eo uQ (jL eX hk en) (fun bH t lS j5 e hO hb=>by
   obtain⟨nx,bd,a1,h1,kg,a2,a3,a4⟩:=tQ (Φ:=fun nx bd kg h1=>c.cy q .ch/\ ∃ v h2,c.FE q (c.rf q) h1=.ok v h2/\c.Slot q v/\(c.wi nx bd).jJ q h1.next/\bd q=h2.next/\h1.next<=h2.next/\(c.wi nx bd).rI rest h2/\
    (∀ i,i<c.ops.size->bd i<=c.hE.next)/\ ∀ i,i<c.ops.size->i∉q::kg->(c.wi nx bd).GI i/\(c.cy i .al->i∈rest.en)/\(c.cy i .ch->i∈rest.ru)) eX eo uQ hk (fun bH t h lS j5 e hO hb=>by
    obtain⟨hr,Lz,dH,o,v,h1,t1,ho,hg,hle,e,ht⟩:=hq bH t h e
    have kj: ∀ j∈bH,j≠q:=fun j hj e=>Lz (e▸hj)
    have Fq:=nf eX rest (q::bH) t1 h1 e
    obtain⟨nx,bd,a1,a2,a3,a4⟩:=vS eX eo uQ rest (q::bH) t1 h1 (xr lS q h.next) (xr j5 q h1.next) e (qD eX ho ht hO) (fun j hj=>by
     rcases List.mem_cons.1 hj with rfl|hj
     ·rw[iA];exact Nat.le_refl _
     ·rw[jM (kj j hj)];exact Nat.le_trans (hb j hj) hle)
    have agree: ∀ j∈bH,nx j=lS j/\bd j=j5 j:=fun j hj=>by
     have:=a1 j (List.mem_cons_of_mem _ hj)
     rwa [jM (kj j hj),jM (kj j hj)]at this
    have hbq:bd q=h1.next:=by
     have:=(a1 q List.mem_cons_self).2
     rwa [iA]at this
    exact⟨nx,bd,agree,dH,v,h1,vQ eX eo (nd eX ho Lz ht Fq) hO ho hr hg,oi eX uQ ho ht Fq,
     zC (c:=c.wi nx bd) hr (fun j hj=>by show bd j<=_;rw[(agree j hj).2];exact hb j hj),hbq,hle,a2,a3,a4⟩) en bH t h lS j5 e hO hb
   exact⟨nx,bd,a1,h1,kg,a2,a3,a4⟩) pre bH t lS j5 e hO hb
  refine⟨nx,bd,a1,⟨a2,h1,b2,c1,v,h2,(by rw[vR];exact c2),c3,c4,c5,c6,c7⟩,c8,fun i hi hn=>?_⟩
  by_cases hiq:i=q
  ·subst hiq
   refine⟨⟨fun hc=>?_,fun hc=>?_⟩,fun hc=>?_,fun _=>List.mem_cons_self⟩
   ·cases c.fS c1 hc
   ·cases c.fS c1 hc
   ·cases c.fS c1 hc
  ·by_cases Cf:i∈kg
   ·rcases b5 i Cf with h|⟨h,h6,h7⟩
    ·rcases a4 i h with h|⟨h,h5⟩
     ·exact absurd h hn
     ·refine⟨h,fun hc=>?_,fun hc=>?_⟩
      ·rcases h5 with h5|h5<;>cases c.fS h5 hc
      ·rcases h5 with h5|h5<;>cases c.fS h5 hc
    ·refine⟨h,fun _=>List.mem_append_left _ h6,fun hc=>?_⟩
     rcases h7 with h5|h5<;>cases c.fS h5 hc
   ·obtain⟨r1,r2,r3⟩:=c9 i hi (fun k=>by
     rcases List.mem_cons.1 k with k|k
     ·exact hiq k
     ·exact Cf k)
    exact⟨r1,fun hc=>List.mem_append_right _ (r2 hc),fun hc=>List.mem_cons_of_mem _ (r3 hc)⟩
end Cx
end Go.Ab

noncomputable section
namespace Go.Ab
variable [Io]
def DY(ok:Nat->Nat->Bool)(l:List Nat):Nat->List Nat:=
 List.rec (fun _=>[]) (fun i _ ih r=>Bool.rec (ih r) (i::ih (Nat.lor r (Nat.pow 2 i))) (ok i r)) l
def LC(l:List Nat)(r:Nat):Nat:=List.rec r (fun i _ ih=>Nat.lor (Nat.pow 2 i) ih) l
def bit(r i:Nat):Bool:=Nat.beq (Nat.mod (Nat.div r (Nat.pow 2 i)) 2) 1
def IE(p:Nat->Bool)(l:List Nat):List Nat:=List.rec [] (fun i _ ih=>Bool.rec ih (i::ih) (p i)) l
def NK(p:Nat->Bool)(l:List Nat):Option Nat:=List.rec none (fun i _ ih=>Bool.rec ih (some i) (p i)) l
def DZ(l:List Oper):List Nat:=List.rec (fun _=>[]) (fun _ _ ih i=>i::ih (Nat.add i 1)) l 0
section
variable (P:Program)(call:bP)(L:List Oper)
def Zw(ms idx:List Nat)(fuel:Nat):Nat->List Nat->gS:=
 Nat.rec (fun _ _=>.last [] []) (fun _ ih done chd=>
  match DY (fun i r=>(nb P call L .p0 i||nb P call L .p1 i)&&(!bit r i&&Nat.beq (Nat.land ((gx ms i).getD 0) r) ((gx ms i).getD 0))) idx done with
  |new=>match IE (fun i=>bit done i&&(nb P call L .p1 i&& !yf (fun j=>bit ((gx ms j).getD 0) i) chd)) idx with
   |j2=>match LC new done with
    |zE=>match NK (fun i=>nb P call L .ch i&& !bit zE i) idx with
     |none=>.last (app j2 new) (DY (fun i r=> !bit r i) idx zE)
     |some q=>match DY (fun i r=> !bit r i&&bit ((gx ms q).getD 0) i) idx zE with
      |en=>.cons (app j2 new) en q (ih (Nat.lor (Nat.pow 2 q) (LC en zE)) (q::chd))) fuel
def om:gS:=Zw P call L (kJ L []) (DZ L) (Nat.succ (len L)) 0 []
end
def aF(P:Program)(call:bP)(nt:Nat)(ops:Array Oper):ic:=
 match om P call ops.toList with
 |pl=>ej (zy ops.toList&&(IB ops.toList&&sr P call ops.toList pl [])) (jm P call nt ops.toList pl []) (fun _ _=>.bad)
namespace Cx
variable {c:Cx}
omit [Io] in
theorem zF: ∀ (pl:gS) (past:List Nat),sr c.P c.call c.ops.toList pl past=true->c.zu past pl
 | .last pre en,past,h=>by
  intro i hi
  obtain⟨o,ho,_⟩:=id hi
  have:=jn (gm h i o (by simpa using ho)) (ga.2 hi)
  rw[Bool.or_eq_true,na,gk]at this
  exact this
 | .cons pre en q rest,past,h=>by
  unfold sr at h
  simp only[Bool.and_eq_true]at h
  obtain⟨h1,h2,h3,h4⟩:=h
  refine⟨fun i hi=>?_,fun i hi hc=>?_,fun q' hq=>?_,zF rest _ h4⟩
  ·obtain⟨o,ho,_⟩:=id hi
   have:=jn (gm h1 i o (by simpa using ho)) (ga.2 hi)
   rw[Bool.or_eq_true,Bool.or_eq_true,na,na,gk]at this
   exact this
  ·rw[eP,List.all_eq_true]at h2
   exact jn (h2 i hi) (ga.2 hc)
  ·rw[eP,List.all_eq_true]at h3
   exact h3 q' hq
omit [Io] in
theorem NL(h:IB c.ops.toList=true): ∀ i j d,c.gZ i d->c.gZ j d->i=j:=by
 rintro i j d ⟨o,ho,hd⟩ ⟨o',hI,uP⟩
 have h1:=gm h i o (by simpa using ho)
 rw[hd]at h1
 have h2:=jn (gm h1 j o' (by simpa using hI)) (oh uP)
 exact Nat.eq_of_beq_eq_true h2
end Cx
theorem IF{g:G}{w:World}{h:Hp}(H:HR g w h):g.to h.next=g:=by
 cases g with
 |mk m im=>
  unfold G.to
  simp only[G.mk.injEq,and_true]
  funext id
  by_cases eC:id<h.next
  ·simp only[eC,if_true]
  ·simp only[eC,if_false]
   exact(H.fresh id (by omega)).symm
omit [Io] in
theorem ot{g:G}{w w':World}(h:w'.heap=w.heap):jh g w g w':=
 ⟨fun _ _ e=>e,fun _ i=>i,fun b _=>by rw[h],fun b=>by unfold cM;rw[h];exact Nat.le_refl _⟩
theorem HR.heap{g:G}{w w':World}{hp:Hp}(h:w'.heap=w.heap)(H:HR g w hp):HR g w' hp:=by
 refine⟨H.fresh,fun id cs e=>?_,H.inj,fun b i=>by rw[h];exact H.cT b i,gz.mono (ot h) H.tb⟩
 obtain⟨b,s,C,el,vs,h1,h2,h3,h4,h5⟩:=H.aN id cs e
 exact⟨b,s,C,el,vs,h1,by rw[h];exact h2,h3,bq.dA (ot h) _ _ h4,h5⟩
omit [Io] in
theorem BJ(g:G)(w:World)(h:Hp)(n:Nat):Ext g w h g {w with drawn:=n} h:=
 ⟨rfl,rfl,rfl,Nat.le_refl _,Nat.le_refl _,fun _ _ e=>e,fun _ _ _=>rfl,fun _=>Nat.le_refl _,fun _ i=>i,fun _ i=>.inl i,fun _ o=>.inl o⟩
theorem tR{P:Program}(hm:P.follows .mixedOrders=true):tG P (aF P):=by
 intro call nt hc id ops g w t h a t' h' H T D e Q K
 refine wp_region_draw fun tk=>?_
 rw[hm]
 change (ej (zy ops.toList&&(IB ops.toList&&sr P call ops.toList (om P call ops.toList) [])) (jm P call nt ops.toList (om P call ops.toList) []) (fun _ _=>.bad):ic) t h=.ok t' h' at e
 cases hB:(zy ops.toList&&(IB ops.toList&&sr P call ops.toList (om P call ops.toList) []))with
 |false=>rw[hB]at e;cases e
 |true=>
 rw[hB]at e
 change jm P call nt ops.toList (om P call ops.toList) [] t h=.ok t' h' at e
 simp only[Bool.and_eq_true]at hB
 obtain⟨zm,uQ,oM⟩:=hB
 obtain⟨pl,Qy⟩: ∃ pl,pl=om P call ops.toList:=⟨_,rfl⟩
 rw[<-Qy]at e oM
 have L:=tH (IA zm) tk
 let c0:Cx:=⟨P,call,ops,nt,t,t',fun _=>0,fun _=>0,g,w,h,h'⟩
 have RX: ∀ i j d,c0.gZ i d->c0.gZ j d->i=j:=Cx.NL (c:=c0) uQ
 have eX:nt<=512:=T.1
 have F:=Cx.nf (c:=c0) eX pl [] t h e
 have eo: ∀ u,u<512->(∀ j,¬ c0.gZ j u)->c0.te.at u=c0.t0.at u:=fun u hu hd=>F u hu (fun j hj=>absurd hj (hd j))
 obtain⟨nx,bd,_,fX,Zx,Ym⟩:=Cx.vS (c:=c0) eX eo RX pl [] t h (fun _=>0) (fun _=>0) e (fun u _ _=>rfl) (fun j hj=>by cases hj)
 let c:Cx:=c0.wi nx bd
 have ee: ∀ {i k},c.cy i k->i<c.ops.size:=fun⟨o,ho,_⟩=>(Array.getElem?_eq_some_iff.1 ho).1
 have G0:c.Iy:=
  ⟨fun i hi=>(Ym i (ee hi) (by simp)).1.1 hi,fun i hi=>(Ym i (ee hi) (by simp)).1.2 hi,RX,Zx,eo,hc,eX⟩
 have pG:g.to h.next=g:=IF H
 refine Cx.QF (c:=c) G0 K _ [] [] pl g {w with drawn:=w.drawn+1} h a L ?_
 exact
 {run:=fX
  stat:=Cx.zF (c:=c) pl [] oM
  closed:=fun j hj=>by cases hj
  ru:=fun i hi=>.inl ((Ym i (ee hi) (by simp)).2.2 hi)
  GO:=fun i _ h=>by cases h
  oS:=fun j hj=>by cases hj
  Lu:=fun i hi=>.inl ((Ym i (ee hi) (by simp)).2.1 hi)
  st:=⟨(by rw[pG];exact HR.heap (w:=w) rfl H),(by rw[pG];exact BJ _ _ _ _),(fun i _ h=>by cases h),(fun i _ j _ h=>by cases h)⟩
  Lv:=fun id x m=>.inl (by
   refine Classical.byContradiction fun k=>?_
   rw[H.fresh id (by omega)]at m;cases m)
  kN:=fun j hj=>by cases hj
  free:=fun u v hu hd eu=>by
   obtain⟨h1,h2⟩:=T.2.2 u v hu eu
   refine⟨h1,?_⟩
   rw[pG]
   exact VR.dA (ot (w:=w) (w':={w with drawn:=w.drawn+1}) rfl) _ _ h2
  size:=T.2.1
  defers:=D}
end Go.Ab

noncomputable section
namespace Go.Ab
variable [Io]
def yh(F:Func):Code:=match F.body with
 |some c=>c
 |none=>.skip
omit [Io] in
theorem aH{P:Program}{draw:bP->Nat->Array Oper->ic}{f:FuncId}{F:Func}{b:Fb}(h1:P.funcs[f]? =some F)(h2: ∀ args w,(callFunc f args).run P w=.ok (.enter f args) w)
 (h3:F.body.isSome=true)(h4:b.ntmps=F.ntmps)(h5:Nat.ble b.ntmps 512=true)(h6:Dy P b.ntmps F.results.toList=some b.res)
 (h7:b.body=fun call n=>dU P (draw call b.ntmps) call n b.ntmps (yh F)):aY P draw f b:=by
 refine⟨⟨F,yh F,h1,?_,h4,Nat.ble_eq.mp h5,h6,h7⟩,h2⟩
 unfold yh
 cases h:F.body with
 |none=>rw[h]at h3;cases h3
 |some c=>rfl
def D0{α:Type}(p:Nat->α->Prop)(a b:Nat):Tr α->Prop
 | .nil=>True
 | .node l v r=>(∀ x,v=some x->p b x)/\D0 p (2*a) (a+b) l/\D0 p (2*a) (2*a+b) r
omit [Io] in
theorem D0.get{α:Type}{p:Nat->α->Prop}: ∀ {t:Tr α} {a b:Nat},D0 p a b t-> ∀ k x,t.get k=some x->p (a*k+b) x
 | .nil,a,b,_,k,x,e=>by cases e
 | .node l v r,a,b,⟨h1,h2,h3⟩,k,x,e=>by
  rw[Tr.ko]at e
  by_cases h0:k=0
  ·subst h0
   rw[if_pos rfl]at e
   simpa using h1 x e
  ·rw[if_neg h0]at e
   by_cases hk:k % 2=1
   ·rw[if_pos hk]at e
    have:=h2.get _ x e
    have e2:2*a*(k / 2)+(a+b)=a*k+b:=by
     have:k=2*(k / 2)+1:=by omega
     generalize k / 2=m at*
     subst this
     rw[Nat.mul_add,Nat.mul_one,<-Nat.mul_assoc,Nat.mul_comm a 2]
     omega
    rwa [e2]at this
   ·rw[if_neg hk]at e
    have:=h3.get _ x e
    have e2:2*a*(k / 2 - 1)+(2*a+b)=a*k+b:=by
     have:k=2*(k / 2 - 1)+2:=by omega
     generalize k / 2 - 1=m at*
     subst this
     rw[Nat.mul_add,<-Nat.mul_assoc,Nat.mul_comm a 2]
     omega
    rwa [e2]at this
omit [Io] in
theorem py{α:Type}{p:Nat->α->Prop}{b:Nat}: ∀ x,(none:Option α)=some x->p b x:=fun _ e=>by cases e
end Go.Ab

noncomputable section
namespace Go.Ab
variable [Io]
structure o8(w w':World):Prop where
 os:w'.os=w.os
 tape:w'.tape=w.tape
 output:w'.output=w.output
 size:w.heap.size<=w'.heap.size
 j2: ∀ b,b<w.heap.size->w'.heap[b]? =w.heap[b]?
omit [Io] in
theorem o8.rows{w w':World}(K:o8 w w')(b:Nat):cM w b<=cM w' b:=by
 unfold cM
 by_cases h:b<w.heap.size
 ·rw[K.j2 b h];exact Nat.le_refl _
 ·rw[Array.getElem?_eq_none (by omega)];exact Nat.zero_le _
omit [Io] in
theorem o8.trans{w w1 w2:World}(a:o8 w w1)(b:o8 w1 w2):o8 w w2:=
 ⟨b.os.trans a.os,b.tape.trans a.tape,b.output.trans a.output,Nat.le_trans a.size b.size,fun k h=>(b.j2 k (Nat.lt_of_lt_of_le h a.size)).trans (a.j2 k h)⟩
def gE(cT:Nat->Prop):G:=⟨fun _=>none,cT⟩
theorem vT{cT:Nat->Prop}{w:World}(h: ∀ b,cT b->b<w.heap.size)(t:gz (gE cT) w):HR (gE cT) w (dL 0):=
 ⟨fun _ _=>rfl,(fun _ _ e=>by cases e),(fun _ _ _ _ _ _ _ e=>by cases e),h,t⟩
omit [Io] in
theorem zG{cT:Nat->Prop}{w:World}{g':G}{w':World}{h':Hp}(E:Ext (gE cT) w (dL 0) g' w' h'):o8 w w':=
 ⟨E.os,E.tape,E.output,E.size,fun b hb=>E.j2 b hb (by rintro⟨id,cs,s,e,_⟩;cases e)⟩
def mapA(f:AV->Option AV)(l:List AV):Option (List AV):=
 List.rec (some []) (fun a _ ih=>match f a with
  |some b=>match ih with
   |some r=>some (b::r)
   |none=>none
  |none=>none) l
def mi(n:Nat):Hp->AV->Option AV:=
 Nat.rec (fun _ _=>none) (fun _ ih h a=>match a with
  | .cR id off n sz=>match h.aN.get id with
   |some cs=>match cs.fy off (Nat.mul n sz)with
    |some l=>match mapA (ih h) l with
     |some l=>some (.fg n l)
     |none=>none
    |none=>none
   |none=>none
  | .ref id off=>match h.aN.get id with
   |some cs=>match cs.fy off (Nat.sub cs.n off)with
    |some l=>match mapA (ih h) l with
     |some l=>some (.eg l)
     |none=>none
    |none=>none
   |none=>none
  | .agg l=>match mapA (ih h) l with
   |some l=>some (.agg l)
   |none=>none
  | .mD l=>match mapA (ih h) l with
   |some l=>some (.mD l)
   |none=>none
  | .fn f l=>match mapA (ih h) l with
   |some l=>some (.fn f l)
   |none=>none
  | .fg n l=>match mapA (ih h) l with
   |some l=>some (.fg n l)
   |none=>none
  | .eg l=>match mapA (ih h) l with
   |some l=>some (.eg l)
   |none=>none
  |a=>some a) n
theorem pJ{g g':G}{w:World}{f:AV->Option AV}(hf: ∀ a a' v,f a=some a'->VR g w a v->VR g' w a' v): ∀ {l l':List AV} {vs:List Value},mapA f l=some l'->bq g w l vs->bq g' w l' vs
 | [],l',vs,e,h=>by cases e;simpa only[bq]using h
 |a::l,l',vs,e,h=>by
  change (match f a with|some b=>(match mapA f l with|some r=>some (b::r)|none=>none)|none=>none)=some l' at e
  simp only[bq]at h
  obtain⟨v,r,rfl,hv,hr⟩:=h
  cases h1:f a with
  |none=>rw[h1]at e;cases e
  |some b=>
   cases h2:mapA f l with
   |none=>rw[h1,h2]at e;cases e
   |some r'=>
    rw[h1,h2]at e
    cases e
    simp only[bq]
    exact⟨v,r,rfl,hf a b v h1 hv,pJ hf h2 hr⟩
theorem NM{g g':G}{w:World}{h:Hp}(H:HR g w h)(hi: ∀ b,g.cT b->g'.cT b)(ho: ∀ b,eT g h b->g'.cT b): ∀ (n:Nat) (a a':AV) (v:Value),mi n h a=some a'->VR g w a v->VR g' w a' v:=by
 intro n
 induction n with
 |zero=>intro a a' v e;cases e
 |succ n ih=>
  intro a a' v e hv
  have hm:= @pJ _ g g' w (mi n h) ih
  cases a with
  |int k n=>cases e;simpa only[VR]using hv
  |bool b=>cases e;simpa only[VR]using hv
  |sc x=>cases e;simpa only[VR]using hv
  |cS=>cases e;simpa only[VR]using hv
  |iQ=>cases e;simpa only[VR]using hv
  |sym k s lo hi o=>cases e;simpa only[VR]using hv
  |any=>cases e;simpa only[VR]using hv
  |agg l=>
   change (match mapA (mi n h) l with|some l=>some (AV.agg l)|none=>none)=some a' at e
   cases h1:mapA (mi n h) l with
   |none=>rw[h1]at e;cases e
   |some l'=>
    rw[h1]at e
    cases e
    simp only[VR]at hv ⊢
    obtain⟨vs,e,q⟩:=hv
    exact⟨vs,e,hm h1 q⟩
  |mD l=>
   change (match mapA (mi n h) l with|some l=>some (AV.mD l)|none=>none)=some a' at e
   cases h1:mapA (mi n h) l with
   |none=>rw[h1]at e;cases e
   |some l'=>
    rw[h1]at e
    cases e
    simp only[VR]at hv ⊢
    obtain⟨vs,e,q⟩:=hv
    exact⟨vs,e,hm h1 q⟩
  |fn f l=>
   change (match mapA (mi n h) l with|some l=>some (AV.fn f l)|none=>none)=some a' at e
   cases h1:mapA (mi n h) l with
   |none=>rw[h1]at e;cases e
   |some l'=>
    rw[h1]at e
    cases e
    simp only[VR]at hv ⊢
    obtain⟨vs,e,q⟩:=hv
    exact⟨vs,e,hm h1 q⟩
  |fg m l=>
   change (match mapA (mi n h) l with|some l=>some (AV.fg m l)|none=>none)=some a' at e
   cases h1:mapA (mi n h) l with
   |none=>rw[h1]at e;cases e
   |some l'=>
    rw[h1]at e
    cases e
    simp only[VR]at hv ⊢
    obtain⟨x,cap,e,hle,q⟩:=hv
    refine⟨x,cap,e,hle,?_⟩
    rcases q with⟨q1,rfl⟩|⟨b,o,vs,q1,q2,q3,q4⟩
    ·cases h1
     exact .inl ⟨q1,rfl⟩
    ·exact .inr ⟨b,o,vs,q1,hi b q2,q3,hm h1 q4⟩
  |eg l=>
   change (match mapA (mi n h) l with|some l=>some (AV.eg l)|none=>none)=some a' at e
   cases h1:mapA (mi n h) l with
   |none=>rw[h1]at e;cases e
   |some l'=>
    rw[h1]at e
    cases e
    simp only[VR]at hv ⊢
    obtain⟨b,o,vs,q1,q2,q3,q4⟩:=hv
    exact⟨b,o,vs,q1,hi b q2,q3,hm h1 q4⟩
  |ref id off=>
   change (match h.aN.get id with|some cs=>(match cs.fy off (Nat.sub cs.n off)with|some l=>(match mapA (mi n h) l with|some l=>some (AV.eg l)|none=>none)|none=>none)|none=>none)=some a' at e
   cases h0:h.aN.get id with
   |none=>rw[h0]at e;cases e
   |some cs=>
   rw[h0]at e
   simp only at e
   cases hs:cs.fy off (Nat.sub cs.n off)with
   |none=>rw[hs]at e;cases e
   |some l=>
   rw[hs]at e
   simp only at e
   cases h1:mapA (mi n h) l with
   |none=>rw[h1]at e;cases e
   |some l'=>
    rw[h1]at e
    cases e
    obtain⟨rfl,_,_⟩:=eV hs
    simp only[VR]at hv ⊢
    obtain⟨b,s,D2,rfl⟩:=hv
    obtain⟨C,el,vs,hw,_,cU,hC⟩:=H.row h0 D2
    exact⟨b,s+off,(vs.drop off).take (Nat.sub cs.n off),rfl,ho b ⟨id,cs,s,h0,D2⟩,((dS hw hC).drop off).take _,hm h1 ((cU.drop off).take _)⟩
  |cR id off m sz=>
   change (match h.aN.get id with|some cs=>(match cs.fy off (Nat.mul m sz)with|some l=>(match mapA (mi n h) l with|some l=>some (AV.fg m l)|none=>none)|none=>none)|none=>none)=some a' at e
   cases h0:h.aN.get id with
   |none=>rw[h0]at e;cases e
   |some cs=>
   rw[h0]at e
   simp only at e
   cases hs:cs.fy off (Nat.mul m sz)with
   |none=>rw[hs]at e;cases e
   |some l=>
   rw[hs]at e
   simp only at e
   cases h1:mapA (mi n h) l with
   |none=>rw[h1]at e;cases e
   |some l'=>
    rw[h1]at e
    cases e
    obtain⟨rfl,hlen,_⟩:=eV hs
    simp only[VR]at hv ⊢
    rcases hv with⟨rfl,x,rfl⟩|⟨b,s,cap,D2,rfl,hle,_⟩
    ·refine⟨x,0,rfl,Nat.le_refl _,.inl ⟨rfl,?_⟩⟩
     have hz:Nat.mul 0 sz=0:=Nat.zero_mul sz
     rw[hz]at h1
     simp only[List.take_zero]at h1
     cases h1
     rfl
    ·obtain⟨C,el,vs,hw,_,cU,hC⟩:=H.row h0 D2
     exact⟨_,cap,rfl,hle,.inr ⟨b,s+off,(vs.drop off).take (Nat.mul m sz),rfl,ho b ⟨id,cs,s,h0,D2⟩,((dS hw hC).drop off).take _,hm h1 ((cU.drop off).take _)⟩⟩
end Go.Ab

noncomputable section
namespace Go.Ab
end Go.Ab

noncomputable section
namespace Go.Ab
variable [Io]
end Go.Ab
namespace Go.Ab
end Go.Ab

noncomputable section
namespace Go.Ab
variable [Io]
section
variable {P:Program}{call:bP}
end
end Go.Ab

noncomputable section
namespace Go.Ab
def D3(P:Program)(f:FuncId)(k:IntKind)(A B:Int)(v:AV):Prop:=
 (∀ as w,(callFunc f as).run P w=.ok (.enter f as) w)/\ ∀ (I:Io) (x:Int),A<=x->x<=B-> ∀ (g:G) (w:World),(∀ b,g.cT b->b<w.heap.size)-> @gz I g w->
  Calls P f #[.int k x] w fun e w'=> ∃ y,e=.returned y/\o8 w w'/\ @VR I (gE fun b=>g.cT b∨(w.heap.size<=b/\b<w'.heap.size)) w' v y
structure Row where
 k:IntKind
 A:Int
 B:Int
 v:AV
end Go.Ab

noncomputable section
namespace Go.Ab
def Yn(r:Ro):Bool:=match r with
 | .ok (.bool b) _=>b
 | _=>false
theorem NN{r:Ro}(h:Yn r=true): ∃ h',r=.ok (.bool true) h':=by
 unfold Yn at h
 split at h
 ·subst h;exact⟨_,rfl⟩
 ·cases h
theorem o8.below{w w':World}(K:o8 w w'):Go.RowKit.Below w.heap.size w w':=⟨K.os,K.tape,K.output,K.size,K.j2⟩
theorem NO[Io]{P:Program}{call:bP}(hc:cC P call){f:FuncId}{args:List AV}{vs:List Value}(e:Yn (call f args (dL 0))=true)(w:World){cT:Nat->Prop}(hi: ∀ b,cT b->b<w.heap.size)(ht:gz (gE cT) w)(hv:bq (gE cT) w args vs):
 Calls P f vs.toArray w fun e w'=>e=.returned (.bool true)/\Go.RowKit.Below w.heap.size w w':=by
 obtain⟨h',e'⟩:=NN e
 refine((hc f args (dL 0) _ h' e').2 (gE cT) w vs (vT hi ht) hv).mono ?_
 rintro e w' ⟨x,g',rfl,E,H',hx⟩
 simp only[VR]at hx
 subst hx
 exact⟨rfl,(zG E).below⟩
theorem D4{n:Int}(h:(Lit.int .u64 n).wf=true):0<=n/\n<=18446744073709551615:=by
 simp[Lit.wf,IntKind.min,IntKind.max,IntKind.bits,IntKind.signed]at h
 omega
def KR(P:Program)(f:FuncId)(l:List Row):Prop:= ∀ r∈l,D3 P f r.k r.A r.B r.v
theorem KR.cons{P:Program}{f:FuncId}{k:IntKind}{A B:Int}{v:AV}{l:List Row}(h:D3 P f k A B v)(t:KR P f l):KR P f (⟨k,A,B,v⟩::l):=by
 intro r hr
 cases hr with
 |head=>exact h
 |tail _ hr=>exact t r hr
end Go.Ab

noncomputable section
namespace Go.Ab
variable [Io]
section
variable {P:Program}
def vU(fn:FuncId->Option Fb)(n:Nat)(c:bP):bP:=fun f args h=>match fn f with
 |none=>.bad
 |some b=>ej (Nat.ble (len args) b.ntmps) (match b.body c n (fW args 0 Tm.none) h with
  | .norm t h=>fin b.res t h
  | .ret t h=>fin b.res t h
  | _=>.bad) .bad
theorem D5{draw:bP->Nat->Array Oper->ic}(hd:tG P draw){fn:FuncId->Option Fb}(hf: ∀ f b,fn f=some b->aY P draw f b)(n:Nat){c:bP}(hc:cC P c):cC P (vU fn n c):=by
 intro f args h v h' e
 change (match fn f with
  |none=>Ro.bad
  |some b=>ej (Nat.ble (len args) b.ntmps) (match b.body (c) n (fW args 0 Tm.none) h with| .norm t h=>fin b.res t h| .ret t h=>fin b.res t h| _=>.bad) .bad)=.ok v h' at e
 cases hb:fn f with
 |none=>rw[hb]at e;cases e
 |some b=>
 rw[hb]at e
 simp only at e
 cases hle:Nat.ble (len args) b.ntmps with
 |false=>rw[hle]at e;cases e
 |true=>
 rw[hle]at e
 change (match b.body (c) n (fW args 0 Tm.none) h with| .norm t h=>fin b.res t h| .ret t h=>fin b.res t h| _=>.bad)=Ro.ok v h' at e
 rw[bE]at hle
 have Ny:args.length<=b.ntmps:=Nat.ble_eq.mp hle
 have F0:=hf f b hb
 obtain⟨F,cd,hF,hcb,eX,o6,Nz,DC⟩:=F0.ex
 refine⟨F0.enter,fun g w vs H hv=>?_⟩
 rw[DC]at e
 have DD:=zn hc (draw:=draw (c) b.ntmps) (nt:=b.ntmps) (fun id ops=>hd _ _ hc id ops) n cd
 have Yc:=hv.length
 have sb:(vs.toArray++Array.replicate (F.ntmps - vs.toArray.size) undef).size=b.ntmps:=by simp;omega
 have RJ:TR g w b.ntmps Tm.none (vs.toArray++Array.replicate (F.ntmps - vs.toArray.size) undef):=
  ⟨o6,sb,fun i v hi e=>by rw[Tm.py i hi]at e;cases e⟩
 have hT:=kI args vs 0 b.ntmps Tm.none _ hv (by omega) RJ (fun j v e=>by
  rw[Array.getElem?_append_left (by have:=(List.getElem?_eq_some_iff.1 e).1;simpa using this)]
  simpa using e)
 refine calls_of_wp hF hcb ?_
 have:=DD g w _ h {tmps:=vs.toArray++Array.replicate (F.ntmps - vs.toArray.size) undef,defers:=[]}
  (bodyPost P F (fun e w'=> ∃ x g',e=.returned x/\Ext g w h g' w' h'/\HR g' w' h'/\VR g' w' v x)) H hT rfl
 have vG: ∀ t1 h1,fin b.res t1 h1=.ok v h'-> ∀ g' w' (a':Act),Ext g w h g' w' h1->HR g' w' h1->TR g' w' b.ntmps t1 a'.tmps->a'.defers=[]->
  a'.defers=[]/\ ∃ x,(results F a'.tmps).run P w'=.ok x w'/\ ∃ y g',Ending.returned x=.returned y/\Ext g w h g' w' h'/\HR g' w' h'/\VR g' w' v y:=by
  intro t1 h1 NA g' w' a' E' H' T' D'
  obtain⟨rfl,x,hx,Bv⟩:=DA H' T' Nz NA
  exact⟨D',x,hx,x,g',rfl,E',H',Bv⟩
 simp only at e
 cases hr:dU P (draw (c) b.ntmps) (c) n b.ntmps cd (fW args 0 Tm.none) h with
 |bad=>rw[hr]at e;cases e
 |norm t1 h1=>rw[hr]at e this;exact this (vG t1 h1 e)
 |ret t1 h1=>rw[hr]at e this;exact this (vG t1 h1 e)
 |exit i t1 h1=>rw[hr]at e;cases e
end
end Go.Ab

noncomputable section
namespace Go.Ab
open Go.ChangeShapes Go.WideShapes Go.ChangeAt Go.RowKit Go.Deep Go.Joins
end Go.Ab

noncomputable section
namespace Go.Ab
variable [Io]
end Go.Ab
namespace Go.Ab
variable [Io]
section
variable {P:Program}
def ng(fn:FuncId->Option Fb)(wr:bP->bP)(n:Nat)(d:Nat):bP:=Nat.rec (fun _ _ _=>.bad) (fun _ ih=>vU fn n (wr ih)) d
theorem qF{draw:bP->Nat->Array Oper->ic}(hd:tG P draw){fn:FuncId->Option Fb}(hf: ∀ f b,fn f=some b->aY P draw f b){wr:bP->bP}
 (hw: ∀ c,cC P c->cC P (wr c))(n:Nat): ∀ d,cC P (ng fn wr n d)
 |0=>by intro f args h v h' e;cases e
 |d+1=>D5 hd hf n (hw _ (qF hd hf hw n d))
theorem bq.split{g:G}{w:World}: ∀ {l r:List AV} {vs:List Value},bq g w (l++r) vs-> ∃ us ts,vs=us++ts/\bq g w l us/\bq g w r ts
 | [],r,vs,h=>⟨[],vs,rfl,by simp[bq],h⟩
 |a::l,r,vs,h=>by
  simp only[List.cons_append,bq]at h
  obtain⟨v,l',rfl,q,p⟩:=h
  obtain⟨us,ts,rfl,h1,h2⟩:=bq.split p
  refine⟨v::us,ts,rfl,?_,h2⟩
  simp only[bq]
  exact⟨v,us,rfl,q,h1⟩
end
end Go.Ab
namespace Go.Ab
variable [Io]
end Go.Ab

noncomputable section
namespace Go.Ab
variable [Io]
def nh(n:Nat):Hp->AV->Option AV:=
 Nat.rec (fun _ _=>none) (fun _ ih h a=>match a with
  | .cR id off n sz=>match h.aN.get id with
   |some cs=>match cs.fy off (Nat.mul n sz)with
    |some l=>match mapA (ih h) l with
     |some l=>some (.fg n l)
     |none=>none
    |none=>none
   |none=>none
  | .ref id off=>match h.aN.get id with
   |some cs=>match cs.fy off (Nat.sub cs.n off)with
    |some l=>match mapA (ih h) l with
     |some l=>some (.eg l)
     |none=>none
    |none=>none
   |none=>none
  | .agg l=>match mapA (ih h) l with
   |some l=>some (.agg l)
   |none=>none
  | .mD l=>match mapA (ih h) l with
   |some l=>some (.mD l)
   |none=>none
  | .fn f l=>match mapA (ih h) l with
   |some l=>some (.fn f l)
   |none=>none
  | .fg _ _=>none
  | .eg _=>none
  |a=>some a) n
theorem IG{g g':G}{w:World}{h:Hp}(H:HR g w h)(ho: ∀ b,eT g h b->g'.cT b): ∀ (n:Nat) (a a':AV) (v:Value),nh n h a=some a'->VR g w a v->VR g' w a' v:=by
 intro n
 induction n with
 |zero=>intro a a' v e;cases e
 |succ n ih=>
  intro a a' v e hv
  have hm:= @pJ _ g g' w (nh n h) ih
  cases a with
  |int k n=>cases e;simpa only[VR]using hv
  |bool b=>cases e;simpa only[VR]using hv
  |sc x=>cases e;simpa only[VR]using hv
  |cS=>cases e;simpa only[VR]using hv
  |iQ=>cases e;simpa only[VR]using hv
  |sym k s lo hi o=>cases e;simpa only[VR]using hv
  |any=>cases e;simpa only[VR]using hv
  |agg l=>
   change (match mapA (nh n h) l with|some l=>some (AV.agg l)|none=>none)=some a' at e
   cases h1:mapA (nh n h) l with
   |none=>rw[h1]at e;cases e
   |some l'=>
    rw[h1]at e
    cases e
    simp only[VR]at hv ⊢
    obtain⟨vs,e,q⟩:=hv
    exact⟨vs,e,hm h1 q⟩
  |mD l=>
   change (match mapA (nh n h) l with|some l=>some (AV.mD l)|none=>none)=some a' at e
   cases h1:mapA (nh n h) l with
   |none=>rw[h1]at e;cases e
   |some l'=>
    rw[h1]at e
    cases e
    simp only[VR]at hv ⊢
    obtain⟨vs,e,q⟩:=hv
    exact⟨vs,e,hm h1 q⟩
  |fn f l=>
   change (match mapA (nh n h) l with|some l=>some (AV.fn f l)|none=>none)=some a' at e
   cases h1:mapA (nh n h) l with
   |none=>rw[h1]at e;cases e
   |some l'=>
    rw[h1]at e
    cases e
    simp only[VR]at hv ⊢
    obtain⟨vs,e,q⟩:=hv
    exact⟨vs,e,hm h1 q⟩
  |fg m l=>cases e
  |eg l=>cases e
  |ref id off=>
   change (match h.aN.get id with|some cs=>(match cs.fy off (Nat.sub cs.n off)with|some l=>(match mapA (nh n h) l with|some l=>some (AV.eg l)|none=>none)|none=>none)|none=>none)=some a' at e
   cases h0:h.aN.get id with
   |none=>rw[h0]at e;cases e
   |some cs=>
   rw[h0]at e
   simp only at e
   cases hs:cs.fy off (Nat.sub cs.n off)with
   |none=>rw[hs]at e;cases e
   |some l=>
   rw[hs]at e
   simp only at e
   cases h1:mapA (nh n h) l with
   |none=>rw[h1]at e;cases e
   |some l'=>
    rw[h1]at e
    cases e
    obtain⟨rfl,_,_⟩:=eV hs
    simp only[VR]at hv ⊢
    obtain⟨b,s,D2,rfl⟩:=hv
    obtain⟨C,el,vs,hw,_,cU,hC⟩:=H.row h0 D2
    exact⟨b,s+off,(vs.drop off).take (Nat.sub cs.n off),rfl,ho b ⟨id,cs,s,h0,D2⟩,((dS hw hC).drop off).take _,hm h1 ((cU.drop off).take _)⟩
  |cR id off m sz=>
   change (match h.aN.get id with|some cs=>(match cs.fy off (Nat.mul m sz)with|some l=>(match mapA (nh n h) l with|some l=>some (AV.fg m l)|none=>none)|none=>none)|none=>none)=some a' at e
   cases h0:h.aN.get id with
   |none=>rw[h0]at e;cases e
   |some cs=>
   rw[h0]at e
   simp only at e
   cases hs:cs.fy off (Nat.mul m sz)with
   |none=>rw[hs]at e;cases e
   |some l=>
   rw[hs]at e
   simp only at e
   cases h1:mapA (nh n h) l with
   |none=>rw[h1]at e;cases e
   |some l'=>
    rw[h1]at e
    cases e
    obtain⟨rfl,hlen,_⟩:=eV hs
    simp only[VR]at hv ⊢
    rcases hv with⟨rfl,x,rfl⟩|⟨b,s,cap,D2,rfl,hle,_⟩
    ·refine⟨x,0,rfl,Nat.le_refl _,.inl ⟨rfl,?_⟩⟩
     have hz:Nat.mul 0 sz=0:=Nat.zero_mul sz
     rw[hz]at h1
     simp only[List.take_zero]at h1
     cases h1
     rfl
    ·obtain⟨C,el,vs,hw,_,cU,hC⟩:=H.row h0 D2
     exact⟨_,cap,rfl,hle,.inr ⟨b,s+off,(vs.drop off).take (Nat.mul m sz),rfl,ho b ⟨id,cs,s,h0,D2⟩,((dS hw hC).drop off).take _,hm h1 ((cU.drop off).take _)⟩⟩
mutual
def j6:AV->Bool
 | .agg l=>jN l
 | .mD l=>jN l
 | .fg _ l=>jN l
 | .eg l=>jN l
 | .fn _ l=>jN l
 | .ref _ _=>false
 | .cR _ _ _ _=>false
 | _=>true
def jN:List AV->Bool
 | []=>true
 |a::l=>j6 a&&jN l
end
mutual
theorem VR.j6{g:G}{w:World}: ∀ (a:AV) (v:Value),j6 a=true->VR g w a v->VR (gE g.cT) w a v
 | .int _ _,v,n,r=>by simpa only[VR]using r
 | .bool _,v,n,r=>by simpa only[VR]using r
 | .sc _,v,n,r=>by simpa only[VR]using r
 | .cS,v,n,r=>by simpa only[VR]using r
 | .iQ,v,n,r=>by simpa only[VR]using r
 | .any,v,n,r=>by simpa only[VR]using r
 | .sym _ _ _ _ _,v,n,r=>by simpa only[VR]using r
 | .ref _ _,v,n,r=>by cases n
 | .cR _ _ _ _,v,n,r=>by cases n
 | .agg cs,v,n,r=>by
  simp only[VR]at r ⊢
  obtain⟨vs,e,q⟩:=r
  exact⟨vs,e,bq.j6 cs _ n q⟩
 | .mD cs,v,n,r=>by
  simp only[VR]at r ⊢
  obtain⟨vs,e,q⟩:=r
  exact⟨vs,e,bq.j6 cs _ n q⟩
 | .fn f cs,v,n,r=>by
  simp only[VR]at r ⊢
  obtain⟨vs,e,q⟩:=r
  exact⟨vs,e,bq.j6 cs _ n q⟩
 | .fg m cs,v,n,r=>by
  simp only[VR]at r ⊢
  obtain⟨a,cap,e,l,r⟩:=r
  refine⟨a,cap,e,l,?_⟩
  rcases r with r|⟨b,o,vs,e,i,c,q⟩
  ·exact .inl r
  ·exact .inr ⟨b,o,vs,e,i,c,bq.j6 cs _ n q⟩
 | .eg cs,v,n,r=>by
  simp only[VR]at r ⊢
  obtain⟨b,o,vs,e,i,c,q⟩:=r
  exact⟨b,o,vs,e,i,c,bq.j6 cs _ n q⟩
theorem bq.j6{g:G}{w:World}: ∀ (l:List AV) (vs:List Value),jN l=true->bq g w l vs->bq (gE g.cT) w l vs
 | [],vs,n,r=>by simpa only[bq]using r
 |a::l,vs,n,r=>by
  simp only[jN,Bool.and_eq_true]at n
  simp only[bq]at r ⊢
  obtain⟨v,l',e,q,r⟩:=r
  exact⟨v,l',e,VR.j6 a v n.1 q,bq.j6 l l' n.2 r⟩
end
def bL(P:Program)(f:FuncId)(args:List AV)(v:AV):Prop:=
 (∀ as w,(callFunc f as).run P w=.ok (.enter f as) w)/\ ∀ (g:G) (w:World) (vs:List Value),(∀ b,g.cT b->b<w.heap.size)->gz g w->bq g w args vs->
  Calls P f vs.toArray w fun e w'=> ∃ x,e=.returned x/\o8 w w'/\VR (gE fun b=>w.heap.size<=b/\b<w'.heap.size) w' v x
def Zy(r:Ro):Option AV:=Ro.rec none (fun v h=>nh 8 h v) r
theorem su{P:Program}{call:bP}(hc:cC P call){f:FuncId}{args:List AV}{v':AV}(e:Zy (call f args (dL 0))=some v')(ha:jN args=true):bL P f args v':=by
 cases hr:call f args (dL 0)with
 |bad=>rw[hr]at e;cases e
 |ok v h'=>
 rw[hr]at e
 have hf:nh 8 h' v=some v':=e
 obtain⟨RG,oP⟩:=hc f args (dL 0) v h' hr
 refine⟨RG,fun g w vs hi ht hv=>(oP (gE g.cT) w vs (vT hi ht) (bq.j6 _ _ ha hv)).mono ?_⟩
 rintro e w' ⟨x,g',rfl,E,H',hx⟩
 refine⟨x,rfl,zG E,IG H' (fun b k=>?_) 8 v v' x hf hx⟩
 rcases E.jg b k with⟨id,cs,s,e,_⟩|k1
 ·cases e
 ·obtain⟨id,cs,s,e,m⟩:=k
  obtain⟨_,_,_,hw,_⟩:=H'.row e m
  exact⟨k1,(Array.getElem?_eq_some_iff.1 hw).1⟩
def NP(has:FuncId->Bool)(RY:FuncId->List AV->Option AV)(call:bP):bP:=fun f args h=>Bool.rec (call f args h) (match mapA (mi 8 h) args with
 |some kO=>match RY f kO with
  |some v=>.ok v h
  |none=>call f args h
 |none=>call f args h) (has f)
theorem IH{P:Program}{has:FuncId->Bool}{RY:FuncId->List AV->Option AV}{call:bP}(ht: ∀ f args v,RY f args=some v->bL P f args v)(hc:cC P call):cC P (NP has RY call):=by
 intro f args h v h' e
 unfold NP at e
 cases hh:has f with
 |false=>rw[hh]at e;exact hc f args h v h' e
 |true=>
 rw[hh]at e
 simp only at e
 cases Qz:mapA (mi 8 h) args with
 |none=>rw[Qz]at e;exact hc f args h v h' e
 |some kO=>
 rw[Qz]at e
 simp only at e
 cases NQ:RY f kO with
 |none=>rw[NQ]at e;exact hc f args h v h' e
 |some v1=>
  rw[NQ]at e
  cases e
  obtain⟨k1,k2⟩:=ht f kO v NQ
  refine⟨k1,fun g w vs H hv=>?_⟩
  have RD:bq (gE fun b=>b<w.heap.size) w kO vs:=pJ (g:=g) (fun a a' x=>NM H (g':=gE fun b=>b<w.heap.size) H.cT (fun b ⟨id,cs,s,e,m⟩=>by
   obtain⟨_,_,_,hw,_⟩:=H.row e m
   exact(Array.getElem?_eq_some_iff.1 hw).1) 8 a a' x) Qz hv
  refine(k2 (gE fun b=>b<w.heap.size) w vs (fun b k=>k) (fun p hp=>⟨H.cT _ (H.tb p hp).1,(H.tb p hp).2⟩) RD).mono ?_
  rintro e w' ⟨x,rfl,K,hx⟩
  obtain⟨g',tT⟩: ∃ g':G,g'=⟨g.m,fun b=>g.cT b∨(w.heap.size<=b/\b<w'.heap.size)⟩:=⟨_,rfl⟩
  have hO: ∀ b,eT g' h b->eT g h b:=by
   rintro b ⟨id,cs,s,e,m⟩
   rw[tT]at m
   exact⟨id,cs,s,e,m⟩
  have M:jh g w g' w':=⟨fun _ _ e=>by rw[tT];exact e,fun b i=>by rw[tT];exact .inl i,fun b i=>K.j2 b (H.cT b i),K.rows⟩
  refine⟨x,g',rfl,⟨K.os,K.tape,K.output,K.size,Nat.le_refl _,M.m,fun b hb _=>K.j2 b hb,K.rows,M.cT,fun b i=>?_,fun b o=>.inl (hO b o)⟩,⟨fun id eC=>?_,fun id cs e=>?_,fun id nU b s s' cs cs' e1 e2 m1 m2=>?_,fun b i=>?_,gz.mono M H.tb⟩,?_⟩
  ·rw[tT]at i
   rcases i with i|i
   ·exact .inl i
   ·exact .inr (.inr i.1)
  ·rw[tT];exact H.fresh id eC
  ·obtain⟨b,s,C,el,us,h1,h2,h3,h4,h5⟩:=H.aN id cs e
   have hb:=(Array.getElem?_eq_some_iff.1 h2).1
   refine⟨b,s,C,el,us,M.m _ _ h1,by rw[K.j2 b hb];exact h2,?_,bq.dA M _ _ h4,h5⟩
   rw[tT]
   rintro(i|i)
   ·exact h3 i
   ·omega
  ·rw[tT]at m1 m2
   exact H.inj id nU b s s' cs cs' e1 e2 m1 m2
  ·rw[tT]at i
   rcases i with i|i
   ·exact Nat.lt_of_lt_of_le (H.cT b i) K.size
   ·exact i.2
  ·refine VR.dA (⟨(fun _ _ e=>by cases e),(fun b i=>by rw[tT];exact .inr i),fun _ _=>rfl,fun _=>Nat.le_refl _⟩:jh _ _ g' w') _ _ hx
structure Kn where
 f:FuncId
 args:List AV
 v:AV
def KT(P:Program)(rows:List Kn):Prop:= ∀ r∈rows,bL P r.f r.args r.v
theorem KT.cons{P:Program}{f:FuncId}{args:List AV}{v:AV}{l:List Kn}(h:bL P f args v)(t:KT P l):KT P (⟨f,args,v⟩::l):=by
 intro r hr
 cases hr with
 |head=>exact h
 |tail _ hr=>exact t r hr
end Go.Ab

noncomputable section
namespace Go.Ab
inductive Od where
 |t (i:Nat)
 |c (v:AV)
 |zz
 |w (o:Od)
inductive BF where
 |add|sub|mul|quo|rem|and|or|xor|andNot|shl|shr|lss|leq|gtr|geq
 |eqI (neg:Bool)|Li (neg:Bool)|GD (neg:Bool)|Yo (neg:Bool)|Yp (neg:Bool)|iG (neg:Bool) (l:List Bool)
inductive UF where
 |not|neg|xor|int (k:IntKind)
inductive gb where
 |mv (a:Od)|pk (c a b:Od)|nw (cs:List AV)|bx (a:Od)|bd (z:List AV) (ps:List (Nat×Nat×Od))|rw(n sz:Nat) (z:List AV) (ps:List (Nat×Od))
 |ld (sz:Nat) (agg:Bool) (a:Od)|sto (sz:Nat) (a b:Od)|nl (a:Od)|bn (f:BF) (a b:Od)|un (f:UF) (a:Od)|bys (a:Od)|fn (f:FuncId) (cap:List Od)
 |mk (size bytes:Nat) (zero:List AV) (l c:Od)|slS (a:Od) (lo hi:Option Od)|slN (size:Nat) (a:Od) (lo hi:Option Od)|slA (n size:Nat) (a:Od) (lo hi:Option Od)
 |fa (off:Nat) (a:Od)|fd (off size:Nat) (agg:Bool) (a:Od)|ixS (size:Nat) (a i:Od)|ixA (n size:Nat) (a i:Od)|ix (n size:Nat) (agg:Bool) (a i:Od)|ixT (a i:Od)
 |ex (a:Od) (i:Nat)|lnT (a:Od)|ln (a:Od)|ap (size bytes:Nat) (s a:Od)|apZ (size bytes:Nat) (z:List AV) (s a:Od)|apS (bytes:Nat) (s a:Od)|mrk (a:Od)
 |cpy (size:Nat) (d s:Od)|emp (a b c:Od)|min (a b:Od)|max (a b:Od)|map|cap (a:Od)|bad|call (f:FuncId) (args:List Od)|callV (f:Od) (args:List Od)
 |gd (j:Od) (want:Bool) (f:gb)|mn (f:gb)
inductive rJ where
 |fi
 |st (i:Nat) (f:gb) (k:rJ)
 |sn (f:gb) (k:rJ)
 |ck (s:Od) (f:gb) (k:rJ)
inductive j7 where
 |rg (r:rJ)|sk|sq (a b:j7)|QI (c:Od) (a b:j7)|bl (id:Nat) (b:j7)|lp (b:j7)|ex (i:Nat)|rt|bad
structure bM where
 ntmps:Nat
 res:List RV
 code:j7
def bz(o:Od):dj:=Od.rec (fun i=>oT i) (fun v=>oC v) oX (fun _ ih=>wO ih) o
def BF.f:BF->AV->AV->Option AV
 | .add=>aT| .sub=>bT| .mul=>eU| .quo=>mF| .rem=>jZ| .and=>cz| .or=>gi| .xor=>rU| .andNot=>jy| .shl=>fo| .shr=>cJ
 | .lss=>aS| .leq=>cB| .gtr=>cE| .geq=>bN
 | .eqI n=>ak n| .Li n=>sZ n| .GD n=>pU n| .Yo n=>gL n| .Yp n=>gM n| .iG n l=>xE n l
def UF.f:UF->AV->Option AV
 | .not=>ed| .neg=>s6| .xor=>A5| .int k=>aJ k
def yi(call:bP)(o:gb):dg:=match o with
 | .mv a=>aa (bz a)| .pk c a b=>aO (bz c) (bz a) (bz b)| .nw cs=>bX cs| .bx a=>cb (bz a)
 | .bd z ps=>an z (ps.map fun p=>(p.1,p.2.1,bz p.2.2))| .rw n sz z ps=>bf n sz z (ps.map fun p=>(p.1,bz p.2))
 | .ld sz agg a=>ae sz agg (bz a)| .sto sz a b=>aq sz (bz a) (bz b)| .nl a=>aA (bz a)| .bn f a b=>af f.f (bz a) (bz b)| .un f a=>bF f.f (bz a)
 | .bys a=>jA (bz a)| .fn f cap=>GF f (cap.map bz)| .mk s b z l c=>jf s b z (bz l) (bz c)
 | .slS a lo hi=>ct (bz a) (lo.map bz) (hi.map bz)| .slN s a lo hi=>bB s (bz a) (lo.map bz) (hi.map bz)| .slA n s a lo hi=>ek n s (bz a) (lo.map bz) (hi.map bz)
 | .fa off a=>ab off (bz a)| .fd off s g a=>ij off s g (bz a)| .ixS s a i=>bg s (bz a) (bz i)| .ixA n s a i=>j9 n s (bz a) (bz i)| .ix n s g a i=>gy n s g (bz a) (bz i)| .ixT a i=>bG (bz a) (bz i)
 | .ex a i=>aD (bz a) i| .lnT a=>fB (bz a)| .ln a=>aP (bz a)| .ap s b x y=>aC s b (bz x) (bz y)| .apZ s b z x y=>j1 s b z (bz x) (bz y)| .apS b x y=>mJ b (bz x) (bz y)
 | .mrk a=>lW (bz a)| .cpy s d a=>fQ s (bz d) (bz a)| .emp a b c=>pY (bz a) (bz b) (bz c)| .min a b=>mK (bz a) (bz b)| .max a b=>rA (bz a) (bz b)| .map=>A6| .cap a=>mH (bz a)| .bad=>bA
 | .call f args=>aj call f (args.map bz)| .callV f args=>eB call (bz f) (args.map bz)
 | .gd j want f=>gF (bz j) want (yi call f)| .mn f=>mn (yi call f)
def Cj(call:bP)(r:rJ):ic:=
 rJ.rec Go.Ab.fi (fun i f _ ih=>st (sT i) (yi call f) ih) (fun f _ ih=>sn (yi call f) ih) (fun s f _ ih=>ck (bz s) (yi call f) ih) r
def hJ(call:bP)(n:Nat)(c:j7):rr:=
 j7.rec (fun r=>ai (Cj call r)) aU (fun _ _ a b=>ah a b) (fun c _ _ a b=>aE (bz c) a b) (fun id _ b=>bI id b) (fun _ b=>dE n b) (fun i=>dG i) aZ u6 c
def bM.fb(b:bM):Fb:=⟨b.ntmps,b.res,fun call n=>hJ call n b.code⟩
namespace X
abbrev oC(v:AV):Od:=.c v
abbrev oT(i:Nat):Od:=.t i
abbrev oX:Od:=.zz
abbrev wO(o:Od):Od:=.w o
abbrev aa:=gb.mv
abbrev aO:=gb.pk
abbrev bX:=gb.nw
abbrev cb:=gb.bx
abbrev an:=gb.bd
abbrev bf:=gb.rw
abbrev ae:=gb.ld
abbrev aq:=gb.sto
abbrev aA:=gb.nl
abbrev af:=gb.bn
abbrev bF:=gb.un
abbrev jA:=gb.bys
abbrev GF:=gb.fn
abbrev jf:=gb.mk
abbrev ct:=gb.slS
abbrev bB:=gb.slN
abbrev ek:=gb.slA
abbrev ab:=gb.fa
abbrev ij:=gb.fd
abbrev bg:=gb.ixS
abbrev j9:=gb.ixA
abbrev gy:=gb.ix
abbrev bG:=gb.ixT
abbrev aD:=gb.ex
abbrev fB:=gb.lnT
abbrev aP:=gb.ln
abbrev aC:=gb.ap
abbrev j1:=gb.apZ
abbrev mJ:=gb.apS
abbrev lW:=gb.mrk
abbrev fQ:=gb.cpy
abbrev pY:=gb.emp
abbrev mK:=gb.min
abbrev rA:=gb.max
abbrev A6:=gb.map
abbrev mH:=gb.cap
abbrev bA:=gb.bad
abbrev aj(_:Unit)(f:FuncId)(args:List Od):=gb.call f args
abbrev eB(_:Unit)(f:Od)(args:List Od):=gb.callV f args
abbrev gF:=gb.gd
abbrev mn:=gb.mn
abbrev fi:=rJ.fi
abbrev st:=rJ.st
abbrev sn:=rJ.sn
abbrev ck:=rJ.ck
abbrev ai:=j7.rg
abbrev aU:=j7.sk
abbrev ah:=j7.sq
abbrev aE:=j7.QI
abbrev bI:=j7.bl
abbrev dE(_:Unit)(b:j7):=j7.lp b
abbrev dG:=j7.ex
abbrev aZ:=j7.rt
abbrev u6:=j7.bad
abbrev aT:=BF.add
abbrev bT:=BF.sub
abbrev eU:=BF.mul
abbrev mF:=BF.quo
abbrev jZ:=BF.rem
abbrev cz:=BF.and
abbrev gi:=BF.or
abbrev rU:=BF.xor
abbrev jy:=BF.andNot
abbrev fo:=BF.shl
abbrev cJ:=BF.shr
abbrev aS:=BF.lss
abbrev cB:=BF.leq
abbrev cE:=BF.gtr
abbrev bN:=BF.geq
abbrev ak:=BF.eqI
abbrev sZ:=BF.Li
abbrev pU:=BF.GD
abbrev gL:=BF.Yo
abbrev gM:=BF.Yp
abbrev xE:=BF.iG
abbrev ed:=UF.not
abbrev s6:=UF.neg
abbrev A5:=UF.xor
abbrev aJ:=UF.int
abbrev a8(n:Nat)(r:List RV)(b:Unit->Unit->j7):bM:=⟨n,r,b () ()⟩
end X
end Go.Ab
