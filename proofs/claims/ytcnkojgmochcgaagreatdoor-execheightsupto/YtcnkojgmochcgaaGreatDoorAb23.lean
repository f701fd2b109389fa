import Derived.Test.YtcnkojgmochcgaaGreatDoorAb16
import Derived.KernelRfl
import Derived.Below
import Derived.Lib.SmallJoins
noncomputable section
namespace Go.Ab
variable [Io]
section
variable {P:Program}{call:cY}
def GD(f:eP):Prop:= ∀ t h v h',f t h=.ok v h'->h'=h
omit [Io] in
theorem yv{b:Bool}{x:Ro}{v:AV}{h:Hp}(e:(bif b then x else .bad)=.ok v h):x=.ok v h:=by cases b;cases e;exact e
omit [Io] in
theorem lY:GD cq:=by intro t h v h' e;cases e
omit [Io] in
theorem Iw{c:Bool}{f:eP}(i:GD f):GD (gD c f cq):=by cases c;exact lY;exact i
omit [Io] in
theorem M6{n:Nat}{b:Bool}{x:eR}:GD (bc n b x):=by
 intro t h v h' e
 unfold bc at e
 split at e
 ·split at e
  ·cases e;rfl
  ·cases e
 ·cases e
omit [Io] in
theorem FN{x:eR}{lo hi:Option eR}:GD (dG x lo hi):=by
 intro t h v h' e
 unfold dG at e
 split at e
 ·split at e
  ·cases e;rfl
  ·cases e
 ·cases e
omit [Io] in
theorem Ix{n:Nat}{x:eR}{lo hi:Option eR}:GD (mM n x lo hi):=by
 intro t h v h' e
 unfold mM at e
 split at e
 ·split at e
  ·cases e;rfl
  ·cases e
 ·split at e
  ·have e:=yv e
   cases e;rfl
  ·cases e
 ·split at e
  ·cases e;rfl
  ·cases e
 ·cases e
omit [Io] in
theorem FO{n:Nat}{x:eR}{lo hi:Option eR}:GD (cB n x lo hi):=by
 intro t h v h' e
 unfold cB at e
 split at e
 ·rename_i a hx
  cases hE:qu a with
  |false=>rw[hE]at e;exact Ix _ _ _ _ e
  |true=>
   rw[hE]at e
   simp only[cond_true]at e
   split at e
   ·cases e;rfl
   ·cases e
 ·cases e
omit [Io] in
theorem FP{n m:Nat}{x:eR}{lo hi:Option eR}:GD (gq n m x lo hi):=by
 intro t h v h' e
 unfold gq at e
 split at e
 ·split at e
  ·split at e
   ·have e:=yv e
    cases e;rfl
   ·cases e
  ·cases e
 ·cases e
omit [Io] in
theorem SI{x y z:eR}:GD (uW x y z):=by
 intro t h v h' e
 unfold uW at e
 split at e
 ·split at e
  ·have e:=yv e
   split at e
   ·cases e;rfl
   ·cases e;rfl
   ·cases e;rfl
   ·cases e
  ·cases e
 ·cases e
omit [Io] in
theorem SJ{o:Op}(hc:(nM P call o).1=.p1):GD (nM P call o).2:=by
 cases o<;>simp only[nM]at hc ⊢
 case load T x=>
  unfold zV
  split
  ·split
   ·exact M6
   ·exact lY
  ·exact lY
 case slice T x lo hi mx=>
  cases mx with
  |some m=>
   simp only
   unfold q9
   split
   ·split
    ·split
     ·exact SI
     ·exact lY
    ·exact lY
   ·exact lY
  |none=>
   simp only
   unfold vg
   split
   ·exact FN
   ·split
    ·exact FO
    ·exact lY
   ·split
    ·exact Iw FP
    ·exact lY
   ·exact lY
 case binOp op T x y yT=>cases h:zU P op T<;>rw[h]at hc<;>cases hc
 case unOp op T x=>cases h:SA op<;>rw[h]at hc<;>cases hc
 case convert S D x=>
  cases h:P.underlying D with
  |none=>rw[h]at hc;cases hc
  |some d=>cases d<;>rw[h]at hc<;>cases hc
 case makeFunc f first caps=>
  cases f<;>try (cases hc;done)
  simp only at hc
  cases h:first.toList<;>rw[h]at hc<;>cases hc
 case makeMap T r=>cases r<;>cases hc
 case call c=>cases h:iA P c<;>rw[h]at hc<;>cases hc
 all_goals (cases hc)
omit [Io] in
theorem Iy{nt:Nat}{all:List Oper}{o:Oper}(fF:(nM P call o.op).1=.p1):GD (kC P call nt all o):=by
 have hf:GD (nM P call o.op).2:=SJ fF
 unfold kC
 cases o.guard with
 |none=>exact hf
 |some p=>
  obtain⟨j,want⟩:=p
  simp only
  split
  ·split
   ·refine Iw ?_
    intro t h v h' e
    unfold gF at e
    split at e
    ·rename_i b _
     cases hw:gD want b (!b)with
     |false=>rw[hw]at e;cases e;rfl
     |true=>rw[hw]at e;exact hf t h v h' e
    ·cases e;rfl
    ·cases e
   ·exact lY
  ·exact lY
end
omit [Io] in
theorem nh{b x:Bool}(h:(Bool.rec true x b:Bool)=true)(hb:b=true):x=true:=by subst hb;exact h
namespace Cx
variable {c:Cx}
omit [Io] in
theorem j4{k:Cl}{i:Nat}:rq c.P c.call c.ops.toList k i=true↔c.dM i k:=by
 unfold rq dM
 rw[fQ]
 constructor
 ·intro h
  split at h
  ·rename_i o ho
   exact⟨o,by simpa using ho,Iv h⟩
  ·cases h
 ·rintro⟨o,ho,hk⟩
  have:c.ops.toList[i]? =some o:=by simpa using ho
  rw[this,<-hk]
  simp only
  cases(nM c.P c.call o.op).1<;>rfl
omit [Io] in
theorem vw{cM:List Nat}{i:Nat}(h:BK c.nt c.ops.toList cM i=true): ∀ u∈c.LC i,u<c.nt/\((∀ j,c.lM j u->j∈cM/\c.An i j)∨ ∀ j,c.lM j u->j∉cM/\c.An j i/\ ¬ c.An i j):=by
 unfold BK at h
 rw[fQ]at h
 unfold LC
 intro u hu
 cases ho:c.ops[i]? with
 |none=>rw[ho]at hu;cases hu
 |some o=>
  rw[ho]at hu
  have:c.ops.toList[i]? =some o:=by simpa using ho
  rw[this]at h
  simp only[hI,List.all_eq_true]at h
  have:=h u hu
  rw[Bool.and_eq_true]at this
  refine⟨ct.1 this.1,?_⟩
  cases h1:allI (fun j o'=>Bool.rec true (kL j cM&&Cf c.ops.toList i j) (xq o' u)) c.ops.toList 0 with
  |true=>
   refine .inl ?_
   rintro j ⟨oj,hoj,hd⟩
   have h2:=nh (kg h1 j oj (by simpa using hoj)) (sS hd)
   rw[Bool.and_eq_true,kf]at h2
   exact h2
  |false=>
   rw[h1]at this
   refine .inr ?_
   rintro j ⟨oj,hoj,hd⟩
   have h2:=nh (kg this.2 j oj (by simpa using hoj)) (sS hd)
   simp only[Bool.and_eq_true,Bool.not_eq_true']at h2
   refine⟨fun k=>?_,h2.2.1,fun k=>?_⟩
   ·rw[kf.2 k]at h2;cases h2.1
   ·unfold An at k;rw[k]at h2;cases h2.2.2
def Cov(c:Cx)(cM:List Nat)(u:Nat):Prop:= ∀ j,c.lM j u->j∈cM
def QP(c:Cx)(cM:List Nat)(t:Tm):Prop:= ∀ u,u<512->(∀ j,c.lM j u->j∉cM)->t.at u=c.t0.at u
def Fr(c:Cx)(cM:List Nat)(t:Tm):Prop:= ∀ u,u<512->c.Cov cM u->c.te.at u=t.at u
omit [Io] in
theorem rr{i:Nat}{k:me}{t:Tm}{h:Hp}{te:Tm}{hE:Hp}(e:M5 c.P c.call c.nt c.ops.toList i k t h=.ok te hE):
 ∃ o v h1 t1,c.ops[i]? =some o/\kC c.P c.call c.nt c.ops.toList o t h=.ok v h1/\k t1 h1=.ok te hE/\((∃ d,o.dst=some d/\d<c.nt/\t1=sT d v t)∨(o.dst=none/\t1=t)):=by
 unfold M5 at e
 rw[fQ]at e
 cases ho:c.ops.toList[i]? with
 |none=>rw[ho]at e;cases e
 |some o=>
  rw[ho]at e
  simp only at e
  have j3:c.ops[i]? =some o:=by simpa using ho
  cases hd:o.dst with
  |none=>
   rw[hd]at e
   change sn (kC c.P c.call c.nt c.ops.toList o) k t h=_ at e
   unfold sn at e
   cases hg:kC c.P c.call c.nt c.ops.toList o t h with
   |bad=>rw[hg]at e;cases e
   |ok v h1=>rw[hg]at e;exact⟨o,v,h1,t,j3,hg,e,.inr ⟨hd,rfl⟩⟩
  |some d=>
   rw[hd]at e
   simp only at e
   cases hb:Nat.blt d c.nt with
   |false=>rw[hb]at e;cases e
   |true=>
    rw[hb]at e
    change st (sT d) (kC c.P c.call c.nt c.ops.toList o) k t h=_ at e
    unfold st at e
    cases hg:kC c.P c.call c.nt c.ops.toList o t h with
    |bad=>rw[hg]at e;cases e
    |ok v h1=>rw[hg]at e;exact⟨o,v,h1,_,j3,hg,e,.inl ⟨d,hd,ct.1 hb,rfl⟩⟩
omit [Io] in
theorem DF{f:eP}{t:Tm}{h h':Hp}{v:AV}(e:mn f t h=.ok v h'):f t h=.ok v h'/\h.next<=h'.next:=by
 unfold mn at e
 cases hf:f t h with
 |bad=>rw[hf]at e;cases e
 |ok v1 h1=>
  rw[hf]at e
  change (Bool.rec Ro.bad (Ro.ok v1 h1) (Nat.ble h.next h1.next):Ro)=_ at e
  cases hb:Nat.ble h.next h1.next with
  |false=>rw[hb]at e;cases e
  |true=>rw[hb]at e;cases e;exact⟨rfl,Nat.ble_eq.mp hb⟩
omit [Io] in
theorem Ag{i:Nat}{k:me}{t:Tm}{h:Hp}{te:Tm}{hE:Hp}(e:runM c.P c.call c.nt c.ops.toList i k t h=.ok te hE):
 ∃ o v h1 t1,c.ops[i]? =some o/\kC c.P c.call c.nt c.ops.toList o t h=.ok v h1/\h.next<=h1.next/\k t1 h1=.ok te hE/\((∃ d,o.dst=some d/\d<c.nt/\t1=sT d v t)∨(o.dst=none/\t1=t)):=by
 unfold runM at e
 rw[fQ]at e
 cases ho:c.ops.toList[i]? with
 |none=>rw[ho]at e;cases e
 |some o=>
  rw[ho]at e
  simp only at e
  have j3:c.ops[i]? =some o:=by simpa using ho
  cases hd:o.dst with
  |none=>
   rw[hd]at e
   change sn (mn (kC c.P c.call c.nt c.ops.toList o)) k t h=_ at e
   unfold sn at e
   cases hg:mn (kC c.P c.call c.nt c.ops.toList o) t h with
   |bad=>rw[hg]at e;cases e
   |ok v h1=>rw[hg]at e;exact⟨o,v,h1,t,j3,(DF hg).1,(DF hg).2,e,.inr ⟨hd,rfl⟩⟩
  |some d=>
   rw[hd]at e
   simp only at e
   cases hb:Nat.blt d c.nt with
   |false=>rw[hb]at e;cases e
   |true=>
    rw[hb]at e
    change st (sT d) (mn (kC c.P c.call c.nt c.ops.toList o)) k t h=_ at e
    unfold st at e
    cases hg:mn (kC c.P c.call c.nt c.ops.toList o) t h with
    |bad=>rw[hg]at e;cases e
    |ok v h1=>rw[hg]at e;exact⟨o,v,h1,_,j3,(DF hg).1,(DF hg).2,e,.inl ⟨d,hd,ct.1 hb,rfl⟩⟩
omit [Io] in
theorem Ah{i:Nat}{k:me}{t:Tm}{h:Hp}{te:Tm}{hE:Hp}(hc:c.dM i .p1)(e:SH c.P c.call c.nt c.ops.toList i k t h=.ok te hE):
 ∃ o v,c.ops[i]? =some o/\kC c.P c.call c.nt c.ops.toList o t h=.ok v h/\k t h=.ok te hE/\ ∀ d,o.dst=some d->d<c.nt/\t.at d=some v:=by
 unfold SH at e
 rw[fQ]at e
 cases ho:c.ops.toList[i]? with
 |none=>rw[ho]at e;cases e
 |some o=>
  rw[ho]at e
  simp only at e
  have j3:c.ops[i]? =some o:=by simpa using ho
  have hlv: ∀ v h1,kC c.P c.call c.nt c.ops.toList o t h=.ok v h1->h1=h:=by
   intro v h1 hg
   obtain⟨o',oh,Ms⟩:=hc
   rw[j3]at oh
   cases oh
   exact Iy Ms _ _ _ _ hg
  cases hd:o.dst with
  |none=>
   rw[hd]at e
   change sn (kC c.P c.call c.nt c.ops.toList o) k t h=_ at e
   unfold sn at e
   cases hg:kC c.P c.call c.nt c.ops.toList o t h with
   |bad=>rw[hg]at e;cases e
   |ok v h1=>
    rw[hg]at e
    obtain rfl:=hlv v h1 hg
    exact⟨o,v,j3,hg,e,fun d h=>by rw[hd]at h;cases h⟩
  |some d=>
   rw[hd]at e
   simp only at e
   cases hb:Nat.blt d c.nt with
   |false=>rw[hb]at e;cases e
   |true=>
    rw[hb]at e
    change ck (oT d) (kC c.P c.call c.nt c.ops.toList o) k t h=_ at e
    unfold ck at e
    cases hg:kC c.P c.call c.nt c.ops.toList o t h with
    |bad=>rw[hg]at e;cases e
    |ok v h1=>
     rw[hg]at e
     obtain rfl:=hlv v h1 hg
     change (Option.rec Rt.bad (fun u=>Bool.rec Rt.bad (k t h1) (mf u v)) (t.at d):Rt)=_ at e
     cases ht:t.at d with
     |none=>rw[ht]at e;cases e
     |some u=>
      rw[ht]at e
      change (Bool.rec Rt.bad (k t h1) (mf u v):Rt)=_ at e
      cases hq:mf u v with
      |false=>rw[hq]at e;cases e
      |true=>
       rw[hq]at e
       obtain rfl:=uB _ _ hq
       exact⟨o,u,j3,hg,e,fun d' h=>by rw[hd]at h;cases h;exact⟨ct.1 hb,ht⟩⟩
omit [Io] in
theorem ru{cM:List Nat}{i:Nat}{o:Oper}{t t1:Tm}{v:AV}(iK:c.nt<=512)(ho:c.ops[i]? =some o)(hi:i∉cM)
 (ht:(∃ d,o.dst=some d/\d<c.nt/\t1=sT d v t)∨(o.dst=none/\t1=t))(F:c.Fr (i::cM) t1):c.Fr cM t:=by
 intro u hu hc
 rw[F u hu (fun j hj=>List.mem_cons_of_mem _ (hc j hj))]
 rcases ht with⟨d,hd,GB,rfl⟩|⟨_,rfl⟩
 ·show(Tm.put t d (some v)).at u=t.at u
  rw[Tm.iM _ _ _ _ (Nat.lt_of_lt_of_le GB iK) hu,if_neg]
  intro e
  subst e
  exact hi (hc i ⟨o,ho,hd⟩)
 ·rfl
omit [Io] in
theorem nm{i:Nat}{l:List Nat}(h:kL i l=false):i∉l:=fun k=>by rw[kf.2 k]at h;cases h
omit [Io] in
theorem pQ(iK:c.nt<=512){k:List Nat->me}(hk: ∀ cM t h,k cM t h=.ok c.te c.hE->c.Fr cM t): ∀ (pre cM:List Nat) (t:Tm) (h:Hp),
 Af c.P c.call c.nt c.ops.toList pre cM k t h=.ok c.te c.hE->c.Fr cM t
 | [],cM,t,h,e=>hk cM t h e
 |i::l,cM,t,h,e=>by
  unfold Af at e
  cases h1:BK c.nt c.ops.toList cM i with
  |false=>rw[h1]at e;cases e
  |true=>
  rw[h1]at e
  simp only[gD]at e
  cases h2:kL i cM with
  |true=>
   rw[h2]at e
   cases h3:rq c.P c.call c.ops.toList .p1 i with
   |false=>rw[h3]at e;cases e
   |true=>
    rw[h3]at e
    obtain⟨o,v,_,_,e,_⟩:=Ah (j4.1 h3) e
    exact pQ iK hk l cM t h e
  |false=>
   rw[h2]at e
   cases h3:(rq c.P c.call c.ops.toList .p0 i||rq c.P c.call c.ops.toList .p1 i)with
   |false=>rw[h3]at e;cases e
   |true=>
    rw[h3]at e
    obtain⟨o,v,oh,t1,ho,_,e,ht⟩:=rr e
    exact ru iK ho (nm h2) ht (pQ iK hk l (i::cM) t1 oh e)
omit [Io] in
theorem nR(iK:c.nt<=512){k:List Nat->me}(hk: ∀ cM t h,k cM t h=.ok c.te c.hE->c.Fr cM t): ∀ (gy cM:List Nat) (t:Tm) (h:Hp),
 Cr c.P c.call c.nt c.ops.toList gy cM k t h=.ok c.te c.hE->c.Fr cM t
 | [],cM,t,h,e=>hk cM t h e
 |i::l,cM,t,h,e=>by
  unfold Cr at e
  cases h1:(BK c.nt c.ops.toList cM i&&(!kL i cM&&(rq c.P c.call c.ops.toList .p0 i||rq c.P c.call c.ops.toList .al i)))with
  |false=>rw[h1]at e;cases e
  |true=>
   rw[h1]at e
   simp only[gD]at e
   simp only[Bool.and_eq_true,Bool.not_eq_true']at h1
   obtain⟨o,v,oh,t1,ho,_,e,ht⟩:=rr e
   exact ru iK ho (nm h1.2.1) ht (nR iK hk l (i::cM) t1 oh e)
omit [Io] in
theorem ry(iK:c.nt<=512): ∀ (pl:lh) (cM:List Nat) (t:Tm) (h:Hp),ng c.P c.call c.nt c.ops.toList pl cM t h=.ok c.te c.hE->c.Fr cM t
 | .last pre gy,cM,t,h,e=>by
  unfold ng at e
  refine pQ iK (fun cM t h e=>?_) pre cM t h e
  refine nR iK (fun cM t h e=>?_) gy cM t h e
  cases hb:allI (fun i _=>kL i cM) c.ops.toList 0 with
  |false=>rw[hb]at e;cases e
  |true=>
   rw[hb]at e
   obtain⟨rfl,_⟩:=Rt.ok.inj e
   exact fun u _ _=>rfl
 | .cons pre gy q rest,cM,t,h,e=>by
  unfold ng at e
  refine pQ iK (fun cM t h e=>?_) pre cM t h e
  refine nR iK (fun cM t h e=>?_) gy cM t h e
  cases h1:(BK c.nt c.ops.toList cM q&&(!kL q cM&&rq c.P c.call c.ops.toList .ch q))with
  |false=>rw[h1]at e;cases e
  |true=>
   rw[h1]at e
   simp only[gD]at e
   simp only[Bool.and_eq_true,Bool.not_eq_true']at h1
   obtain⟨o,v,oh,t1,ho,_,_,e,ht⟩:=Ag e
   exact ru iK ho (nm h1.2.1) ht (ry iK rest (q::cM) t1 oh e)
omit [Io] in
theorem vy{cM:List Nat}{i:Nat}{o:Oper}{t t1:Tm}{v:AV}(iK:c.nt<=512)(ho:c.ops[i]? =some o)
 (ht:(∃ d,o.dst=some d/\d<c.nt/\t1=sT d v t)∨(o.dst=none/\t1=t))(F:c.QP cM t):c.QP (i::cM) t1:=by
 intro u hu hc
 rw[<-F u hu (fun j hj k=>hc j hj (List.mem_cons_of_mem _ k))]
 rcases ht with⟨d,hd,GB,rfl⟩|⟨_,rfl⟩
 ·show(Tm.put t d (some v)).at u=t.at u
  rw[Tm.iM _ _ _ _ (Nat.lt_of_lt_of_le GB iK) hu,if_neg]
  intro e
  subst e
  exact hc i ⟨o,ho,hd⟩ List.mem_cons_self
 ·rfl
omit [Io] in
theorem Xp{i u:Nat}(fO: ∀ u∈c.LC i,u<512)(hu:u∈c.LC i):((∃ j,c.lM j u/\c.An i j)/\(c.rf i).at u=c.te.at u)∨((¬ ∃ j,c.lM j u/\c.An i j)/\(c.rf i).at u=c.t0.at u):=by
 have key: ∀ (l:List Nat),(∀ u∈l,u<512)->u∈l->((∃ j,c.lM j u/\c.An i j)/\(c.GC i l).at u=c.te.at u)∨((¬ ∃ j,c.lM j u/\c.An i j)/\(c.GC i l).at u=c.t0.at u):=by
  intro l
  induction l with
  |nil=>intro _ h;cases h
  |cons x l ih=>
   intro hl hm
   rw[GC,Tm.iM _ _ _ _ (hl x List.mem_cons_self) (hl u hm)]
   by_cases hx:u=x
   ·subst hx
    rw[if_pos rfl]
    by_cases hw: ∃ j,c.lM j u/\c.An i j
    ·rw[if_pos hw];exact .inl ⟨hw,rfl⟩
    ·rw[if_neg hw];exact .inr ⟨hw,rfl⟩
   ·rw[if_neg hx]
    exact ih (fun y hy=>hl y (List.mem_cons_of_mem _ hy)) ((List.mem_cons.1 hm).resolve_left hx)
 exact key _ fO hu
omit [Io] in
theorem Ai{cM:List Nat}{i:Nat}{o:Oper}{t:Tm}{h h1:Hp}{v:AV}(iK:c.nt<=512)(gz: ∀ u,u<512->(∀ j,¬ c.lM j u)->c.te.at u=c.t0.at u)(F:c.Fr cM t)(hO:c.QP cM t)(ho:c.ops[i]? =some o)(hr:BK c.nt c.ops.toList cM i=true)
 (e:kC c.P c.call c.nt c.ops.toList o t h=.ok v h1):c.FE i (c.rf i) h=.ok v h1:=by
 rw[tE ho,<-e]
 refine MR fun u hu=>?_
 rw[<-SD ho]at hu
 have fO: ∀ u∈c.LC i,u<512:=fun u hu=>Nat.lt_of_lt_of_le (vw hr u hu).1 iK
 obtain⟨_,LA⟩:=vw hr u hu
 rcases Xp fO hu with⟨⟨j,hj,hA⟩,er⟩|⟨hno,er⟩
 ·rw[er]
  rcases LA with h1|h1
  ·exact F u (fO u hu) (fun j hj=>(h1 j hj).1)
  ·exact absurd hA (h1 j hj).2.2
 ·rw[er]
  rcases LA with h1|h1
  ·have hn: ∀ j,¬ c.lM j u:=fun j hj=>hno ⟨j,hj,(h1 j hj).2⟩
   rw[<-gz u (fO u hu) hn]
   exact F u (fO u hu) (fun j hj=>absurd hj (hn j))
  ·exact(hO u (fO u hu) (fun j hj=>(h1 j hj).1)).symm
omit [Io] in
theorem sU{cM:List Nat}{i:Nat}{o:Oper}{t t1:Tm}{v:AV}(iK:c.nt<=512)(zw: ∀ i j d,c.lM i d->c.lM j d->i=j)(ho:c.ops[i]? =some o)
 (ht:(∃ d,o.dst=some d/\d<c.nt/\t1=sT d v t)∨(o.dst=none/\t1=t))(F:c.Fr (i::cM) t1):c.Slot i v:=by
 intro d hd
 obtain⟨o',j3,Ck⟩:=id hd
 rw[ho]at j3
 cases j3
 rcases ht with⟨d2,Dr,GB,rfl⟩|⟨hn,_⟩
 ·rw[Ck]at Dr
  cases Dr
  refine⟨GB,?_⟩
  rw[F d (Nat.lt_of_lt_of_le GB iK) (fun j hj=>by rw[zw j i d hj hd];exact List.mem_cons_self)]
  show(Tm.put t d (some v)).at d=_
  rw[Tm.iM _ _ _ _ (Nat.lt_of_lt_of_le GB iK) (Nat.lt_of_lt_of_le GB iK),if_pos rfl]
 ·rw[Ck]at hn;cases hn
end Cx
end Go.Ab

noncomputable section
namespace Go.Ab
variable [Io]
namespace Cx
def wi(c:Cx)(nx bd:Nat->Nat):Cx:={c with nx:=nx,bd:=bd}
def GI(c:Cx)(i:Nat):Prop:=
 (c.dM i .p0-> ∃ v,(∀ h,c.FE i (c.rf i) h=.ok v h)/\c.Slot i v/\c.nP i (c.bd i))/\
 (c.dM i .al-> ∃ v,c.Slot i v/\c.nP i (c.nx i)/\((c.FE i (c.rf i) (fC (c.nx i))=.ok v (fC (c.nx i))/\c.bd i=c.nx i)∨
  ∃ cs,c.FE i (c.rf i) (fC (c.nx i))=.ok v (dK (fC (c.nx i)) cs)/\c.bd i=c.nx i+1))
def BC(f:Nat->Nat)(i n:Nat):Nat->Nat:=fun j=>if j=i then n else f j
omit [Io] in
theorem lZ{f:Nat->Nat}{i n:Nat}:BC f i n i=n:=if_pos rfl
omit [Io] in
theorem nS{f:Nat->Nat}{i n j:Nat}(h:j≠i):BC f i n j=f j:=if_neg h
variable {c:Cx}
omit [Io] in
theorem Iz{nx bd:Nat->Nat}{i:Nat}: ∀ (l:List Nat),(c.wi nx bd).GC i l=c.GC i l
 | []=>rfl
 |u::l=>by
  rw[GC,GC,Iz l]
  rfl
omit [Io] in
theorem Aj{nx bd:Nat->Nat}{i:Nat}:(c.wi nx bd).rf i=c.rf i:=Iz _
omit [Io] in
theorem DG{cM:List Nat}{i N:Nat}(hr:BK c.nt c.ops.toList cM i=true)(hb: ∀ j∈cM,c.bd j<=N):c.nP i N:=by
 intro u hu
 obtain⟨h1,h2⟩:=vw hr u hu
 exact⟨h1,h2.imp (fun h j hj=>⟨(h j hj).2,hb j (h j hj).1⟩) (fun h j hj=>(h j hj).2.1)⟩
omit [Io] in
theorem uC(iK:c.nt<=512)(gz: ∀ u,u<512->(∀ j,¬ c.lM j u)->c.te.at u=c.t0.at u)(zw: ∀ i j d,c.lM i d->c.lM j d->i=j){k:List Nat->me}(hk: ∀ cM t h,k cM t h=.ok c.te c.hE->c.Fr cM t)
 {Φ:(Nat->Nat)->(Nat->Nat)->List Nat->Prop}{h:Hp}
 (ih: ∀ (cM:List Nat) (t:Tm) (p7 oi:Nat->Nat),k cM t h=.ok c.te c.hE->c.QP cM t->(∀ j∈cM,oi j<=h.next)-> ∃ nx bd,(∀ j∈cM,nx j=p7 j/\bd j=oi j)/\Φ nx bd cM):
 ∀ (pre cM:List Nat) (t:Tm) (p7 oi:Nat->Nat),Af c.P c.call c.nt c.ops.toList pre cM k t h=.ok c.te c.hE->c.QP cM t->(∀ j∈cM,oi j<=h.next)->
  ∃ nx bd,(∀ j∈cM,nx j=p7 j/\bd j=oi j)/\(c.wi nx bd).P1s pre h/\ ∃ oE,Φ nx bd oE/\ ∀ i∈oE,i∈cM∨((c.wi nx bd).GI i/\(c.dM i .p0∨c.dM i .p1))
 | [],cM,t,p7,oi,e,hO,hb=>by
  obtain⟨nx,bd,h1,h2⟩:=ih cM t p7 oi e hO hb
  exact⟨nx,bd,h1,(fun i hi=>by cases hi),cM,h2,fun i hi=>.inl hi⟩
 |i::l,cM,t,p7,oi,e,hO,hb=>by
  have F:=pQ iK hk (i::l) cM t h e
  unfold Af at e
  cases h1:BK c.nt c.ops.toList cM i with
  |false=>rw[h1]at e;cases e
  |true=>
  rw[h1]at e
  simp only[gD]at e
  cases h2:kL i cM with
  |true=>
   rw[h2]at e
   cases h3:rq c.P c.call c.ops.toList .p1 i with
   |false=>rw[h3]at e;cases e
   |true=>
    rw[h3]at e
    obtain⟨o,v,ho,hg,e,hs⟩:=Ah (j4.1 h3) e
    obtain⟨nx,bd,a1,a2,oE,a3,a4⟩:=uC iK gz zw hk ih l cM t p7 oi e hO hb
    refine⟨nx,bd,a1,fun j hj hc=>?_,oE,a3,a4⟩
    rcases List.mem_cons.1 hj with rfl|hj
    ·refine⟨v,Ai iK gz F hO ho h1 hg,?_,DG (c:=c.wi nx bd) h1 (fun j hj=>by show bd j<=_;rw[(a1 j hj).2];exact hb j hj)⟩
     intro d hd
     obtain⟨o',j3,Ck⟩:=id hd
     have IA:c.ops[j]? =some o':=j3
     rw[ho]at IA
     cases IA
     obtain⟨s1,s2⟩:=hs d Ck
     refine⟨s1,?_⟩
     show c.te.at d=_
     rw[F d (Nat.lt_of_lt_of_le s1 iK) (fun x hx=>by rw[zw x j d hx hd];exact kf.1 h2)]
     exact s2
    ·exact a2 j hj hc
  |false=>
   rw[h2]at e
   have LG:=nm h2
   cases h3:(rq c.P c.call c.ops.toList .p0 i||rq c.P c.call c.ops.toList .p1 i)with
   |false=>rw[h3]at e;cases e
   |true=>
    rw[h3]at e
    have fF:c.dM i .p0∨c.dM i .p1:=by
     rw[Bool.or_eq_true]at h3
     exact h3.imp j4.1 j4.1
    obtain⟨o,v,oh,t1,ho,hg,e2,ht⟩:=rr e
    clear e
    have hlv:oh=h:=by
     rcases fF with⟨o',j3,wA⟩|⟨o',j3,wA⟩
     ·rw[ho]at j3;cases j3
      exact((rh wA).ok hg).1
     ·rw[ho]at j3;cases j3
      exact Iy wA _ _ _ _ hg
    subst hlv
    have mW: ∀ j∈cM,j≠i:=fun j hj e=>LG (e▸hj)
    obtain⟨nx,bd,a1,a2,oE,a3,a4⟩:=uC iK gz zw hk ih l (i::cM) t1 (BC p7 i oh.next) (BC oi i oh.next) e2 (vy iK ho ht hO) (fun j hj=>by
     rcases List.mem_cons.1 hj with rfl|hj
     ·rw[lZ];exact Nat.le_refl _
     ·rw[nS (mW j hj)];exact hb j hj)
    have agree: ∀ j∈cM,nx j=p7 j/\bd j=oi j:=fun j hj=>by
     have:=a1 j (List.mem_cons_of_mem _ hj)
     rwa [nS (mW j hj),nS (mW j hj)]at this
    have Wb:bd i=oh.next:=by
     have:=(a1 i List.mem_cons_self).2
     rwa [lZ]at this
    have Xr:(c.wi nx bd).nP i oh.next:=DG (c:=c.wi nx bd) h1 (fun j hj=>by show bd j<=_;rw[(agree j hj).2];exact hb j hj)
    have dV:c.Slot i v:=sU iK zw ho ht (pQ iK hk l (i::cM) t1 oh e2)
    refine⟨nx,bd,agree,fun j hj hc=>?_,oE,a3,fun j hj=>?_⟩
    ·rcases List.mem_cons.1 hj with rfl|hj
     ·exact⟨v,Ai iK gz F hO ho h1 hg,dV,Xr⟩
     ·exact a2 j hj hc
    ·rcases a4 j hj with h|h
     ·rcases List.mem_cons.1 h with rfl|h
      ·refine .inr ⟨⟨fun hc=>⟨v,?_,dV,?_⟩,fun hc=>?_⟩,fF⟩
       ·obtain⟨o',j3,wA⟩:=hc
        have IA:c.ops[j]? =some o':=j3
        rw[ho]at IA
        cases IA
        intro h0
        rw[Aj]
        show c.FE j (c.rf j) h0=_
        have:=Ai iK gz F hO ho h1 hg
        rw[tE ho]at this ⊢
        exact((rh wA).ok this).2 h0
       ·show Cx.nP _ j (bd j)
        rw[Wb];exact Xr
       ·rcases fF with h|h<;>cases c.jM h hc
      ·exact .inl h
     ·exact .inr h
omit [Io] in
theorem yw(iK:c.nt<=512)(gz: ∀ u,u<512->(∀ j,¬ c.lM j u)->c.te.at u=c.t0.at u)(zw: ∀ i j d,c.lM i d->c.lM j d->i=j){k:List Nat->me}(hk: ∀ cM t h,k cM t h=.ok c.te c.hE->c.Fr cM t)
 {Φ:(Nat->Nat)->(Nat->Nat)->List Nat->Hp->Prop}
 (ih: ∀ (cM:List Nat) (t:Tm) (h:Hp) (p7 oi:Nat->Nat),k cM t h=.ok c.te c.hE->c.QP cM t->(∀ j∈cM,oi j<=h.next)-> ∃ nx bd,(∀ j∈cM,nx j=p7 j/\bd j=oi j)/\Φ nx bd cM h):
 ∀ (gy cM:List Nat) (t:Tm) (h:Hp) (p7 oi:Nat->Nat),Cr c.P c.call c.nt c.ops.toList gy cM k t h=.ok c.te c.hE->c.QP cM t->(∀ j∈cM,oi j<=h.next)->
  ∃ nx bd,(∀ j∈cM,nx j=p7 j/\bd j=oi j)/\ ∃ h1 oE,(c.wi nx bd).tW gy h h1/\Φ nx bd oE h1/\ ∀ i∈oE,i∈cM∨((c.wi nx bd).GI i/\i∈gy/\(c.dM i .p0∨c.dM i .al))
 | [],cM,t,h,p7,oi,e,hO,hb=>by
  obtain⟨nx,bd,h1,h2⟩:=ih cM t h p7 oi e hO hb
  exact⟨nx,bd,h1,h,cM,rfl,h2,fun i hi=>.inl hi⟩
 |i::l,cM,t,h,p7,oi,e,hO,hb=>by
  have F:=nR iK hk (i::l) cM t h e
  unfold Cr at e
  cases xt:(BK c.nt c.ops.toList cM i&&(!kL i cM&&(rq c.P c.call c.ops.toList .p0 i||rq c.P c.call c.ops.toList .al i)))with
  |false=>rw[xt]at e;cases e
  |true=>
   rw[xt]at e
   simp only[gD]at e
   simp only[Bool.and_eq_true,Bool.not_eq_true',Bool.or_eq_true]at xt
   obtain⟨h1,h2,h3⟩:=xt
   have LG:=nm h2
   have fF:c.dM i .p0∨c.dM i .al:=h3.imp j4.1 j4.1
   obtain⟨o,v,h',t1,ho,hg,e2,ht⟩:=rr e
   clear e
   have mW: ∀ j∈cM,j≠i:=fun j hj e=>LG (e▸hj)
   have hle:h.next<=h'.next:=by
    rcases fF with⟨o',j3,wA⟩|⟨o',j3,wA⟩
    ·rw[ho]at j3;cases j3
     rw[((rh wA).ok hg).1]
     exact Nat.le_refl _
    ·rw[ho]at j3;cases j3
     rcases Ae wA _ _ _ _ hg (fC h.next) rfl with⟨rfl,_⟩|⟨cs,rfl,_⟩
     ·exact Nat.le_refl _
     ·exact Nat.le_succ _
   obtain⟨nx,bd,a1,oh,oE,a2,a3,a4⟩:=yw iK gz zw hk ih l (i::cM) t1 h' (BC p7 i h.next) (BC oi i h'.next) e2 (vy iK ho ht hO) (fun j hj=>by
    rcases List.mem_cons.1 hj with rfl|hj
    ·rw[lZ];exact Nat.le_refl _
    ·rw[nS (mW j hj)];exact Nat.le_trans (hb j hj) hle)
   have agree: ∀ j∈cM,nx j=p7 j/\bd j=oi j:=fun j hj=>by
    have:=a1 j (List.mem_cons_of_mem _ hj)
    rwa [nS (mW j hj),nS (mW j hj)]at this
   have Wb:bd i=h'.next:=by
    have:=(a1 i List.mem_cons_self).2
    rwa [lZ]at this
   have FQ:nx i=h.next:=by
    have:=(a1 i List.mem_cons_self).1
    rwa [lZ]at this
   have Xr:(c.wi nx bd).nP i h.next:=DG (c:=c.wi nx bd) h1 (fun j hj=>by show bd j<=_;rw[(agree j hj).2];exact hb j hj)
   have dV:c.Slot i v:=sU iK zw ho ht (nR iK hk l (i::cM) t1 h' e2)
   have hte:=Ai iK gz F hO ho h1 hg
   rcases fF with fF|fF
   ·have hh:h'=h:=by
     obtain⟨o',j3,wA⟩:=fF
     rw[ho]at j3;cases j3
     exact((rh wA).ok hg).1
    subst hh
    refine⟨nx,bd,agree,oh,oE,.inl ⟨fF,a2⟩,a3,fun j hj=>?_⟩
    rcases a4 j hj with h|⟨h,h5,h6⟩
    ·rcases List.mem_cons.1 h with rfl|h
     ·refine .inr ⟨⟨fun hc=>⟨v,?_,dV,?_⟩,fun hc=>?_⟩,List.mem_cons_self,.inl fF⟩
      ·obtain⟨o',j3,wA⟩:=fF
       rw[ho]at j3
       cases j3
       intro h0
       rw[Aj]
       show c.FE j (c.rf j) h0=_
       rw[tE ho]at hte ⊢
       exact((rh wA).ok hte).2 h0
      ·show Cx.nP _ j (bd j)
       rw[Wb];exact Xr
      ·cases c.jM fF hc
     ·exact .inl h
    ·exact .inr ⟨h,List.mem_cons_of_mem _ h5,h6⟩
   ·have key:(h'=h/\c.FE i (c.rf i) (fC h.next)=.ok v (fC h.next))∨ ∃ cs,h'=dK h cs/\c.FE i (c.rf i) (fC h.next)=.ok v (dK (fC h.next) cs):=by
     obtain⟨o',j3,wA⟩:=fF
     rw[ho]at j3;cases j3
     rw[tE ho]at hte ⊢
     exact Ae wA _ _ _ _ hte (fC h.next) rfl
    refine⟨nx,bd,agree,oh,oE,.inr ⟨fF,FQ,?_⟩,a3,fun j hj=>?_⟩
    ·rcases key with⟨rfl,_⟩|⟨cs,rfl,hf⟩
     ·exact .inl ⟨Wb.trans FQ.symm,a2⟩
     ·refine .inr ⟨v,cs,?_,?_,a2⟩
      ·show bd i=nx i+1
       rw[Wb,FQ];rfl
      ·rw[Aj]
       show c.FE i (c.rf i) (fC (nx i))=.ok v (dK (fC (nx i)) cs)
       rw[FQ];exact hf
    ·rcases a4 j hj with h0|⟨h0,h5,h6⟩
     ·rcases List.mem_cons.1 h0 with rfl|h0
      ·refine .inr ⟨⟨fun hc=>?_,fun hc=>⟨v,dV,?_,?_⟩⟩,List.mem_cons_self,.inr fF⟩
       ·cases c.jM fF hc
       ·show Cx.nP _ j (nx j)
        rw[FQ];exact Xr
       ·rw[Aj]
        show(c.FE j (c.rf j) (fC (nx j))=.ok v (fC (nx j))/\bd j=nx j)∨ ∃ cs,c.FE j (c.rf j) (fC (nx j))=.ok v (dK (fC (nx j)) cs)/\bd j=nx j+1
        rw[FQ,Wb]
        rcases key with⟨rfl,hf⟩|⟨cs,rfl,hf⟩
        ·exact .inl ⟨hf,rfl⟩
        ·exact .inr ⟨cs,hf,rfl⟩
      ·exact .inl h0
     ·exact .inr ⟨h0,List.mem_cons_of_mem _ h5,h6⟩
omit [Io] in
theorem Ak(iK:c.nt<=512)(gz: ∀ u,u<512->(∀ j,¬ c.lM j u)->c.te.at u=c.t0.at u)(zw: ∀ i j d,c.lM i d->c.lM j d->i=j): ∀ (pl:lh) (cM:List Nat) (t:Tm) (h:Hp) (p7 oi:Nat->Nat),
 ng c.P c.call c.nt c.ops.toList pl cM t h=.ok c.te c.hE->c.QP cM t->(∀ j∈cM,oi j<=h.next)->
  ∃ nx bd,(∀ j∈cM,nx j=p7 j/\bd j=oi j)/\(c.wi nx bd).wK pl h/\(∀ i,i<c.ops.size->bd i<=c.hE.next)/\
   ∀ i,i<c.ops.size->i∉cM->(c.wi nx bd).GI i/\(c.dM i .al->i∈pl.gy)/\(c.dM i .ch->i∈pl.wz)
 | .last pre gy,cM,t,h,p7,oi,e,hO,hb=>by
  unfold ng at e
  have QQ: ∀ cM t h,(gD (allI (fun i _=>kL i cM) c.ops.toList 0) fi (fun _ _=>.bad):me) t h=.ok c.te c.hE->(∀ i,i<c.ops.size->i∈cM)/\t=c.te/\h=c.hE:=by
   intro cM t h e
   cases hB:allI (fun i _=>kL i cM) c.ops.toList 0 with
   |false=>rw[hB]at e;cases e
   |true=>
    rw[hB]at e
    obtain⟨h1,h2⟩:=Rt.ok.inj e
    refine⟨fun i hi=>?_,h1,h2⟩
    have:=kg hB i c.ops[i] (by simp[hi])
    exact kf.1 this
  have hk: ∀ cM t h,(gD (allI (fun i _=>kL i cM) c.ops.toList 0) fi (fun _ _=>.bad):me) t h=.ok c.te c.hE->c.Fr cM t:=by
   intro cM t h e
   obtain⟨_,rfl,_⟩:=QQ cM t h e
   exact fun u _ _=>rfl
  obtain⟨nx,bd,a1,a2,oE,⟨h1,oG,b2,⟨rfl,b3,b4⟩,b5⟩,a4⟩:=uC (Φ:=fun nx bd oE=> ∃ h1 oG,(c.wi nx bd).tW gy h h1/\(h1=c.hE/\(∀ i,i<c.ops.size->i∈oG)/\(∀ i∈oG,bd i<=c.hE.next))/\
   ∀ i∈oG,i∈oE∨((c.wi nx bd).GI i/\i∈gy/\(c.dM i .p0∨c.dM i .al))) iK gz zw (nR iK hk gy) (fun cM t p7 oi e hO hb=>by
   obtain⟨nx,bd,a1,h1,oG,a2,a3,a4⟩:=yw (Φ:=fun nx bd oG h1=>h1=c.hE/\(∀ i,i<c.ops.size->i∈oG)/\(∀ i∈oG,bd i<=c.hE.next)) iK gz zw hk (fun cM t h p7 oi e hO hb=>by
    obtain⟨h1,_,rfl⟩:=QQ cM t h e
    exact⟨p7,oi,fun _ _=>⟨rfl,rfl⟩,rfl,h1,hb⟩) gy cM t h p7 oi e hO hb
   exact⟨nx,bd,a1,h1,oG,a2,a3,a4⟩) pre cM t p7 oi e hO hb
  refine⟨nx,bd,a1,⟨a2,b2⟩,fun i hi=>b4 i (b3 i hi),fun i hi hn=>?_⟩
  rcases b5 i (b3 i hi)with h|⟨h,h6,h7⟩
  ·rcases a4 i h with h|⟨h,h5⟩
   ·exact absurd h hn
   ·refine⟨h,fun hc=>?_,fun hc=>?_⟩
    ·rcases h5 with h5|h5<;>cases c.jM h5 hc
    ·rcases h5 with h5|h5<;>cases c.jM h5 hc
  ·refine⟨h,fun _=>h6,fun hc=>?_⟩
   rcases h7 with h5|h5<;>cases c.jM h5 hc
 | .cons pre gy q rest,cM,t,h,p7,oi,e,hO,hb=>by
  unfold ng at e
  have hq: ∀ cM t h,(gD (BK c.nt c.ops.toList cM q&&(!kL q cM&&rq c.P c.call c.ops.toList .ch q)) (runM c.P c.call c.nt c.ops.toList q (ng c.P c.call c.nt c.ops.toList rest (q::cM))) (fun _ _=>.bad):me) t h=.ok c.te c.hE->
   BK c.nt c.ops.toList cM q=true/\q∉cM/\c.dM q .ch/\ ∃ o v h1 t1,c.ops[q]? =some o/\kC c.P c.call c.nt c.ops.toList o t h=.ok v h1/\h.next<=h1.next/\ng c.P c.call c.nt c.ops.toList rest (q::cM) t1 h1=.ok c.te c.hE/\
    ((∃ d,o.dst=some d/\d<c.nt/\t1=sT d v t)∨(o.dst=none/\t1=t)):=by
   intro cM t h e
   cases h1:(BK c.nt c.ops.toList cM q&&(!kL q cM&&rq c.P c.call c.ops.toList .ch q))with
   |false=>rw[h1]at e;cases e
   |true=>
    rw[h1]at e
    simp only[Bool.and_eq_true,Bool.not_eq_true']at h1
    exact⟨h1.1,nm h1.2.1,j4.1 h1.2.2,Ag e⟩
  have hk: ∀ cM t h,(gD (BK c.nt c.ops.toList cM q&&(!kL q cM&&rq c.P c.call c.ops.toList .ch q)) (runM c.P c.call c.nt c.ops.toList q (ng c.P c.call c.nt c.ops.toList rest (q::cM))) (fun _ _=>.bad):me) t h=.ok c.te c.hE->c.Fr cM t:=by
   intro cM t h e
   obtain⟨_,LG,_,o,v,h1,t1,ho,_,_,e,ht⟩:=hq cM t h e
   exact ru iK ho LG ht (ry iK rest (q::cM) t1 h1 e)
  obtain⟨nx,bd,a1,a2,oE,⟨h1,oG,b2,⟨c1,v,h2,c2,c3,c4,c5,c6,c7,c8,c9⟩,b5⟩,a4⟩:=uC (Φ:=fun nx bd oE=> ∃ h1 oG,(c.wi nx bd).tW gy h h1/\
   (c.dM q .ch/\ ∃ v h2,c.FE q (c.rf q) h1=.ok v h2/\c.Slot q v/\(c.wi nx bd).nP q h1.next/\bd q=h2.next/\h1.next<=h2.next/\(c.wi nx bd).wK rest h2/\(∀ i,i<c.ops.size->bd i<=c.hE.next)/\
    ∀ i,i<c.ops.size->i∉q::oG->(c.wi nx bd).GI i/\(c.dM i .al->i∈rest.gy)/\(c.dM i .ch->i∈rest.wz))/\
   ∀ i∈oG,i∈oE∨((c.wi nx bd).GI i/\i∈gy/\(c.dM i .p0∨c.dM i .al))) iK gz zw (nR iK hk gy) (fun cM t p7 oi e hO hb=>by
   obtain⟨nx,bd,a1,h1,oG,a2,a3,a4⟩:=yw (Φ:=fun nx bd oG h1=>c.dM q .ch/\ ∃ v h2,c.FE q (c.rf q) h1=.ok v h2/\c.Slot q v/\(c.wi nx bd).nP q h1.next/\bd q=h2.next/\h1.next<=h2.next/\(c.wi nx bd).wK rest h2/\
    (∀ i,i<c.ops.size->bd i<=c.hE.next)/\ ∀ i,i<c.ops.size->i∉q::oG->(c.wi nx bd).GI i/\(c.dM i .al->i∈rest.gy)/\(c.dM i .ch->i∈rest.wz)) iK gz zw hk (fun cM t h p7 oi e hO hb=>by
    obtain⟨hr,LG,fF,o,v,h1,t1,ho,hg,hle,e,ht⟩:=hq cM t h e
    have mW: ∀ j∈cM,j≠q:=fun j hj e=>LG (e▸hj)
    have Fq:=ry iK rest (q::cM) t1 h1 e
    obtain⟨nx,bd,a1,a2,a3,a4⟩:=Ak iK gz zw rest (q::cM) t1 h1 (BC p7 q h.next) (BC oi q h1.next) e (vy iK ho ht hO) (fun j hj=>by
     rcases List.mem_cons.1 hj with rfl|hj
     ·rw[lZ];exact Nat.le_refl _
     ·rw[nS (mW j hj)];exact Nat.le_trans (hb j hj) hle)
    have agree: ∀ j∈cM,nx j=p7 j/\bd j=oi j:=fun j hj=>by
     have:=a1 j (List.mem_cons_of_mem _ hj)
     rwa [nS (mW j hj),nS (mW j hj)]at this
    have hbq:bd q=h1.next:=by
     have:=(a1 q List.mem_cons_self).2
     rwa [lZ]at this
    exact⟨nx,bd,agree,fF,v,h1,Ai iK gz (ru iK ho LG ht Fq) hO ho hr hg,sU iK zw ho ht Fq,
     DG (c:=c.wi nx bd) hr (fun j hj=>by show bd j<=_;rw[(agree j hj).2];exact hb j hj),hbq,hle,a2,a3,a4⟩) gy cM t h p7 oi e hO hb
   exact⟨nx,bd,a1,h1,oG,a2,a3,a4⟩) pre cM t p7 oi e hO hb
  refine⟨nx,bd,a1,⟨a2,h1,b2,c1,v,h2,(by rw[Aj];exact c2),c3,c4,c5,c6,c7⟩,c8,fun i hi hn=>?_⟩
  by_cases hiq:i=q
  ·subst hiq
   refine⟨⟨fun hc=>?_,fun hc=>?_⟩,fun hc=>?_,fun _=>List.mem_cons_self⟩
   ·cases c.jM c1 hc
   ·cases c.jM c1 hc
   ·cases c.jM c1 hc
  ·by_cases Ms:i∈oG
   ·rcases b5 i Ms with h|⟨h,h6,h7⟩
    ·rcases a4 i h with h|⟨h,h5⟩
     ·exact absurd h hn
     ·refine⟨h,fun hc=>?_,fun hc=>?_⟩
      ·rcases h5 with h5|h5<;>cases c.jM h5 hc
      ·rcases h5 with h5|h5<;>cases c.jM h5 hc
    ·refine⟨h,fun _=>List.mem_append_left _ h6,fun hc=>?_⟩
     rcases h7 with h5|h5<;>cases c.jM h5 hc
   ·obtain⟨r1,r2,r3⟩:=c9 i hi (fun k=>by
     rcases List.mem_cons.1 k with k|k
     ·exact hiq k
     ·exact Ms k)
    exact⟨r1,fun hc=>List.mem_append_right _ (r2 hc),fun hc=>List.mem_cons_of_mem _ (r3 hc)⟩
end Cx
end Go.Ab

noncomputable section
namespace Go.Ab
variable [Io]
def IB(ok:Nat->Nat->Bool)(l:List Nat):Nat->List Nat:=
 List.rec (fun _=>[]) (fun i _ ih r=>Bool.rec (ih r) (i::ih (Nat.lor r (Nat.pow 2 i))) (ok i r)) l
def QR(l:List Nat)(r:Nat):Nat:=List.rec r (fun i _ ih=>Nat.lor (Nat.pow 2 i) ih) l
def bit(r i:Nat):Bool:=Nat.beq (Nat.mod (Nat.div r (Nat.pow 2 i)) 2) 1
def M7(p:Nat->Bool)(l:List Nat):List Nat:=List.rec [] (fun i _ ih=>Bool.rec ih (i::ih) (p i)) l
def SK(p:Nat->Bool)(l:List Nat):Option Nat:=List.rec none (fun i _ ih=>Bool.rec ih (some i) (p i)) l
def IC(l:List Oper):List Nat:=List.rec (fun _=>[]) (fun _ _ ih i=>i::ih (Nat.add i 1)) l 0
section
variable (P:Program)(call:cY)(L:List Oper)
def ae8(ms idx:List Nat)(fuel:Nat):Nat->List Nat->lh:=
 Nat.rec (fun _ _=>.last [] []) (fun _ ih done chd=>
  match IB (fun i r=>(rq P call L .p0 i||rq P call L .p1 i)&&(!bit r i&&Nat.beq (Nat.land ((kE ms i).getD 0) r) ((kE ms i).getD 0))) idx done with
  |new=>match M7 (fun i=>bit done i&&(rq P call L .p1 i&& !Cq (fun j=>bit ((kE ms j).getD 0) i) chd)) idx with
   |oL=>match QR new done with
    |DH=>match SK (fun i=>rq P call L .ch i&& !bit DH i) idx with
     |none=>.last (app oL new) (IB (fun i r=> !bit r i) idx DH)
     |some q=>match IB (fun i r=> !bit r i&&bit ((kE ms q).getD 0) i) idx DH with
      |gy=>.cons (app oL new) gy q (ih (Nat.lor (Nat.pow 2 q) (QR gy DH)) (q::chd))) fuel
def sV:lh:=ae8 P call L (o4 L []) (IC L) (Nat.succ (len L)) 0 []
end
def aK(P:Program)(call:cY)(nt:Nat)(ops:Array Oper):me:=
 match sV P call ops.toList with
 |pl=>gD (DE ops.toList&&(M4 ops.toList&&xr P call ops.toList pl [])) (ng P call nt ops.toList pl []) (fun _ _=>.bad)
namespace Cx
variable {c:Cx}
omit [Io] in
theorem DI: ∀ (pl:lh) (past:List Nat),xr c.P c.call c.ops.toList pl past=true->c.DB past pl
 | .last pre gy,past,h=>by
  intro i hi
  obtain⟨o,ho,_⟩:=id hi
  have:=nh (kg h i o (by simpa using ho)) (j4.2 hi)
  rw[Bool.or_eq_true,rm,kf]at this
  exact this
 | .cons pre gy q rest,past,h=>by
  unfold xr at h
  simp only[Bool.and_eq_true]at h
  obtain⟨h1,h2,h3,h4⟩:=h
  refine⟨fun i hi=>?_,fun i hi hc=>?_,fun q' hq=>?_,DI rest _ h4⟩
  ·obtain⟨o,ho,_⟩:=id hi
   have:=nh (kg h1 i o (by simpa using ho)) (j4.2 hi)
   rw[Bool.or_eq_true,Bool.or_eq_true,rm,rm,kf]at this
   exact this
  ·rw[hI,List.all_eq_true]at h2
   exact nh (h2 i hi) (j4.2 hc)
  ·rw[hI,List.all_eq_true]at h3
   exact h3 q' hq
omit [Io] in
theorem SL(h:M4 c.ops.toList=true): ∀ i j d,c.lM i d->c.lM j d->i=j:=by
 rintro i j d ⟨o,ho,hd⟩ ⟨o',j3,Ck⟩
 have h1:=kg h i o (by simpa using ho)
 rw[hd]at h1
 have h2:=nh (kg h1 j o' (by simpa using j3)) (sS Ck)
 exact Nat.eq_of_beq_eq_true h2
end Cx
theorem M8{g:G}{w:World}{h:Hp}(H:HR g w h):g.to h.next=g:=by
 cases g with
 |mk m im=>
  unfold G.to
  simp only[G.mk.injEq,and_true]
  funext id
  by_cases gK:id<h.next
  ·simp only[gK,if_true]
  ·simp only[gK,if_false]
   exact(H.fresh id (by omega)).symm
omit [Io] in
theorem sW{g:G}{w w':World}(h:w'.heap=w.heap):p6 g w g w':=
 ⟨fun _ _ e=>e,fun _ i=>i,fun b _=>by rw[h],fun b=>by unfold ed;rw[h];exact Nat.le_refl _⟩
theorem HR.heap{g:G}{w w':World}{hp:Hp}(h:w'.heap=w.heap)(H:HR g w hp):HR g w' hp:=by
 refine⟨H.fresh,fun id cs e=>?_,H.inj,fun b i=>by rw[h];exact H.eL b i,kY.mono (sW h) H.tb⟩
 obtain⟨b,s,C,el,vs,h1,h2,h3,h4,h5⟩:=H.aU id cs e
 exact⟨b,s,C,el,vs,h1,by rw[h];exact h2,h3,bQ.fk (sW h) _ _ h4,h5⟩
omit [Io] in
theorem FR(g:G)(w:World)(h:Hp)(n:Nat):Ext g w h g {w with drawn:=n} h:=
 ⟨rfl,rfl,rfl,Nat.le_refl _,Nat.le_refl _,fun _ _ e=>e,fun _ _ _=>rfl,fun _=>Nat.le_refl _,fun _ i=>i,fun _ i=>.inl i,fun _ o=>.inl o⟩
theorem DJ{P:Program}(hm:P.follows .mixedOrders=true):Ce P (aK P):=by
 intro call nt hc id ops g w t h a t' h' H T D e Q K
 refine wp_region_draw fun tk=>?_
 rw[hm]
 change (gD (DE ops.toList&&(M4 ops.toList&&xr P call ops.toList (sV P call ops.toList) [])) (ng P call nt ops.toList (sV P call ops.toList) []) (fun _ _=>.bad):me) t h=.ok t' h' at e
 cases hB:(DE ops.toList&&(M4 ops.toList&&xr P call ops.toList (sV P call ops.toList) []))with
 |false=>rw[hB]at e;cases e
 |true=>
 rw[hB]at e
 change ng P call nt ops.toList (sV P call ops.toList) [] t h=.ok t' h' at e
 simp only[Bool.and_eq_true]at hB
 obtain⟨GB,zw,qe⟩:=hB
 obtain⟨pl,V2⟩: ∃ pl,pl=sV P call ops.toList:=⟨_,rfl⟩
 rw[<-V2]at e qe
 have L:=yn (M3 GB) tk
 let c0:Cx:=⟨P,call,ops,nt,t,t',fun _=>0,fun _=>0,g,w,h,h'⟩
 have Xs: ∀ i j d,c0.lM i d->c0.lM j d->i=j:=Cx.SL (c:=c0) zw
 have iK:nt<=512:=T.1
 have F:=Cx.ry (c:=c0) iK pl [] t h e
 have gz: ∀ u,u<512->(∀ j,¬ c0.lM j u)->c0.te.at u=c0.t0.at u:=fun u hu hd=>F u hu (fun j hj=>absurd hj (hd j))
 obtain⟨nx,bd,_,jV,ae9,hgi⟩:=Cx.Ak (c:=c0) iK gz Xs pl [] t h (fun _=>0) (fun _=>0) e (fun u _ _=>rfl) (fun j hj=>by cases hj)
 let c:Cx:=c0.wi nx bd
 have fO: ∀ {i k},c.dM i k->i<c.ops.size:=fun⟨o,ho,_⟩=>(Array.getElem?_eq_some_iff.1 ho).1
 have G0:c.MY:=
  ⟨fun i hi=>(hgi i (fO hi) (by simp)).1.1 hi,fun i hi=>(hgi i (fO hi) (by simp)).1.2 hi,Xs,ae9,gz,hc,iK⟩
 have uA:g.to h.next=g:=M8 H
 refine Cx.V9 (c:=c) G0 K _ [] [] pl g {w with drawn:=w.drawn+1} h a L ?_
 exact
 {run:=jV
  stat:=Cx.DI (c:=c) pl [] qe
  closed:=fun j hj=>by cases hj
  wz:=fun i hi=>.inl ((hgi i (fO hi) (by simp)).2.2 hi)
  LF:=fun i _ h=>by cases h
  tD:=fun j hj=>by cases hj
  QL:=fun i hi=>.inl ((hgi i (fO hi) (by simp)).2.1 hi)
  st:=⟨(by rw[uA];exact HR.heap (w:=w) rfl H),(by rw[uA];exact FR _ _ _ _),(fun i _ h=>by cases h),(fun i _ j _ h=>by cases h)⟩
  QM:=fun id x m=>.inl (by
   refine Classical.byContradiction fun k=>?_
   rw[H.fresh id (by omega)]at m;cases m)
  o8:=fun j hj=>by cases hj
  free:=fun u v hu hd eu=>by
   obtain⟨h1,h2⟩:=T.2.2 u v hu eu
   refine⟨h1,?_⟩
   rw[uA]
   exact VR.fk (sW (w:=w) (w':={w with drawn:=w.drawn+1}) rfl) _ _ h2
  size:=T.2.1
  defers:=D}
end Go.Ab

noncomputable section
namespace Go.Ab
variable [Io]
def Cs(F:Func):Code:=match F.body with
 |some c=>c
 |none=>.skip
omit [Io] in
theorem aM{P:Program}{draw:cY->Nat->Array Oper->me}{f:FuncId}{F:Func}{b:Fb}(h1:P.funcs[f]? =some F)(h2: ∀ args w,(callFunc f args).run P w=.ok (.enter f args) w)
 (h3:F.body.isSome=true)(h4:b.ntmps=F.ntmps)(h5:Nat.ble b.ntmps 512=true)(h6:H9 P b.ntmps F.results.toList=some b.res)
 (h7:b.body=fun call n=>fY P (draw call b.ntmps) call n b.ntmps (Cs F)):bm P draw f b:=by
 refine⟨⟨F,Cs F,h1,?_,h4,Nat.ble_eq.mp h5,h6,h7⟩,h2⟩
 unfold Cs
 cases h:F.body with
 |none=>rw[h]at h3;cases h3
 |some c=>rfl
def ID{α:Type}(p:Nat->α->Prop)(a b:Nat):Tr α->Prop
 | .nil=>True
 | .node l v r=>(∀ x,v=some x->p b x)/\ID p (2*a) (a+b) l/\ID p (2*a) (2*a+b) r
omit [Io] in
theorem ID.get{α:Type}{p:Nat->α->Prop}: ∀ {t:Tr α} {a b:Nat},ID p a b t-> ∀ k x,t.get k=some x->p (a*k+b) x
 | .nil,a,b,_,k,x,e=>by cases e
 | .node l v r,a,b,⟨h1,h2,h3⟩,k,x,e=>by
  rw[Tr.oO]at e
  by_cases h0:k=0
  ·subst h0
   rw[if_pos rfl]at e
   simpa using h1 x e
  ·rw[if_neg h0]at e
   by_cases hk:k % 2=1
   ·rw[if_pos hk]at e
    have:=h2.get _ x e
    have e2:2*a*(k / 2)+(a+b)=a*k+b:=by
     have:k=2*(k / 2)+1:=by omega
     generalize k / 2=m at*
     subst this
     rw[Nat.mul_add,Nat.mul_one,<-Nat.mul_assoc,Nat.mul_comm a 2]
     omega
    rwa [e2]at this
   ·rw[if_neg hk]at e
    have:=h3.get _ x e
    have e2:2*a*(k / 2 - 1)+(2*a+b)=a*k+b:=by
     have:k=2*(k / 2 - 1)+2:=by omega
     generalize k / 2 - 1=m at*
     subst this
     rw[Nat.mul_add,<-Nat.mul_assoc,Nat.mul_comm a 2]
     omega
    rwa [e2]at this
omit [Io] in
theorem xW{α:Type}{p:Nat->α->Prop}{b:Nat}: ∀ x,(none:Option α)=some x->p b x:=fun _ e=>by cases e
end Go.Ab

noncomputable section
namespace Go.Ab
variable [Io]
structure Ct(w w':World):Prop where
 os:w'.os=w.os
 tape:w'.tape=w.tape
 output:w'.output=w.output
 size:w.heap.size<=w'.heap.size
 oL: ∀ b,b<w.heap.size->w'.heap[b]? =w.heap[b]?
omit [Io] in
theorem Ct.rows{w w':World}(K:Ct w w')(b:Nat):ed w b<=ed w' b:=by
 unfold ed
 by_cases h:b<w.heap.size
 ·rw[K.oL b h];exact Nat.le_refl _
 ·rw[Array.getElem?_eq_none (by omega)];exact Nat.zero_le _
def gE(eL:Nat->Prop):G:=⟨fun _=>none,eL⟩
theorem Al{eL:Nat->Prop}{w:World}(h: ∀ b,eL b->b<w.heap.size)(t:kY (gE eL) w):HR (gE eL) w (fC 0):=
 ⟨fun _ _=>rfl,(fun _ _ e=>by cases e),(fun _ _ _ _ _ _ _ e=>by cases e),h,t⟩
omit [Io] in
theorem DK{eL:Nat->Prop}{w:World}{g':G}{w':World}{h':Hp}(E:Ext (gE eL) w (fC 0) g' w' h'):Ct w w':=
 ⟨E.os,E.tape,E.output,E.size,fun b hb=>E.oL b hb (by rintro⟨id,cs,s,e,_⟩;cases e)⟩
def mapA(f:AV->Option AV)(l:List AV):Option (List AV):=
 List.rec (some []) (fun a _ ih=>match f a with
  |some b=>match ih with
   |some r=>some (b::r)
   |none=>none
  |none=>none) l
def qD(n:Nat):Hp->AV->Option AV:=
 Nat.rec (fun _ _=>none) (fun _ ih h a=>match a with
  | .dV id off n sz=>match h.aU.get id with
   |some cs=>match cs.jd off (Nat.mul n sz)with
    |some l=>match mapA (ih h) l with
     |some l=>some (.iw n l)
     |none=>none
    |none=>none
   |none=>none
  | .ref id off=>match h.aU.get id with
   |some cs=>match cs.jd off (Nat.sub cs.n off)with
    |some l=>match mapA (ih h) l with
     |some l=>some (.gj l)
     |none=>none
    |none=>none
   |none=>none
  | .agg l=>match mapA (ih h) l with
   |some l=>some (.agg l)
   |none=>none
  | .qP l=>match mapA (ih h) l with
   |some l=>some (.qP l)
   |none=>none
  | .fn f l=>match mapA (ih h) l with
   |some l=>some (.fn f l)
   |none=>none
  | .iw n l=>match mapA (ih h) l with
   |some l=>some (.iw n l)
   |none=>none
  | .gj l=>match mapA (ih h) l with
   |some l=>some (.gj l)
   |none=>none
  |a=>some a) n
theorem uD{g g':G}{w:World}{f:AV->Option AV}(hf: ∀ a a' v,f a=some a'->VR g w a v->VR g' w a' v): ∀ {l l':List AV} {vs:List Value},mapA f l=some l'->bQ g w l vs->bQ g' w l' vs
 | [],l',vs,e,h=>by cases e;simpa only[bQ]using h
 |a::l,l',vs,e,h=>by
  change (match f a with|some b=>(match mapA f l with|some r=>some (b::r)|none=>none)|none=>none)=some l' at e
  simp only[bQ]at h
  obtain⟨v,r,rfl,hv,hr⟩:=h
  cases h1:f a with
  |none=>rw[h1]at e;cases e
  |some b=>
   cases h2:mapA f l with
   |none=>rw[h1,h2]at e;cases e
   |some r'=>
    rw[h1,h2]at e
    cases e
    simp only[bQ]
    exact⟨v,r,rfl,hf a b v h1 hv,uD hf h2 hr⟩
theorem SM{g g':G}{w:World}{h:Hp}(H:HR g w h)(hi: ∀ b,g.eL b->g'.eL b)(ho: ∀ b,ik g h b->g'.eL b): ∀ (n:Nat) (a a':AV) (v:Value),qD n h a=some a'->VR g w a v->VR g' w a' v:=by
 intro n
 induction n with
 |zero=>intro a a' v e;cases e
 |succ n ih=>
  intro a a' v e hv
  have hm:= @uD _ g g' w (qD n h) ih
  cases a with
  |int k n=>cases e;simpa only[VR]using hv
  |bool b=>cases e;simpa only[VR]using hv
  |sc x=>cases e;simpa only[VR]using hv
  |eD=>cases e;simpa only[VR]using hv
  |mI=>cases e;simpa only[VR]using hv
  |sym k s lo hi o=>cases e;simpa only[VR]using hv
  |any=>cases e;simpa only[VR]using hv
  |agg l=>
   change (match mapA (qD n h) l with|some l=>some (AV.agg l)|none=>none)=some a' at e
   cases h1:mapA (qD n h) l with
   |none=>rw[h1]at e;cases e
   |some l'=>
    rw[h1]at e
    cases e
    simp only[VR]at hv ⊢
    obtain⟨vs,e,q⟩:=hv
    exact⟨vs,e,hm h1 q⟩
  |qP l=>
   change (match mapA (qD n h) l with|some l=>some (AV.qP l)|none=>none)=some a' at e
   cases h1:mapA (qD n h) l with
   |none=>rw[h1]at e;cases e
   |some l'=>
    rw[h1]at e
    cases e
    simp only[VR]at hv ⊢
    obtain⟨vs,e,q⟩:=hv
    exact⟨vs,e,hm h1 q⟩
  |fn f l=>
   change (match mapA (qD n h) l with|some l=>some (AV.fn f l)|none=>none)=some a' at e
   cases h1:mapA (qD n h) l with
   |none=>rw[h1]at e;cases e
   |some l'=>
    rw[h1]at e
    cases e
    simp only[VR]at hv ⊢
    obtain⟨vs,e,q⟩:=hv
    exact⟨vs,e,hm h1 q⟩
  |iw m l=>
   change (match mapA (qD n h) l with|some l=>some (AV.iw m l)|none=>none)=some a' at e
   cases h1:mapA (qD n h) l with
   |none=>rw[h1]at e;cases e
   |some l'=>
    rw[h1]at e
    cases e
    simp only[VR]at hv ⊢
    obtain⟨x,cap,e,hle,q⟩:=hv
    refine⟨x,cap,e,hle,?_⟩
    rcases q with⟨q1,rfl⟩|⟨b,o,vs,q1,q2,q3,q4⟩
    ·cases h1
     exact .inl ⟨q1,rfl⟩
    ·exact .inr ⟨b,o,vs,q1,hi b q2,q3,hm h1 q4⟩
  |gj l=>
   change (match mapA (qD n h) l with|some l=>some (AV.gj l)|none=>none)=some a' at e
   cases h1:mapA (qD n h) l with
   |none=>rw[h1]at e;cases e
   |some l'=>
    rw[h1]at e
    cases e
    simp only[VR]at hv ⊢
    obtain⟨b,o,vs,q1,q2,q3,q4⟩:=hv
    exact⟨b,o,vs,q1,hi b q2,q3,hm h1 q4⟩
  |ref id off=>
   change (match h.aU.get id with|some cs=>(match cs.jd off (Nat.sub cs.n off)with|some l=>(match mapA (qD n h) l with|some l=>some (AV.gj l)|none=>none)|none=>none)|none=>none)=some a' at e
   cases h0:h.aU.get id with
   |none=>rw[h0]at e;cases e
   |some cs=>
   rw[h0]at e
   simp only at e
   cases hs:cs.jd off (Nat.sub cs.n off)with
   |none=>rw[hs]at e;cases e
   |some l=>
   rw[hs]at e
   simp only at e
   cases h1:mapA (qD n h) l with
   |none=>rw[h1]at e;cases e
   |some l'=>
    rw[h1]at e
    cases e
    obtain⟨rfl,_,_⟩:=iz hs
    simp only[VR]at hv ⊢
    obtain⟨b,s,IE,rfl⟩:=hv
    obtain⟨C,el,vs,hw,_,eE,hC⟩:=H.row h0 IE
    exact⟨b,s+off,(vs.drop off).take (Nat.sub cs.n off),rfl,ho b ⟨id,cs,s,h0,IE⟩,((fN hw hC).drop off).take _,hm h1 ((eE.drop off).take _)⟩
  |dV id off m sz=>
   change (match h.aU.get id with|some cs=>(match cs.jd off (Nat.mul m sz)with|some l=>(match mapA (qD n h) l with|some l=>some (AV.iw m l)|none=>none)|none=>none)|none=>none)=some a' at e
   cases h0:h.aU.get id with
   |none=>rw[h0]at e;cases e
   |some cs=>
   rw[h0]at e
   simp only at e
   cases hs:cs.jd off (Nat.mul m sz)with
   |none=>rw[hs]at e;cases e
   |some l=>
   rw[hs]at e
   simp only at e
   cases h1:mapA (qD n h) l with
   |none=>rw[h1]at e;cases e
   |some l'=>
    rw[h1]at e
    cases e
    obtain⟨rfl,hlen,_⟩:=iz hs
    simp only[VR]at hv ⊢
    rcases hv with⟨rfl,x,rfl⟩|⟨b,s,cap,IE,rfl,hle,_⟩
    ·refine⟨x,0,rfl,Nat.le_refl _,.inl ⟨rfl,?_⟩⟩
     have hz:Nat.mul 0 sz=0:=Nat.zero_mul sz
     rw[hz]at h1
     simp only[List.take_zero]at h1
     cases h1
     rfl
    ·obtain⟨C,el,vs,hw,_,eE,hC⟩:=H.row h0 IE
     exact⟨_,cap,rfl,hle,.inr ⟨b,s+off,(vs.drop off).take (Nat.mul m sz),rfl,ho b ⟨id,cs,s,h0,IE⟩,((fN hw hC).drop off).take _,hm h1 ((eE.drop off).take _)⟩⟩
end Go.Ab

noncomputable section
namespace Go.Ab
end Go.Ab

noncomputable section
namespace Go.Ab
variable [Io]
end Go.Ab
namespace Go.Ab
end Go.Ab

noncomputable section
namespace Go.Ab
variable [Io]
section
variable {P:Program}{call:cY}
end
end Go.Ab

noncomputable section
namespace Go.Ab
end Go.Ab

noncomputable section
namespace Go.Ab
def isT(r:Ro):Bool:=match r with
 | .ok (.bool b) _=>b
 | _=>false
theorem SN{r:Ro}(h:isT r=true): ∃ h',r=.ok (.bool true) h':=by
 unfold isT at h
 split at h
 ·subst h;exact⟨_,rfl⟩
 ·cases h
theorem Ct.below{w w':World}(K:Ct w w'):Go.RowKit.Below w.heap.size w w':=⟨K.os,K.tape,K.output,K.size,K.oL⟩
theorem SO[Io]{P:Program}{call:cY}(hc:dR P call){f:FuncId}{args:List AV}{vs:List Value}(e:isT (call f args (fC 0))=true)(w:World){eL:Nat->Prop}(hi: ∀ b,eL b->b<w.heap.size)(ht:kY (gE eL) w)(hv:bQ (gE eL) w args vs):
 Calls P f vs.toArray w fun e w'=>e=.returned (.bool true)/\Go.RowKit.Below w.heap.size w w':=by
 obtain⟨h',e'⟩:=SN e
 refine((hc f args (fC 0) _ h' e').2 (gE eL) w vs (Al hi ht) hv).mono ?_
 rintro e w' ⟨x,g',rfl,E,H',hx⟩
 simp only[VR]at hx
 subst hx
 exact⟨rfl,(DK E).below⟩
theorem IF{n:Int}(h:(Lit.int .u64 n).wf=true):0<=n/\n<=18446744073709551615:=by
 simp[Lit.wf,IntKind.min,IntKind.max,IntKind.bits,IntKind.signed]at h
 omega
end Go.Ab

noncomputable section
namespace Go.Ab
variable [Io]
section
variable {P:Program}
def Am(fn:FuncId->Option Fb)(n:Nat)(c:cY):cY:=fun f args h=>match fn f with
 |none=>.bad
 |some b=>gD (Nat.ble (len args) b.ntmps) (match b.body c n (nJ args 0 Tm.none) h with
  | .norm t h=>fin b.res t h
  | .ret t h=>fin b.res t h
  | _=>.bad) .bad
theorem IG{draw:cY->Nat->Array Oper->me}(hd:Ce P draw){fn:FuncId->Option Fb}(hf: ∀ f b,fn f=some b->bm P draw f b)(n:Nat){c:cY}(hc:dR P c):dR P (Am fn n c):=by
 intro f args h v h' e
 change (match fn f with
  |none=>Ro.bad
  |some b=>gD (Nat.ble (len args) b.ntmps) (match b.body (c) n (nJ args 0 Tm.none) h with| .norm t h=>fin b.res t h| .ret t h=>fin b.res t h| _=>.bad) .bad)=.ok v h' at e
 cases hb:fn f with
 |none=>rw[hb]at e;cases e
 |some b=>
 rw[hb]at e
 simp only at e
 cases hle:Nat.ble (len args) b.ntmps with
 |false=>rw[hle]at e;cases e
 |true=>
 rw[hle]at e
 change (match b.body (c) n (nJ args 0 Tm.none) h with| .norm t h=>fin b.res t h| .ret t h=>fin b.res t h| _=>.bad)=Ro.ok v h' at e
 rw[cF]at hle
 have Xt:args.length<=b.ntmps:=Nat.ble_eq.mp hle
 have F0:=hf f b hb
 obtain⟨F,cd,hF,hcb,iK,wL,ae',Xu⟩:=F0.ex
 refine⟨F0.enter,fun g w vs H hv=>?_⟩
 rw[Xu]at e
 have Xv:=ML hc (draw:=draw (c) b.ntmps) (nt:=b.ntmps) (fun id ops=>hd _ _ hc id ops) n cd
 have hvl:=hv.length
 have Dz:(vs.toArray++Array.replicate (F.ntmps - vs.toArray.size) undef).size=b.ntmps:=by simp;omega
 have hT0:TR g w b.ntmps Tm.none (vs.toArray++Array.replicate (F.ntmps - vs.toArray.size) undef):=
  ⟨wL,Dz,fun i v hi e=>by rw[Tm.xW i hi]at e;cases e⟩
 have hT:=ra args vs 0 b.ntmps Tm.none _ hv (by omega) hT0 (fun j v e=>by
  rw[Array.getElem?_append_left (by have:=(List.getElem?_eq_some_iff.1 e).1;simpa using this)]
  simpa using e)
 refine calls_of_wp hF hcb ?_
 have:=Xv g w _ h {tmps:=vs.toArray++Array.replicate (F.ntmps - vs.toArray.size) undef,defers:=[]}
  (bodyPost P F (fun e w'=> ∃ x g',e=.returned x/\Ext g w h g' w' h'/\HR g' w' h'/\VR g' w' v x)) H hT rfl
 have II: ∀ t1 h1,fin b.res t1 h1=.ok v h'-> ∀ g' w' (a':Act),Ext g w h g' w' h1->HR g' w' h1->TR g' w' b.ntmps t1 a'.tmps->a'.defers=[]->
  a'.defers=[]/\ ∃ x,(results F a'.tmps).run P w'=.ok x w'/\ ∃ y g',Ending.returned x=.returned y/\Ext g w h g' w' h'/\HR g' w' h'/\VR g' w' v y:=by
  intro t1 h1 afb g' w' a' E' H' T' D'
  obtain⟨rfl,x,hx,Ib⟩:=SB H' T' ae' afb
  exact⟨D',x,hx,x,g',rfl,E',H',Ib⟩
 simp only at e
 cases hr:fY P (draw (c) b.ntmps) (c) n b.ntmps cd (nJ args 0 Tm.none) h with
 |bad=>rw[hr]at e;cases e
 |norm t1 h1=>rw[hr]at e this;exact this (II t1 h1 e)
 |ret t1 h1=>rw[hr]at e this;exact this (II t1 h1 e)
 |exit i t1 h1=>rw[hr]at e;cases e
end
end Go.Ab

noncomputable section
namespace Go.Ab
open Go.ChangeShapes Go.WideShapes Go.ChangeAt Go.RowKit Go.Deep Go.Joins
end Go.Ab

noncomputable section
namespace Go.Ab
variable [Io]
end Go.Ab
namespace Go.Ab
variable [Io]
section
variable {P:Program}
def rz(fn:FuncId->Option Fb)(wr:cY->cY)(n:Nat)(d:Nat):cY:=Nat.rec (fun _ _ _=>.bad) (fun _ ih=>Am fn n (wr ih)) d
theorem vz{draw:cY->Nat->Array Oper->me}(hd:Ce P draw){fn:FuncId->Option Fb}(hf: ∀ f b,fn f=some b->bm P draw f b){wr:cY->cY}
 (hw: ∀ c,dR P c->dR P (wr c))(n:Nat): ∀ d,dR P (rz fn wr n d)
 |0=>by intro f args h v h' e;cases e
 |d+1=>IG hd hf n (hw _ (vz hd hf hw n d))
theorem bQ.split{g:G}{w:World}: ∀ {l r:List AV} {vs:List Value},bQ g w (l++r) vs-> ∃ us ts,vs=us++ts/\bQ g w l us/\bQ g w r ts
 | [],r,vs,h=>⟨[],vs,rfl,by simp[bQ],h⟩
 |a::l,r,vs,h=>by
  simp only[List.cons_append,bQ]at h
  obtain⟨v,l',rfl,q,p⟩:=h
  obtain⟨us,ts,rfl,h1,h2⟩:=bQ.split p
  refine⟨v::us,ts,rfl,?_,h2⟩
  simp only[bQ]
  exact⟨v,us,rfl,q,h1⟩
end
end Go.Ab
namespace Go.Ab
variable [Io]
end Go.Ab

noncomputable section
namespace Go.Ab
variable [Io]
def rA(n:Nat):Hp->AV->Option AV:=
 Nat.rec (fun _ _=>none) (fun _ ih h a=>match a with
  | .dV id off n sz=>match h.aU.get id with
   |some cs=>match cs.jd off (Nat.mul n sz)with
    |some l=>match mapA (ih h) l with
     |some l=>some (.iw n l)
     |none=>none
    |none=>none
   |none=>none
  | .ref id off=>match h.aU.get id with
   |some cs=>match cs.jd off (Nat.sub cs.n off)with
    |some l=>match mapA (ih h) l with
     |some l=>some (.gj l)
     |none=>none
    |none=>none
   |none=>none
  | .agg l=>match mapA (ih h) l with
   |some l=>some (.agg l)
   |none=>none
  | .qP l=>match mapA (ih h) l with
   |some l=>some (.qP l)
   |none=>none
  | .fn f l=>match mapA (ih h) l with
   |some l=>some (.fn f l)
   |none=>none
  | .iw _ _=>none
  | .gj _=>none
  |a=>some a) n
theorem M9{g g':G}{w:World}{h:Hp}(H:HR g w h)(ho: ∀ b,ik g h b->g'.eL b): ∀ (n:Nat) (a a':AV) (v:Value),rA n h a=some a'->VR g w a v->VR g' w a' v:=by
 intro n
 induction n with
 |zero=>intro a a' v e;cases e
 |succ n ih=>
  intro a a' v e hv
  have hm:= @uD _ g g' w (rA n h) ih
  cases a with
  |int k n=>cases e;simpa only[VR]using hv
  |bool b=>cases e;simpa only[VR]using hv
  |sc x=>cases e;simpa only[VR]using hv
  |eD=>cases e;simpa only[VR]using hv
  |mI=>cases e;simpa only[VR]using hv
  |sym k s lo hi o=>cases e;simpa only[VR]using hv
  |any=>cases e;simpa only[VR]using hv
  |agg l=>
   change (match mapA (rA n h) l with|some l=>some (AV.agg l)|none=>none)=some a' at e
   cases h1:mapA (rA n h) l with
   |none=>rw[h1]at e;cases e
   |some l'=>
    rw[h1]at e
    cases e
    simp only[VR]at hv ⊢
    obtain⟨vs,e,q⟩:=hv
    exact⟨vs,e,hm h1 q⟩
  |qP l=>
   change (match mapA (rA n h) l with|some l=>some (AV.qP l)|none=>none)=some a' at e
   cases h1:mapA (rA n h) l with
   |none=>rw[h1]at e;cases e
   |some l'=>
    rw[h1]at e
    cases e
    simp only[VR]at hv ⊢
    obtain⟨vs,e,q⟩:=hv
    exact⟨vs,e,hm h1 q⟩
  |fn f l=>
   change (match mapA (rA n h) l with|some l=>some (AV.fn f l)|none=>none)=some a' at e
   cases h1:mapA (rA n h) l with
   |none=>rw[h1]at e;cases e
   |some l'=>
    rw[h1]at e
    cases e
    simp only[VR]at hv ⊢
    obtain⟨vs,e,q⟩:=hv
    exact⟨vs,e,hm h1 q⟩
  |iw m l=>cases e
  |gj l=>cases e
  |ref id off=>
   change (match h.aU.get id with|some cs=>(match cs.jd off (Nat.sub cs.n off)with|some l=>(match mapA (rA n h) l with|some l=>some (AV.gj l)|none=>none)|none=>none)|none=>none)=some a' at e
   cases h0:h.aU.get id with
   |none=>rw[h0]at e;cases e
   |some cs=>
   rw[h0]at e
   simp only at e
   cases hs:cs.jd off (Nat.sub cs.n off)with
   |none=>rw[hs]at e;cases e
   |some l=>
   rw[hs]at e
   simp only at e
   cases h1:mapA (rA n h) l with
   |none=>rw[h1]at e;cases e
   |some l'=>
    rw[h1]at e
    cases e
    obtain⟨rfl,_,_⟩:=iz hs
    simp only[VR]at hv ⊢
    obtain⟨b,s,IE,rfl⟩:=hv
    obtain⟨C,el,vs,hw,_,eE,hC⟩:=H.row h0 IE
    exact⟨b,s+off,(vs.drop off).take (Nat.sub cs.n off),rfl,ho b ⟨id,cs,s,h0,IE⟩,((fN hw hC).drop off).take _,hm h1 ((eE.drop off).take _)⟩
  |dV id off m sz=>
   change (match h.aU.get id with|some cs=>(match cs.jd off (Nat.mul m sz)with|some l=>(match mapA (rA n h) l with|some l=>some (AV.iw m l)|none=>none)|none=>none)|none=>none)=some a' at e
   cases h0:h.aU.get id with
   |none=>rw[h0]at e;cases e
   |some cs=>
   rw[h0]at e
   simp only at e
   cases hs:cs.jd off (Nat.mul m sz)with
   |none=>rw[hs]at e;cases e
   |some l=>
   rw[hs]at e
   simp only at e
   cases h1:mapA (rA n h) l with
   |none=>rw[h1]at e;cases e
   |some l'=>
    rw[h1]at e
    cases e
    obtain⟨rfl,hlen,_⟩:=iz hs
    simp only[VR]at hv ⊢
    rcases hv with⟨rfl,x,rfl⟩|⟨b,s,cap,IE,rfl,hle,_⟩
    ·refine⟨x,0,rfl,Nat.le_refl _,.inl ⟨rfl,?_⟩⟩
     have hz:Nat.mul 0 sz=0:=Nat.zero_mul sz
     rw[hz]at h1
     simp only[List.take_zero]at h1
     cases h1
     rfl
    ·obtain⟨C,el,vs,hw,_,eE,hC⟩:=H.row h0 IE
     exact⟨_,cap,rfl,hle,.inr ⟨b,s+off,(vs.drop off).take (Nat.mul m sz),rfl,ho b ⟨id,cs,s,h0,IE⟩,((fN hw hC).drop off).take _,hm h1 ((eE.drop off).take _)⟩⟩
mutual
def om:AV->Bool
 | .agg l=>nT l
 | .qP l=>nT l
 | .iw _ l=>nT l
 | .gj l=>nT l
 | .fn _ l=>nT l
 | .ref _ _=>false
 | .dV _ _ _ _=>false
 | _=>true
def nT:List AV->Bool
 | []=>true
 |a::l=>om a&&nT l
end
mutual
theorem VR.om{g:G}{w:World}: ∀ (a:AV) (v:Value),om a=true->VR g w a v->VR (gE g.eL) w a v
 | .int _ _,v,n,r=>by simpa only[VR]using r
 | .bool _,v,n,r=>by simpa only[VR]using r
 | .sc _,v,n,r=>by simpa only[VR]using r
 | .eD,v,n,r=>by simpa only[VR]using r
 | .mI,v,n,r=>by simpa only[VR]using r
 | .any,v,n,r=>by simpa only[VR]using r
 | .sym _ _ _ _ _,v,n,r=>by simpa only[VR]using r
 | .ref _ _,v,n,r=>by cases n
 | .dV _ _ _ _,v,n,r=>by cases n
 | .agg cs,v,n,r=>by
  simp only[VR]at r ⊢
  obtain⟨vs,e,q⟩:=r
  exact⟨vs,e,bQ.om cs _ n q⟩
 | .qP cs,v,n,r=>by
  simp only[VR]at r ⊢
  obtain⟨vs,e,q⟩:=r
  exact⟨vs,e,bQ.om cs _ n q⟩
 | .fn f cs,v,n,r=>by
  simp only[VR]at r ⊢
  obtain⟨vs,e,q⟩:=r
  exact⟨vs,e,bQ.om cs _ n q⟩
 | .iw m cs,v,n,r=>by
  simp only[VR]at r ⊢
  obtain⟨a,cap,e,l,r⟩:=r
  refine⟨a,cap,e,l,?_⟩
  rcases r with r|⟨b,o,vs,e,i,c,q⟩
  ·exact .inl r
  ·exact .inr ⟨b,o,vs,e,i,c,bQ.om cs _ n q⟩
 | .gj cs,v,n,r=>by
  simp only[VR]at r ⊢
  obtain⟨b,o,vs,e,i,c,q⟩:=r
  exact⟨b,o,vs,e,i,c,bQ.om cs _ n q⟩
theorem bQ.om{g:G}{w:World}: ∀ (l:List AV) (vs:List Value),nT l=true->bQ g w l vs->bQ (gE g.eL) w l vs
 | [],vs,n,r=>by simpa only[bQ]using r
 |a::l,vs,n,r=>by
  simp only[nT,Bool.and_eq_true]at n
  simp only[bQ]at r ⊢
  obtain⟨v,l',e,q,r⟩:=r
  exact⟨v,l',e,VR.om a v n.1 q,bQ.om l l' n.2 r⟩
end
def cU(P:Program)(f:FuncId)(args:List AV)(v:AV):Prop:=
 (∀ as w,(callFunc f as).run P w=.ok (.enter f as) w)/\ ∀ (g:G) (w:World) (vs:List Value),(∀ b,g.eL b->b<w.heap.size)->kY g w->bQ g w args vs->
  Calls P f vs.toArray w fun e w'=> ∃ x,e=.returned x/\Ct w w'/\VR (gE fun b=>w.heap.size<=b/\b<w'.heap.size) w' v x
def afc(r:Ro):Option AV:=Ro.rec none (fun v h=>rA 8 h v) r
theorem xu{P:Program}{call:cY}(hc:dR P call){f:FuncId}{args:List AV}{v':AV}(e:afc (call f args (fC 0))=some v')(ha:nT args=true):cU P f args v':=by
 cases hr:call f args (fC 0)with
 |bad=>rw[hr]at e;cases e
 |ok v h'=>
 rw[hr]at e
 have hf:rA 8 h' v=some v':=e
 obtain⟨Xc,xk⟩:=hc f args (fC 0) v h' hr
 refine⟨Xc,fun g w vs hi ht hv=>(xk (gE g.eL) w vs (Al hi ht) (bQ.om _ _ ha hv)).mono ?_⟩
 rintro e w' ⟨x,g',rfl,E,H',hx⟩
 refine⟨x,rfl,DK E,M9 H' (fun b k=>?_) 8 v v' x hf hx⟩
 rcases E.mZ b k with⟨id,cs,s,e,_⟩|k1
 ·cases e
 ·obtain⟨id,cs,s,e,m⟩:=k
  obtain⟨_,_,_,hw,_⟩:=H'.row e m
  exact⟨k1,(Array.getElem?_eq_some_iff.1 hw).1⟩
def SP(has:FuncId->Bool)(QS:FuncId->List AV->Option AV)(call:cY):cY:=fun f args h=>Bool.rec (call f args h) (match mapA (qD 8 h) args with
 |some o9=>match QS f o9 with
  |some v=>.ok v h
  |none=>call f args h
 |none=>call f args h) (has f)
theorem Na{P:Program}{has:FuncId->Bool}{QS:FuncId->List AV->Option AV}{call:cY}(ht: ∀ f args v,QS f args=some v->cU P f args v)(hc:dR P call):dR P (SP has QS call):=by
 intro f args h v h' e
 unfold SP at e
 cases hh:has f with
 |false=>rw[hh]at e;exact hc f args h v h' e
 |true=>
 rw[hh]at e
 simp only at e
 cases V3:mapA (qD 8 h) args with
 |none=>rw[V3]at e;exact hc f args h v h' e
 |some o9=>
 rw[V3]at e
 simp only at e
 cases SQ:QS f o9 with
 |none=>rw[SQ]at e;exact hc f args h v h' e
 |some v1=>
  rw[SQ]at e
  cases e
  obtain⟨k1,k2⟩:=ht f o9 v SQ
  refine⟨k1,fun g w vs H hv=>?_⟩
  have Xa:bQ (gE fun b=>b<w.heap.size) w o9 vs:=uD (g:=g) (fun a a' x=>SM H (g':=gE fun b=>b<w.heap.size) H.eL (fun b ⟨id,cs,s,e,m⟩=>by
   obtain⟨_,_,_,hw,_⟩:=H.row e m
   exact(Array.getElem?_eq_some_iff.1 hw).1) 8 a a' x) V3 hv
  refine(k2 (gE fun b=>b<w.heap.size) w vs (fun b k=>k) (fun p hp=>⟨H.eL _ (H.tb p hp).1,(H.tb p hp).2⟩) Xa).mono ?_
  rintro e w' ⟨x,rfl,K,hx⟩
  obtain⟨g',yx⟩: ∃ g':G,g'=⟨g.m,fun b=>g.eL b∨(w.heap.size<=b/\b<w'.heap.size)⟩:=⟨_,rfl⟩
  have hO: ∀ b,ik g' h b->ik g h b:=by
   rintro b ⟨id,cs,s,e,m⟩
   rw[yx]at m
   exact⟨id,cs,s,e,m⟩
  have M:p6 g w g' w':=⟨fun _ _ e=>by rw[yx];exact e,fun b i=>by rw[yx];exact .inl i,fun b i=>K.oL b (H.eL b i),K.rows⟩
  refine⟨x,g',rfl,⟨K.os,K.tape,K.output,K.size,Nat.le_refl _,M.m,fun b hb _=>K.oL b hb,K.rows,M.eL,fun b i=>?_,fun b o=>.inl (hO b o)⟩,⟨fun id gK=>?_,fun id cs e=>?_,fun id sE b s s' cs cs' e1 e2 m1 m2=>?_,fun b i=>?_,kY.mono M H.tb⟩,?_⟩
  ·rw[yx]at i
   rcases i with i|i
   ·exact .inl i
   ·exact .inr (.inr i.1)
  ·rw[yx];exact H.fresh id gK
  ·obtain⟨b,s,C,el,us,h1,h2,h3,h4,h5⟩:=H.aU id cs e
   have hb:=(Array.getElem?_eq_some_iff.1 h2).1
   refine⟨b,s,C,el,us,M.m _ _ h1,by rw[K.oL b hb];exact h2,?_,bQ.fk M _ _ h4,h5⟩
   rw[yx]
   rintro(i|i)
   ·exact h3 i
   ·omega
  ·rw[yx]at m1 m2
   exact H.inj id sE b s s' cs cs' e1 e2 m1 m2
  ·rw[yx]at i
   rcases i with i|i
   ·exact Nat.lt_of_lt_of_le (H.eL b i) K.size
   ·exact i.2
  ·refine VR.fk (⟨(fun _ _ e=>by cases e),(fun b i=>by rw[yx];exact .inr i),fun _ _=>rfl,fun _=>Nat.le_refl _⟩:p6 _ _ g' w') _ _ hx
end Go.Ab

noncomputable section
namespace Go.Ab
inductive Od where
 |t (i:Nat)
 |c (v:AV)
 |zz
 |w (o:Od)
inductive BF where
 |add|sub|mul|quo|rem|and|or|xor|andNot|shl|shr|lss|leq|gtr|geq
 |eqI (neg:Bool)|WK (neg:Bool)|QC (neg:Bool)|eqP (neg:Bool)|eqN (neg:Bool)|mf (neg:Bool) (l:List Bool)
inductive UF where
 |not|neg|xor|int (k:IntKind)
inductive j5 where
 |mv (a:Od)|pk (c a b:Od)|nw (cs:List AV)|bx (a:Od)|bd (z:List AV) (ps:List (Nat×Nat×Od))|rw(n sz:Nat) (z:List AV) (ps:List (Nat×Od))
 |ld (sz:Nat) (agg:Bool) (a:Od)|sto (sz:Nat) (a b:Od)|nl (a:Od)|bn (f:BF) (a b:Od)|un (f:UF) (a:Od)|bys (a:Od)|fn (f:FuncId) (cap:List Od)
 |mk (size bytes:Nat) (zero:List AV) (l c:Od)|slS (a:Od) (lo hi:Option Od)|slN (size:Nat) (a:Od) (lo hi:Option Od)|slA (n size:Nat) (a:Od) (lo hi:Option Od)
 |fa (off:Nat) (a:Od)|fd (off size:Nat) (agg:Bool) (a:Od)|ixS (size:Nat) (a i:Od)|ixA (n size:Nat) (a i:Od)|ix (n size:Nat) (agg:Bool) (a i:Od)|ixT (a i:Od)
 |ex (a:Od) (i:Nat)|lnT (a:Od)|ln (a:Od)|ap (size bytes:Nat) (s a:Od)|apZ (size bytes:Nat) (z:List AV) (s a:Od)|apS (bytes:Nat) (s a:Od)|mrk (a:Od)
 |cpy (size:Nat) (d s:Od)|emp (a b c:Od)|min (a b:Od)|max (a b:Od)|map|cap (a:Od)|bad|call (f:FuncId) (args:List Od)|callV (f:Od) (args:List Od)
 |gd (j:Od) (want:Bool) (f:j5)|mn (f:j5)
inductive wM where
 |fi
 |st (i:Nat) (f:j5) (k:wM)
 |sn (f:j5) (k:wM)
 |ck (s:Od) (f:j5) (k:wM)
inductive ou where
 |rg (r:wM)|sk|sq (a b:ou)|Wc (c:Od) (a b:ou)|bl (id:Nat) (b:ou)|lp (b:ou)|ex (i:Nat)|rt|bad
structure cQ where
 ntmps:Nat
 res:List RV
 code:ou
def cf(o:Od):eR:=Od.rec (fun i=>oT i) (fun v=>oC v) oX (fun _ ih=>wO ih) o
def BF.f:BF->AV->AV->Option AV
 | .add=>aY| .sub=>dk| .mul=>iy| .quo=>qQ| .rem=>p'| .and=>dO| .or=>kb| .xor=>w6| .andNot=>nG| .shl=>iU| .shr=>dY
 | .lss=>aX| .leq=>dL| .gtr=>dN| .geq=>cA
 | .eqI n=>ak n| .WK n=>xU n| .QC n=>uS n| .eqP n=>kW n| .eqN n=>kX n| .mf n l=>BS n l
def UF.f:UF->AV->Option AV
 | .not=>gC| .neg=>xV| .xor=>E6| .int k=>aP k
def Cu(call:cY)(o:j5):eP:=match o with
 | .mv a=>aa (cf a)| .pk c a b=>aS (cf c) (cf a) (cf b)| .nw cs=>dB cs| .bx a=>dr (cf a)
 | .bd z ps=>aq z (ps.map fun p=>(p.1,p.2.1,cf p.2.2))| .rw n sz z ps=>bH n sz z (ps.map fun p=>(p.1,cf p.2))
 | .ld sz agg a=>bc sz agg (cf a)| .sto sz a b=>aA sz (cf a) (cf b)| .nl a=>aD (cf a)| .bn f a b=>ae f.f (cf a) (cf b)| .un f a=>cE f.f (cf a)
 | .bys a=>nH (cf a)| .fn f cap=>Lw f (cap.map cf)| .mk s b z l c=>lO s b z (cf l) (cf c)
 | .slS a lo hi=>dG (cf a) (lo.map cf) (hi.map cf)| .slN s a lo hi=>cB s (cf a) (lo.map cf) (hi.map cf)| .slA n s a lo hi=>gq n s (cf a) (lo.map cf) (hi.map cf)
 | .fa off a=>ab off (cf a)| .fd off s g a=>lP off s g (cf a)| .ixS s a i=>bt s (cf a) (cf i)| .ixA n s a i=>oB n s (cf a) (cf i)| .ix n s g a i=>kF n s g (cf a) (cf i)| .ixT a i=>cC (cf a) (cf i)
 | .ex a i=>aL (cf a) i| .lnT a=>jf (cf a)| .ln a=>aT (cf a)| .ap s b x y=>aQ s b (cf x) (cf y)| .apZ s b z x y=>n9 s b z (cf x) (cf y)| .apS b x y=>qU b (cf x) (cf y)
 | .mrk a=>qb (cf a)| .cpy s d a=>jL s (cf d) (cf a)| .emp a b c=>uW (cf a) (cf b) (cf c)| .min a b=>sD (cf a) (cf b)| .max a b=>wD (cf a) (cf b)| .map=>E7| .cap a=>qS (cf a)| .bad=>cq
 | .call f args=>aj call f (args.map cf)| .callV f args=>gH call (cf f) (args.map cf)
 | .gd j want f=>gF (cf j) want (Cu call f)| .mn f=>mn (Cu call f)
def GF(call:cY)(r:wM):me:=
 wM.rec Go.Ab.fi (fun i f _ ih=>st (sT i) (Cu call f) ih) (fun f _ ih=>sn (Cu call f) ih) (fun s f _ ih=>ck (cf s) (Cu call f) ih) r
def kM(call:cY)(n:Nat)(c:ou):wy:=
 ou.rec (fun r=>ah (GF call r)) bf (fun _ _ a b=>af a b) (fun c _ _ a b=>aI (cf c) a b) (fun id _ b=>cH id b) (fun _ b=>fh n b) (fun i=>fq i) bg zC c
def cQ.fb(b:cQ):Fb:=⟨b.ntmps,b.res,fun call n=>kM call n b.code⟩
namespace X
abbrev oC(v:AV):Od:=.c v
abbrev oT(i:Nat):Od:=.t i
abbrev oX:Od:=.zz
abbrev wO(o:Od):Od:=.w o
abbrev aa:=j5.mv
abbrev aS:=j5.pk
abbrev dB:=j5.nw
abbrev dr:=j5.bx
abbrev aq:=j5.bd
abbrev bH:=j5.rw
abbrev bc:=j5.ld
abbrev aA:=j5.sto
abbrev aD:=j5.nl
abbrev ae:=j5.bn
abbrev cE:=j5.un
abbrev nH:=j5.bys
abbrev Lw:=j5.fn
abbrev lO:=j5.mk
abbrev dG:=j5.slS
abbrev cB:=j5.slN
abbrev gq:=j5.slA
abbrev ab:=j5.fa
abbrev lP:=j5.fd
abbrev bt:=j5.ixS
abbrev oB:=j5.ixA
abbrev kF:=j5.ix
abbrev cC:=j5.ixT
abbrev aL:=j5.ex
abbrev jf:=j5.lnT
abbrev aT:=j5.ln
abbrev aQ:=j5.ap
abbrev n9:=j5.apZ
abbrev qU:=j5.apS
abbrev qb:=j5.mrk
abbrev jL:=j5.cpy
abbrev uW:=j5.emp
abbrev sD:=j5.min
abbrev wD:=j5.max
abbrev E7:=j5.map
abbrev qS:=j5.cap
abbrev cq:=j5.bad
abbrev aj(_:Unit)(f:FuncId)(args:List Od):=j5.call f args
abbrev gH(_:Unit)(f:Od)(args:List Od):=j5.callV f args
abbrev gF:=j5.gd
abbrev mn:=j5.mn
abbrev fi:=wM.fi
abbrev st:=wM.st
abbrev sn:=wM.sn
abbrev ck:=wM.ck
abbrev ah:=ou.rg
abbrev bf:=ou.sk
abbrev af:=ou.sq
abbrev aI:=ou.Wc
abbrev cH:=ou.bl
abbrev fh(_:Unit)(b:ou):=ou.lp b
abbrev fq:=ou.ex
abbrev bg:=ou.rt
abbrev zC:=ou.bad
abbrev aY:=BF.add
abbrev dk:=BF.sub
abbrev iy:=BF.mul
abbrev qQ:=BF.quo
abbrev p':=BF.rem
abbrev dO:=BF.and
abbrev kb:=BF.or
abbrev w6:=BF.xor
abbrev nG:=BF.andNot
abbrev iU:=BF.shl
abbrev dY:=BF.shr
abbrev aX:=BF.lss
abbrev dL:=BF.leq
abbrev dN:=BF.gtr
abbrev cA:=BF.geq
abbrev ak:=BF.eqI
abbrev xU:=BF.WK
abbrev uS:=BF.QC
abbrev kW:=BF.eqP
abbrev kX:=BF.eqN
abbrev BS:=BF.mf
abbrev gC:=UF.not
abbrev xV:=UF.neg
abbrev E6:=UF.xor
abbrev aP:=UF.int
abbrev bu(n:Nat)(r:List RV)(b:Unit->Unit->ou):cQ:=⟨n,r,b () ()⟩
end X
end Go.Ab
