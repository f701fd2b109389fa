import Derived.Test.YtcnkojgmochcgaaGreatDoorLfD7
noncomputable section
namespace Go.Ab
namespace Lf
section
variable {call:o7}{cr:cx}(C:w8 call cr)
include C
theorem TP(o:nT):og (sOp call o) (fun n d=>Kj (cr n d) o):=by
 have h0:=fun o=>Zk C o
 have ho:=h0 o
 cases o with
 |gd j w f=>
  have hw:=KH (h0 f) j w
  cases f with
  |mn f=>
   have hw:=KH (KG (h0 f)) j w
   exact hw
  | _=>exact hw
 |mn f=>
  have hw:=KG (h0 f)
  cases f with
  |gd j w f=>exact KG (KH (h0 f) j w)
  | _=>exact hw
 | _=>exact ho
def ai0(f:Tq->Hq->T (Tq×Hq))(g:Nat->Nat->tH):Prop:= ∀ (E:En) (T:Tq) (t:Tm) (H:Hq) (h:Hp) (T':Tq) (H':Hq),TV E H.next T t->SR E H h->(f T H).val=some (T',H')->
 ∃ t' h' E',Ev (fun n d=>g n d t h) (.ok t' h')/\Nx E E' H H' h h'/\SR E' H' h'/\TV E' H'.next T' t'
theorem TQ(r:xk):ai0 (AM call r) (fun n d=>QU (cr n d) r):=by
 induction r with
 |fi=>intro E T t H h T' H' hT hH e;cases e;exact⟨t,h,E,Ev.const rfl,Nx.refl _ _ _,hH,hT⟩
 |st i f k ih=>
  intro E T t H h T' H' hT hH e
  change (bif Nat.blt i 512 then(sOp call f T H).bd fun p=>AM call k (p.2.1.put i (some p.1)) p.2.2 else .bad).val=some (T',H')at e
  obtain⟨hi,e⟩:=nL e
  obtain⟨⟨v,T1,H1⟩,e1,e2⟩:=Lf.T.mZ e
  obtain⟨c,h1,E1,k1,X1,S1,w1,xW⟩:=TP C f E T t H h v T1 H1 hT hH e1
  obtain⟨t2,h2,E2,k2,X2,S2,Xd⟩:=ih E1 _ (t.put i (some c)) H1 h1 T' H' (xW.put (cM.1 hi) w1) S1 e2
  refine⟨t2,h2,E2,k1.aeF k2 fun n d q1 q2=>?_,X1.trans X2,S2,Xd⟩
  show(Go.Ab.Ro.rec Go.Ab.Rt.bad (fun v h=>QU (cr n d) k (sT i v t) h) (Kj (cr n d) f t h):Go.Ab.Rt)=_
  try dsimp only at q1
  rw[q1]
  exact q2
 |sn f k ih=>
  intro E T t H h T' H' hT hH e
  change ((sOp call f T H).bd fun p=>AM call k p.2.1 p.2.2).val=some (T',H')at e
  obtain⟨⟨v,T1,H1⟩,e1,e2⟩:=Lf.T.mZ e
  obtain⟨c,h1,E1,k1,X1,S1,w1,xW⟩:=TP C f E T t H h v T1 H1 hT hH e1
  obtain⟨t2,h2,E2,k2,X2,S2,Xd⟩:=ih E1 _ t H1 h1 T' H' xW S1 e2
  refine⟨t2,h2,E2,k1.aeF k2 fun n d q1 q2=>?_,X1.trans X2,S2,Xd⟩
  show(Go.Ab.Ro.rec Go.Ab.Rt.bad (fun v h=>QU (cr n d) k t h) (Kj (cr n d) f t h):Go.Ab.Rt)=_
  try dsimp only at q1
  rw[q1]
  exact q2
 |ck s f k ih=>
  intro E T t H h T' H' hT hH e
  have fin: ∀ (F:Nat->Nat->nY) (y z:AV),(∀ n d,F n d t h=.ok y h)->cI s t=some z->tD z y=true->(AM call k T H).val=some (T',H')-> ∃ t' h' E',Ev (fun n d=>Go.Ab.ck (cI s) (F n d) (QU (cr n d) k) t h) (.ok t' h')/\Nx E E' H H' h h'/\SR E' H' h'/\TV E' H'.next T' t':=by
   intro F y z hF hz hs e
   obtain⟨t2,h2,E2,k2,X2,S2,Xd⟩:=ih E T t H h T' H' hT hH e
   refine⟨t2,h2,E2,k2.xJ fun n d q=>?_,X2,S2,Xd⟩
   show(Go.Ab.Ro.rec Go.Ab.Rt.bad (fun v _=>Option.rec Go.Ab.Rt.bad (fun u=>Bool.rec Go.Ab.Rt.bad (QU (cr n d) k t h) (tD u v)) (cI s t)) (F n d t h):Go.Ab.Rt)=_
   rw[hF,hz]
   simp only[hs]
   exact q
  have ldc: ∀ {sz:Nat} {g:Bool} {a:Od},(HI s sz g a T H (AM call k T H)).val=some (T',H')-> ∃ y z,rL sz g (cI a) t h=.ok y h/\cI s t=some z/\tD z y=true/\(AM call k T H).val=some (T',H'):=by
   intro sz g a e
   unfold HI at e
   split at e
   ·rename_i p hp
    split at e
    ·rename_i v hv
     split at e
     ·rename_i u hu
      split at e
      ·rename_i c hc
       obtain⟨oN,e⟩:=tl e
       obtain⟨x,hx,So⟩:=cG hT hp
       obtain⟨y,hy,X7⟩:=CA hH So hv
       obtain⟨z,hz,Aq⟩:=cG hT hu
       have hs:=CC Aq X7 hc oN
       exact⟨y,z,by unfold rL;rw[hx];simp only[hy],hz,hs,e⟩
      ·cases e
     ·cases e
    ·cases e
   ·cases e
  have unc:(DF s T (AM call k T H)).val=some (T',H')-> ∃ z,cI s t=some z/\tD z pz=true/\(AM call k T H).val=some (T',H'):=by
   intro e
   unfold DF at e
   split at e
   ·rename_i hu
    obtain⟨z,hz,Aq⟩:=cG hT hu
    cases Aq with
    |tu q=>cases q;exact⟨_,hz,by kernel_rfl,e⟩
   ·cases e
  cases f with
  |ld sz g a=>
   obtain⟨y,z,h1,h2,h3,h4⟩:=ldc e
   exact fin (fun _ _=>rL sz g (cI a)) y z (fun _ _=>h1) h2 h3 h4
  |slN sz a lo hi=>
   change (Te s sz a lo hi T H (AM call k T H)).val=some (T',H')at e
   unfold Te at e
   obtain⟨⟨v,T1,H1⟩,e1,e2⟩:=Lf.T.mZ e
   obtain⟨_,_,y,hy,X7⟩:=HP sz a lo hi E T t H h v T1 H1 hT hH e1
   split at e2
   ·rename_i u hu
    split at e2
    ·rename_i c hc
     obtain⟨oN,e2⟩:=tl e2
     obtain⟨z,hz,Aq⟩:=cG hT hu
     exact fin (fun _ _=>oE sz (cI a) (lo.map cI) (hi.map cI)) y z (fun _ _=>hy) hz (CC Aq X7 hc oN) e2
    ·cases e2
   ·cases e2
  |slA n sz a lo hi=>
   change (Tf s n sz a lo hi T H (AM call k T H)).val=some (T',H')at e
   unfold Tf at e
   obtain⟨⟨v,T1,H1⟩,e1,e2⟩:=Lf.T.mZ e
   obtain⟨_,_,y,hy,X7⟩:=HQ n sz a lo hi E T t H h v T1 H1 hT hH e1
   split at e2
   ·rename_i u hu
    split at e2
    ·rename_i c hc
     obtain⟨oN,e2⟩:=tl e2
     obtain⟨z,hz,Aq⟩:=cG hT hu
     exact fin (fun _ _=>pP n sz (cI a) (lo.map cI) (hi.map cI)) y z (fun _ _=>hy) hz (CC Aq X7 hc oN) e2
    ·cases e2
   ·cases e2
  |gd j w f=>
   cases f with
   |ld sz g a=>
    change (match qM j T with
     |some (.b c)=>bif (bif w then c else !c)then HI s sz g a T H (AM call k T H)else DF s T (AM call k T H)
     |some (.tu [])=>DF s T (AM call k T H)
     | _=>.bad:Lf.T (Tq×Hq)).val=some (T',H')at e
    split at e
    ·rename_i c hj
     obtain⟨q,hq,hqv⟩:=cG hT hj
     cases hqv
     cases hc:(bif w then c else !c)with
     |true=>
      rw[hc]at e
      obtain⟨y,z,h1,h2,h3,h4⟩:=ldc e
      refine fin (fun _ _=>gF (cI j) w (rL sz g (cI a))) y z (fun _ _=>?_) h2 h3 h4
      unfold gF
      rw[hq]
      cases w<;>cases c<;>first|(cases hc;done)|exact h1
     |false=>
      rw[hc]at e
      obtain⟨z,h2,h3,h4⟩:=unc e
      refine fin (fun _ _=>gF (cI j) w (rL sz g (cI a))) pz z (fun _ _=>?_) h2 h3 h4
      unfold gF
      rw[hq]
      cases w<;>cases c<;>first|(cases hc;done)|rfl
    ·rename_i hj
     obtain⟨q,hq,hqv⟩:=cG hT hj
     cases hqv with
     |tu qq=>
      cases qq
      obtain⟨z,h2,h3,h4⟩:=unc e
      refine fin (fun _ _=>gF (cI j) w (rL sz g (cI a))) pz z (fun _ _=>?_) h2 h3 h4
      unfold gF
      rw[hq]
    ·cases e
   | _=>cases e
  | _=>cases e
omit C in
theorem qX{v w:Sv}{t t':Tq}{h h':Hq}(e:(okV v t h).val=some (w,t',h')):h'=h:=(cB e).2.2
omit C in
theorem wh{v:Option Sv}{w:Sv}{t t':Tq}{h h':Hq}(e:(okO v t h).val=some (w,t',h')):h'=h:=(tp e).2.2
omit C in
theorem FU{j:Od}{T0 T':Tq}{a b:Tq->T (Sv×Tq×Hq)}{v:Sv}{H H':Hq}(ha: ∀ t,(a t).val=some (v,T',H')->H'=H)(hb: ∀ t,(b t).val=some (v,T',H')->H'=H)(e:(xF j T0 a b).val=some (v,T',H')):H'=H:=by
 unfold xF at e
 split at e
 ·rename_i i
  cases D4:Nat.blt i 512 with
  |false=>rw[D4]at e;cases e
  |true=>
   rw[D4]at e
   simp only[cond_true]at e
   split at e
   ·rename_i c _
    cases c with
    |true=>exact ha _ e
    |false=>exact hb _ e
   ·rename_i m x _
    rw[Lf.T.wb]at e
    cases x with
    |true=>exact ha _ e
    |false=>exact hb _ e
   ·cases e
 ·rename_i c
  cases c with
  |true=>exact ha _ e
  |false=>exact hb _ e
 ·cases e
omit C in
theorem FV{o:nT}(hp:ue o=true)(hg: ∀ j w f,o≠ .gd j w f){T0 T':Tq}{H H':Hq}{v:Sv}(e:(Ct call o T0 H).val=some (v,T',H')):H'=H:=by
 cases o<;>first|(cases hp;done)|exact(hg _ _ _ rfl).elim|skip
 case mv=>exact wh e
 case pk=>exact FU (a:=fun t=>Cq _ t H) (b:=fun t=>Cq _ t H) (fun _ e=>wh e) (fun _ e=>wh e) e
 all_goals
  simp only[Ct]at e
  first
   |unfold Ng at e
   |unfold Nh at e
   |unfold YJ at e
   |unfold sUn at e
   |unfold u6 at e
   |unfold FD at e
   |unfold YK at e
   |unfold YL at e
   |unfold FG at e
   |unfold Bg at e
   |unfold yF at e
   |unfold mQ at e
   |unfold Ni at e
   |unfold Kq at e
  repeat' split at e
  all_goals first
   |(cases e;done)
   |exact qX e
   |exact wh e
   |exact qX (Lf.T.cP e).2
   |(obtain⟨_,_,e2⟩:=Lf.T.mZ e;exact qX e2)
   |(obtain⟨_,e⟩:=nL e;obtain⟨_,_,_,e2⟩:=wG e;exact qX e2)
   |(obtain⟨_,e⟩:=nL e;first|exact qX e|exact wh e|exact qX (Lf.T.cP e).2)
   |skip
omit C in
theorem TS{o:nT}(hp:ue o=true){T0 T':Tq}{H H':Hq}{v:Sv}(e:(sOp call o T0 H).val=some (v,T',H')):H'=H:=by
 cases o with
 |gd j w f=>
  have hf:ue f=true/\(∀ j w g,f≠ .gd j w g)/\ ∀ g,f≠ .mn g:=by
   cases f<;>first|(cases hp;done)|exact⟨hp,fun _ _ _=>(by intro h;cases h),fun _=>(by intro h;cases h)⟩
  have e':(sGd j w (Ct call f) T0 H).val=some (v,T',H'):=by
   cases f<;>first|exact e|exact(hf.2.2 _ rfl).elim
  unfold sGd at e'
  split at e'
  ·exact qX e'
  ·cases w with
   |true=>exact FU (a:=fun t=>Ct call f t H) (b:=fun t=>okV wa t H) (fun _ e=>FV hf.1 hf.2.1 e) (fun _ e=>qX e) e'
   |false=>exact FU (a:=fun t=>okV wa t H) (b:=fun t=>Ct call f t H) (fun _ e=>qX e) (fun _ e=>FV hf.1 hf.2.1 e) e'
 |mn f=>cases hp
 | _=>first|(cases hp;done)|exact FV (call:=call) (T0:=T0) hp (fun _ _ _ h=>by cases h) e
omit C in
theorem Zm{r:xk}(hp:Cu r=true): ∀ {T0 T':Tq} {H H':Hq},(AM call r T0 H).val=some (T',H')->H'=H:=by
 induction r with
 |fi=>intro T0 T' H H' e;cases e;rfl
 |st i f k ih=>
  intro T0 T' H H' e
  have hp:(bif ue f then Cu k else false)=true:=hp
  cases hf:ue f with
  |false=>rw[hf]at hp;cases hp
  |true=>
   rw[hf]at hp
   change (bif Nat.blt i 512 then(sOp call f T0 H).bd fun p=>AM call k (p.2.1.put i (some p.1)) p.2.2 else .bad).val=some (T',H')at e
   obtain⟨_,e⟩:=nL e
   obtain⟨⟨v,T1,H1⟩,e1,e2⟩:=Lf.T.mZ e
   rw[ih hp e2]
   exact TS hf e1
 |sn f k ih=>
  intro T0 T' H H' e
  have hp:(bif ue f then Cu k else false)=true:=hp
  cases hf:ue f with
  |false=>rw[hf]at hp;cases hp
  |true=>
   rw[hf]at hp
   change ((sOp call f T0 H).bd fun p=>AM call k p.2.1 p.2.2).val=some (T',H')at e
   obtain⟨⟨v,T1,H1⟩,e1,e2⟩:=Lf.T.mZ e
   rw[ih hp e2]
   exact TS hf e1
 |ck s f k ih=>
  intro T0 T' H H' e
  have ldc: ∀ {sz:Nat} {g:Bool} {a:Od},(HI s sz g a T0 H (AM call k T0 H)).val=some (T',H')->H'=H:=by
   intro sz g a e
   unfold HI at e
   split at e
   ·split at e
    ·split at e
     ·split at e
      ·obtain⟨_,e⟩:=tl e
       exact ih hp e
      ·cases e
     ·cases e
    ·cases e
   ·cases e
  have unc:(DF s T0 (AM call k T0 H)).val=some (T',H')->H'=H:=by
   intro e
   unfold DF at e
   split at e
   ·exact ih hp e
   ·cases e
  cases f with
  |ld sz g a=>exact ldc e
  |slN sz a lo hi=>
   change (Te s sz a lo hi T0 H (AM call k T0 H)).val=some (T',H')at e
   unfold Te at e
   obtain⟨⟨v,T1,H1⟩,e1,e2⟩:=Lf.T.mZ e
   split at e2
   ·split at e2
    ·obtain⟨_,e2⟩:=tl e2
     exact ih hp e2
    ·cases e2
   ·cases e2
  |slA n sz a lo hi=>
   change (Tf s n sz a lo hi T0 H (AM call k T0 H)).val=some (T',H')at e
   unfold Tf at e
   obtain⟨⟨v,T1,H1⟩,e1,e2⟩:=Lf.T.mZ e
   split at e2
   ·split at e2
    ·obtain⟨_,e2⟩:=tl e2
     exact ih hp e2
    ·cases e2
   ·cases e2
  |gd j w f=>
   cases f with
   |ld sz g a=>
    change (match qM j T0 with
     |some (.b c)=>bif (bif w then c else !c)then HI s sz g a T0 H (AM call k T0 H)else DF s T0 (AM call k T0 H)
     |some (.tu [])=>DF s T0 (AM call k T0 H)
     | _=>.bad:Lf.T (Tq×Hq)).val=some (T',H')at e
    split at e
    ·rename_i c hj
     cases hc:(bif w then c else !c)with
     |true=>rw[hc]at e;exact ldc e
     |false=>rw[hc]at e;exact unc e
    ·exact unc e
    ·cases e
   | _=>cases e
  | _=>cases e
omit C in
theorem P1{c:mS}{r:xk}: ∀ {t t':Tm} {h h':Hp},oD (fun i=>Nat.blt i 512) (Cv r)=true->QU c r t h=.ok t' h'-> ∀ i,i<512->i∉Cv r->t'.at i=t.at i:=by
 induction r with
 |fi=>intro t t' h h' _ e i _ _;cases e;rfl
 |st j f k ih=>
  intro t t' h h' hb e i hi hn
  have hb:(bif Nat.blt j 512 then oD (fun i=>Nat.blt i 512) (Cv k)else false)=true:=hb
  cases hj:Nat.blt j 512 with
  |false=>rw[hj]at hb;cases hb
  |true=>
   rw[hj]at hb
   have Y7:i∉j::Cv k:=hn
   change (Go.Ab.Ro.rec Go.Ab.Rt.bad (fun v h=>QU c k (sT j v t) h) (Kj c f t h):Go.Ab.Rt)=.ok t' h' at e
   cases ha:Kj c f t h with
   |bad=>rw[ha]at e;cases e
   |ok v h1=>
    rw[ha]at e
    rw[ih hb e i hi fun q=>Y7 (List.mem_cons_of_mem _ q)]
    show(t.put j (some v)).at i=_
    rw[Tm.qy _ _ _ _ (cM.1 hj) hi,if_neg fun q=>Y7 (by rw[q];exact List.mem_cons_self)]
 |sn f k ih=>
  intro t t' h h' hb e i hi hn
  change (Go.Ab.Ro.rec Go.Ab.Rt.bad (fun v h=>QU c k t h) (Kj c f t h):Go.Ab.Rt)=.ok t' h' at e
  cases ha:Kj c f t h with
  |bad=>rw[ha]at e;cases e
  |ok v h1=>rw[ha]at e;exact ih hb e i hi hn
 |ck s f k ih=>
  intro t t' h h' hb e i hi hn
  change (Go.Ab.Ro.rec Go.Ab.Rt.bad (fun v _=>Option.rec Go.Ab.Rt.bad (fun u=>Bool.rec Go.Ab.Rt.bad (QU c k t h) (tD u v)) (cI s t)) (Kj c f t h):Go.Ab.Rt)=.ok t' h' at e
  cases ha:Kj c f t h with
  |bad=>rw[ha]at e;cases e
  |ok v h1=>
   rw[ha]at e
   cases hs:cI s t with
   |none=>rw[hs]at e;cases e
   |some u=>
    rw[hs]at e
    simp only at e
    cases hq:tD u v with
    |false=>rw[hq]at e;cases e
    |true=>rw[hq]at e;exact ih hb e i hi hn
omit C in
theorem FW{E:En}{N:Nat}{c:Bool}{v w u:Sv}{a:AV}(e:mgV c v w=some u)(hv:V E N (bif c then v else w) a):V E N u a:=by
 have SN:(match toN v,toN w with
  |some (k,x),some (k',y)=>bif qp k k' then some (Sv.c 0 (.int k) (bif c then x else y))else none
  | _,_=>match toB v,toB w with
   |some x,some y=>some (.c 0 .bool (bif c then x.v else y.v))
   | _,_=>none)=some u->V E N u a:=by
  intro e
  split at e
  ·rename_i k x k' y h1 h2
   obtain⟨hk,e⟩:=cR e
   cases e
   have:=oc.1 hk;subst this
   cases c with
   |true=>rw[pE hv h1];exact oJ
   |false=>rw[pE hv h2];exact oJ
  ·split at e
   ·rename_i x y h1 h2
    cases e
    cases c with
    |true=>rw[pM hv h1];exact sN
    |false=>rw[pM hv h2];exact sN
   ·cases e
 unfold mgV at e
 split at e
 ·rename_i x y
  cases x<;>cases y<;>cases c<;>cases e<;>cases hv<;>first|exact .b|exact sN
 ·obtain⟨h,e⟩:=cR e
  cases e
  have:=Bb _ _ h;subst this
  cases c<;>exact hv
 ·obtain⟨h,e⟩:=cR e
  cases e
  rw[Bool.and_eq_true]at h
  have h1:=beq_true h.1;have h2:=beq_true h.2
  subst h1;subst h2
  cases c<;>exact hv
 ·obtain⟨h,e⟩:=cR e
  cases e
  rw[Bool.and_eq_true]at h
  have h1:=beq_true h.1;have h2:=beq_true h.2
  subst h1;subst h2
  cases c<;>exact hv
 ·split at e
  ·rename_i p _
   cases p
   cases e
   cases c with
   |true=>cases hv with
    |c k _=>exact .c k fun h=>(h rfl).elim
   |false=>cases hv with
    |c k _=>exact .c k fun h=>(h rfl).elim
  ·cases e
 ·rename_i k x k' y
  have h:=(cR e).1
  replace e:=(cR e).2
  have:=oc.1 h;subst this
  cases hb:eqI x y with
  |true=>
   rw[hb]at e;cases e
   have:=oU.1 hb;subst this
   cases c<;>exact hv
  |false=>
   rw[hb]at e;cases e
   cases c<;>cases hv<;>exact oJ
 ·exact SN e
omit C in
theorem TT{E:En}{N:Nat}{c:Bool}{a b T0:Tq}{t':Tm}(ht:TV E N (bif c then a else b) t'): ∀ {Dk:List Nat},oD (fun i=>Nat.blt i 512) Dk=true->(∀ i v,i<512->i∉Dk->T0.at i=some v-> ∃ x,t'.at i=some x/\V E N v x)->TV E N (mgT Dk c T0 a b) t'
 | [],_,h0=>fun i v hi hv=>h0 i v hi (by simp) hv
 |j::Dk,hb,h0=>by
  have hb:(bif Nat.blt j 512 then oD (fun i=>Nat.blt i 512) Dk else false)=true:=hb
  cases hj:Nat.blt j 512 with
  |false=>rw[hj]at hb;cases hb
  |true=>
   rw[hj]at hb
   have key: ∀ i v,i<512->i≠j->(mgT Dk c T0 a b).at i=some v-> ∃ x,t'.at i=some x/\V E N v x:=by
    intro i v hi xg hv
    have gen: ∀ {l:List Nat},oD (fun i=>Nat.blt i 512) l=true->(∀ q,q∈l->q∈Dk)->(mgT l c T0 a b).at i=some v->(i∈l/\mgO c (a.at i) (b.at i)=some v)∨(i∉l/\T0.at i=some v):=by
     intro l
     induction l with
     |nil=>intro _ _ e;exact .inr ⟨by simp,e⟩
     |cons q l ih=>
      intro hl hs e
      have hl:(bif Nat.blt q 512 then oD (fun i=>Nat.blt i 512) l else false)=true:=hl
      cases hq:Nat.blt q 512 with
      |false=>rw[hq]at hl;cases hl
      |true=>
       rw[hq]at hl
       change ((mgT l c T0 a b).put q (mgO c (a.at q) (b.at q))).at i=some v at e
       rw[Tq.qy _ _ _ _ (cM.1 hq) hi]at e
       split at e
       ·rename_i e';subst e';exact .inl ⟨List.mem_cons_self,e⟩
       ·rename_i ne
        rcases ih hl (fun q hq=>hs q (List.mem_cons_of_mem _ hq)) e with⟨k1,k2⟩|⟨k1,k2⟩
        ·exact .inl ⟨List.mem_cons_of_mem _ k1,k2⟩
        ·exact .inr ⟨fun h=>(List.mem_cons.1 h).elim ne k1,k2⟩
    rcases gen hb (fun _ h=>h) hv with⟨_,k⟩|⟨k1,k2⟩
    ·unfold mgO at k
     split at k
     ·split at k
      ·rename_i _ v1 h1 _ v2 h2
       cases c with
       |true=>
        obtain⟨x,x1,x2⟩:=ht i v1 hi h1
        exact⟨x,x1,FW k x2⟩
       |false=>
        obtain⟨x,x1,x2⟩:=ht i v2 hi h2
        exact⟨x,x1,FW k x2⟩
      ·cases k
     ·cases k
    ·exact h0 i v hi (fun h=>(List.mem_cons.1 h).elim xg k1) k2
   intro i v hi hv
   change ((mgT Dk c T0 a b).put j (mgO c (a.at j) (b.at j))).at i=some v at hv
   rw[Tq.qy _ _ _ _ (cM.1 hj) hi]at hv
   split at hv
   ·rename_i e;subst e
    unfold mgO at hv
    split at hv
    ·split at hv
     ·rename_i _ v1 h1 _ v2 h2
      cases c with
      |true=>
       obtain⟨x,x1,x2⟩:=ht i v1 hi h1
       exact⟨x,x1,FW hv x2⟩
      |false=>
       obtain⟨x,x1,x2⟩:=ht i v2 hi h2
       exact⟨x,x1,FW hv x2⟩
     ·cases hv
    ·cases hv
   ·rename_i ne;exact key i v hi ne hv
omit C in
theorem LB.aeG(c:Bool)(x y:LB):(LB.cond c x y).v=bif c then x.v else y.v:=by
 cases x with
 |l x=>cases x<;>cases y with
  |l y=>cases y<;>cases c<;>rfl
  |t y=>rfl
 |t x=>cases y<;>rfl
omit C in
theorem aeH{Dk:List Nat}(hb:oD (fun i=>Nat.blt i 512) Dk=true){T0:Tq}{x:T (Tq×Hq)}(h:(mgR Dk T0 x).1.v=true): ∃ p,x.val=some p/\ ∀ (E:En) (N:Nat) (t':Tm),TV E N p.1 t'->(∀ i v,i<512->i∉Dk->T0.at i=some v-> ∃ a,t'.at i=some a/\V E N v a)->TV E N (mgR Dk T0 x).2 t':=by
 induction x with
 |bad=>cases h
 |ok p=>exact⟨p,rfl,fun E N t' h1 _=>h1⟩
 |br c a b xr BG=>
  have h':(bif c then(mgR Dk T0 a).1.v else(mgR Dk T0 b).1.v)=true:=by
   have h1:(LB.cond c (mgR Dk T0 a).1 (mgR Dk T0 b).1).v=true:=h
   rwa [LB.aeG]at h1
  cases c with
  |true=>
   obtain⟨p,p1,p2⟩:=xr h'
   exact⟨p,p1,fun E N t' h1 h2=>TT (c:=true) (p2 E N t' h1 h2) hb h2⟩
  |false=>
   obtain⟨p,p1,p2⟩:=BG h'
   exact⟨p,p1,fun E N t' h1 h2=>TT (c:=false) (p2 E N t' h1 h2) hb h2⟩
 |ck c a ih=>
  have h1:(LB.and (.t c) (mgR Dk T0 a).1).v=true:=h
  rw[LB.Tu,Bool.and_eq_true]at h1
  obtain⟨p,p1,p2⟩:=ih h1.2
  have hc:c=true:=h1.1
  subst hc
  exact⟨p,p1,p2⟩
theorem Zn(r:xk):ai0 (YO call r) (fun n d=>QU (cr n d) r):=by
 intro E T0 t H h T' H' hT hH e
 unfold YO at e
 cases hp:(Cu r&&oD (fun i=>Nat.blt i 512) (Cv r))with
 |false=>rw[hp]at e;exact TQ C r E T0 t H h T' H' hT hH e
 |true=>
  rw[hp]at e
  rw[Bool.and_eq_true]at hp
  simp only[cond_true]at e
  obtain⟨h1,e⟩:=tl e
  cases e
  obtain⟨⟨T1,H1⟩,p1,p2⟩:=aeH hp.2 h1
  have hH1:H1=H:=Zm hp.1 p1
  subst hH1
  obtain⟨t',h',E',k,X,S,QV⟩:=TQ C r E T0 t H1 h T1 H1 hT hH p1
  refine⟨t',h',E',k,X,S,p2 E' H1.next t' QV fun i v hi hn hv=>?_⟩
  obtain⟨a,ha,CB⟩:=hT i v hi hv
  obtain⟨M,k⟩:=k
  have k':=k M M (Nat.le_refl _) (Nat.le_refl _)
  dsimp only at k'
  exact⟨a,by rw[P1 hp.2 k' i hi hn];exact ha,CB.mono X.e X.le⟩
structure Ox(E E':En)(H H':Hq)(h h':Hp):Prop where
 A:E'.A=E.A
 G:YP E.G E'.G
 FJ:h.next<=h'.next
 ow: ∀ r id,own H' r->r9 (E'.K r).av=some id->(∃ r0,own H r0/\r9 (E.K r0).av=some id)∨h.next<=id
 gw: ∀ id row,E'.G id=some row->E.G id=some row∨(∃ r0,own H r0/\r9 (E.K r0).av=some id)∨h.next<=id
 fr: ∀ id,id<h.next->(∀ r,own H r->r9 (E.K r).av≠some id)->h'.cw.get id=h.cw.get id
omit C in
theorem Nx.ox{E E':En}{H H':Hq}{h h':Hp}(X:Nx E E' H H' h h'):Ox E E' H H' h h':=⟨X.e.A,X.e.G,X.FJ,X.ow,X.gw,X.fr⟩
omit C in
theorem Ox.trans{E E1 E2:En}{H H1 H2:Hq}{h h1 h2:Hp}(a:Ox E E1 H H1 h h1)(b:Ox E1 E2 H1 H2 h1 h2):Ox E E2 H H2 h h2 where
 A:=b.A.trans a.A
 G id row e:=b.G id row (a.G id row e)
 FJ:=Nat.le_trans a.FJ b.FJ
 ow r id k e:=by
  rcases b.ow r id k e with⟨r0,k0,e0⟩|k0
  ·exact a.ow r0 id k0 e0
  ·exact .inr (Nat.le_trans a.FJ k0)
 gw id row e:=by
  rcases b.gw id row e with k|⟨r0,k0,e0⟩|k
  ·exact a.gw id row k
  ·rcases a.ow r0 id k0 e0 with k|k
   ·exact .inr (.inl k)
   ·exact .inr (.inr k)
  ·exact .inr (.inr (Nat.le_trans a.FJ k))
 fr id hi hn:=by
  rw[b.fr id (Nat.lt_of_lt_of_le hi a.FJ) fun r k e=>?_,a.fr id hi hn]
  rcases a.ow r id k e with⟨r0,k0,e0⟩|k0
  ·exact hn r0 k0 e0
  ·omega
structure Rx where
 X:En->En->Hq->Hq->Hp->Hp->Prop
 of: ∀ {E E':En} {H H':Hq} {h h':Hp},Nx E E' H H' h h'->X E E' H H' h h'
 tr: ∀ {E E1 E2:En} {H H1 H2:Hq} {h h1 h2:Hp},X E E1 H H1 h h1->X E1 E2 H1 H2 h1 h2->X E E2 H H2 h h2
def Rx.s:Rx:=⟨Nx,fun X=>X,Nx.trans⟩
def Rx.w:Rx:=⟨Ox,Nx.ox,Ox.trans⟩
def OcR(R:Rx)(E:En)(H:Hq)(h:Hp):Oc->Go.Ab.Rc->Prop
 | .norm T' H',.norm t' h'=> ∃ E',R.X E E' H H' h h'/\SR E' H' h'/\TV E' H'.next T' t'
 | .ret T' H',.ret t' h'=> ∃ E',R.X E E' H H' h h'/\SR E' H' h'/\TV E' H'.next T' t'
 | .exit i T' H',.exit j t' h'=>i=j/\ ∃ E',R.X E E' H H' h h'/\SR E' H' h'/\TV E' H'.next T' t'
 | _,_=>False
def rQ(R:Rx)(f:rk)(g:Nat->Nat->Dh):Prop:= ∀ (E:En) (T:Tq) (t:Tm) (H:Hq) (h:Hp) (o:Oc),TV E H.next T t->SR E H h->(f T H).val=some o->
 ∃ r,Ev (fun n d=>g n d t h) r/\OcR R E H h o r
omit C in
theorem OcR.norm{R:Rx}{E:En}{H:Hq}{h:Hp}{T':Tq}{H':Hq}{r:Go.Ab.Rc}(k:OcR R E H h (.norm T' H') r): ∃ t' h' E',r=.norm t' h'/\R.X E E' H H' h h'/\SR E' H' h'/\TV E' H'.next T' t':=by
 cases r with
 |norm t' h'=>obtain⟨E',a,b,c⟩:=k;exact⟨t',h',E',rfl,a,b,c⟩
 | _=>exact k.elim
omit C in
theorem OcR.trans{R:Rx}{E E1:En}{H H1:Hq}{h h1:Hp}(X:R.X E E1 H H1 h h1){o:Oc}{r:Go.Ab.Rc}(k:OcR R E1 H1 h1 o r):OcR R E H h o r:=by
 cases o<;>cases r<;>first|exact k.elim|skip
 ·obtain⟨E',a,b,c⟩:=k;exact⟨E',R.tr X a,b,c⟩
 ·obtain⟨E',a,b,c⟩:=k;exact⟨E',R.tr X a,b,c⟩
 ·obtain⟨e,E',a,b,c⟩:=k;exact⟨e,E',R.tr X a,b,c⟩
def wL(R:Rx)(cr:cx)(L:Nat->Option rk):uq->Prop
 | .sq a b=>wL R cr L a/\wL R cr L b
 | .cif _ a b=>wL R cr L a/\wL R cr L b
 | .bl id b=>(match L id with|some f=>rQ R f (fun n d=>su (cr n d) n (.bl id b))|none=>True)/\wL R cr L b
 | .lp b=>wL R cr L b
 | _=>True
omit C in
theorem cD{R:Rx}{cr:cx}(c:uq):wL R cr (fun _=>none) c:=by
 induction c with
 |sq a b xr BG=>exact⟨xr,BG⟩
 |cif o a b xr BG=>exact⟨xr,BG⟩
 |bl id b ih=>exact⟨trivial,ih⟩
 |lp b ih=>exact ih
 | _=>trivial
def Ev3{α:Type}(p:Nat->Nat->Nat->α)(r:α):Prop:= ∃ M,∀ n d j,M<=n->M<=d->M<=j->p n d j=r
omit C in
theorem Ev3.diag{α:Type}{p:Nat->Nat->Nat->α}{r:α}(h:Ev3 p r):Ev (fun n d=>p n d n) r:=by
 obtain⟨M,h⟩:=h
 exact⟨M,fun n d a b=>h n d n a b a⟩
def Zo(j:Nat)(b:Dh):Dh:=Nat.rec (fun _ _=>.bad) (fun _ ih t h=>Rc.rec Rc.bad (fun t h=>ih t h) (fun t h=>Rc.ret t h) (fun i t h=>Rc.exit i t h) (b t h)) j
omit C in
theorem TU{R:Rx}{b:rk}{g:Nat->Nat->Dh}(hb:rQ R b g): ∀ (m:Nat) (E:En) (T:Tq) (t:Tm) (H:Hq) (h:Hp) (o:Oc),TV E H.next T t->SR E H h->
 ((Nat.rec (motive:=fun _=>rk) (fun _ _=>.bad) (fun _ ih t h=>PN (b t h) ih) m:rk) T H).val=some o-> ∃ r,Ev3 (fun n d j=>Zo j (g n d) t h) r/\OcR R E H h o r
 |0,_,_,_,_,_,_,_,_,e=>by cases e
 |m+1,E,T,t,H,h,o,hT,hH,e=>by
  change (PN (b T H) (Nat.rec (motive:=fun _=>rk) (fun _ _=>.bad) (fun _ ih t h=>PN (b t h) ih) m)).val=some o at e
  obtain⟨o1,e1,e2⟩:=Lf.T.mZ e
  obtain⟨r1,⟨M1,k1⟩,q1⟩:=hb E T t H h o1 hT hH e1
  cases o1 with
  |norm T1 H1=>
   obtain⟨t1,h1,E1,rfl,X,S1,xW⟩:=q1.norm
   obtain⟨r,⟨M2,k2⟩,q2⟩:=TU hb m E1 T1 t1 H1 h1 o xW S1 e2
   refine⟨r,⟨max M1 M2+1,fun n d j a b c=>?_⟩,q2.trans X⟩
   obtain⟨j',rfl⟩: ∃ j',j=j'+1:=⟨j - 1,by omega⟩
   show(Rc.rec Rc.bad (fun t h=>Zo j' (g n d) t h) (fun t h=>Rc.ret t h) (fun i t h=>Rc.exit i t h) (g n d t h):Go.Ab.Rc)=r
   have Eo:=k1 n d (by omega) (by omega)
   dsimp only at Eo
   rw[Eo]
   exact k2 n d j' (by omega) (by omega) (by omega)
  |ret T1 H1=>
   cases e2
   refine⟨r1,⟨M1+1,fun n d j a b c=>?_⟩,q1⟩
   obtain⟨j',rfl⟩: ∃ j',j=j'+1:=⟨j - 1,by omega⟩
   show(Rc.rec Rc.bad (fun t h=>Zo j' (g n d) t h) (fun t h=>Rc.ret t h) (fun i t h=>Rc.exit i t h) (g n d t h):Go.Ab.Rc)=r1
   have Eo:=k1 n d (by omega) (by omega)
   dsimp only at Eo
   rw[Eo]
   cases r1<;>first|rfl|exact q1.elim
  |exit i T1 H1=>
   cases e2
   refine⟨r1,⟨M1+1,fun n d j a b c=>?_⟩,q1⟩
   obtain⟨j',rfl⟩: ∃ j',j=j'+1:=⟨j - 1,by omega⟩
   show(Rc.rec Rc.bad (fun t h=>Zo j' (g n d) t h) (fun t h=>Rc.ret t h) (fun i t h=>Rc.exit i t h) (g n d t h):Go.Ab.Rc)=r1
   have Eo:=k1 n d (by omega) (by omega)
   dsimp only at Eo
   rw[Eo]
   cases r1<;>first|rfl|exact q1.elim
theorem KI{R:Rx}(m:Nat){L:Nat->Option rk}(c:uq)(hL:wL R cr L c):rQ R (sCd L call m c) (fun n d=>su (cr n d) n c):=by
 induction c with
 |rg r=>
  intro E T t H h o hT hH e
  have e':((YO call r T H).bd fun p=>Lf.T.ok (Oc.norm p.1 p.2)).val=some o:=e
  obtain⟨⟨T1,H1⟩,e1,e2⟩:=Lf.T.mZ e'
  cases e2
  obtain⟨t',h',E',k,X,S,QV⟩:=Zn C r E T t H h T1 H1 hT hH e1
  refine⟨.norm t' h',k.xJ fun n d q=>?_,E',R.of X,S,QV⟩
  show(Rt.rec Rc.bad (fun t h=>Rc.norm t h) (QU (cr n d) r t h):Go.Ab.Rc)=_
  try dsimp only at q
  rw[q]
 |sk=>intro E T t H h o hT hH e;cases e;exact⟨.norm t h,Ev.const rfl,E,R.of (Nx.refl _ _ _),hH,hT⟩
 |sq a b xr BG=>
  intro E T t H h o hT hH e
  have e':(PN (sCd L call m a T H) (sCd L call m b)).val=some o:=e
  obtain⟨o1,e1,e2⟩:=Lf.T.mZ e'
  obtain⟨r1,k1,q1⟩:=xr hL.1 E T t H h o1 hT hH e1
  cases o1 with
  |norm T1 H1=>
   obtain⟨t1,h1,E1,rfl,X,S1,xW⟩:=q1.norm
   obtain⟨r,k2,q2⟩:=BG hL.2 E1 T1 t1 H1 h1 o xW S1 e2
   refine⟨r,k1.aeF k2 fun n d p1 p2=>?_,q2.trans X⟩
   show(Rc.rec Rc.bad (fun t h=>su (cr n d) n b t h) (fun t h=>Rc.ret t h) (fun i t h=>Rc.exit i t h) (su (cr n d) n a t h):Go.Ab.Rc)=r
   try dsimp only at p1
   rw[p1];exact p2
  |ret T1 H1=>
   cases e2
   refine⟨r1,k1.xJ fun n d p1=>?_,q1⟩
   show(Rc.rec Rc.bad (fun t h=>su (cr n d) n b t h) (fun t h=>Rc.ret t h) (fun i t h=>Rc.exit i t h) (su (cr n d) n a t h):Go.Ab.Rc)=r1
   try dsimp only at p1
   rw[p1];cases r1<;>first|rfl|exact q1.elim
  |exit i T1 H1=>
   cases e2
   refine⟨r1,k1.xJ fun n d p1=>?_,q1⟩
   show(Rc.rec Rc.bad (fun t h=>su (cr n d) n b t h) (fun t h=>Rc.ret t h) (fun i t h=>Rc.exit i t h) (su (cr n d) n a t h):Go.Ab.Rc)=r1
   try dsimp only at p1
   rw[p1];cases r1<;>first|rfl|exact q1.elim
 |cif c a b xr BG=>
  intro E T t H h o hT hH e
  obtain⟨x,T1,hx,xW,h1,h2⟩:=zP (a:=fun t=>sCd L call m a t H) (b:=fun t=>sCd L call m b t H) hT e
  have hc: ∀ n d,su (cr n d) n (.cif c a b) t h=Bool.rec (su (cr n d) n b t h) (su (cr n d) n a t h) x:=fun n d=>by
   show W4 (cI c) (su (cr n d) n a) (su (cr n d) n b) t h=_
   unfold W4;rw[hx]
  cases x with
  |true=>
   obtain⟨r,k,q⟩:=xr hL.1 E T1 t H h o xW hH (h1 rfl)
   exact⟨r,k.xJ fun n d p=>(hc n d).trans p,q⟩
  |false=>
   obtain⟨r,k,q⟩:=BG hL.2 E T1 t H h o xW hH (h2 rfl)
   exact⟨r,k.xJ fun n d p=>(hc n d).trans p,q⟩
 |bl id b ih=>
  intro E T t H h o hT hH e
  change (match L id with|some f=>f T H|none=>blO id (sCd L call m b T H)).val=some o at e
  have hl:=hL.1
  cases hf:L id with
  |some f=>rw[hf]at e hl;exact hl E T t H h o hT hH e
  |none=>
   rw[hf]at e
   obtain⟨o1,e1,e2⟩:=Lf.T.mZ e
   obtain⟨r1,k1,q1⟩:=ih hL.2 E T t H h o1 hT hH e1
   cases o1 with
   |norm T1 H1=>
    cases e2
    refine⟨r1,k1.xJ fun n d p1=>?_,q1⟩
    show(Rc.rec Rc.bad (fun t h=>Rc.norm t h) (fun t h=>Rc.ret t h) (fun i t h=>Bool.rec (Rc.exit i t h) (Rc.norm t h) (Nat.beq i id)) (su (cr n d) n b t h):Go.Ab.Rc)=r1
    try dsimp only at p1
    rw[p1];cases r1<;>first|rfl|exact q1.elim
   |ret T1 H1=>
    cases e2
    refine⟨r1,k1.xJ fun n d p1=>?_,q1⟩
    show(Rc.rec Rc.bad (fun t h=>Rc.norm t h) (fun t h=>Rc.ret t h) (fun i t h=>Bool.rec (Rc.exit i t h) (Rc.norm t h) (Nat.beq i id)) (su (cr n d) n b t h):Go.Ab.Rc)=r1
    try dsimp only at p1
    rw[p1];cases r1<;>first|rfl|exact q1.elim
   |exit i T1 H1=>
    cases r1 with
    |exit j t1 h1=>
     obtain⟨rfl,E',X,S,QV⟩:=q1
     cases hi:Nat.beq i id with
     |true=>
      have e2:(Lf.T.ok (bif Nat.beq i id then Oc.norm T1 H1 else Oc.exit i T1 H1)).val=some o:=e2
      rw[hi]at e2
      cases e2
      refine⟨.norm t1 h1,k1.xJ fun n d p1=>?_,E',X,S,QV⟩
      show(Rc.rec Rc.bad (fun t h=>Rc.norm t h) (fun t h=>Rc.ret t h) (fun i t h=>Bool.rec (Rc.exit i t h) (Rc.norm t h) (Nat.beq i id)) (su (cr n d) n b t h):Go.Ab.Rc)=_
      try dsimp only at p1
      rw[p1];simp only[hi]
     |false=>
      have e2:(Lf.T.ok (bif Nat.beq i id then Oc.norm T1 H1 else Oc.exit i T1 H1)).val=some o:=e2
      rw[hi]at e2
      cases e2
      refine⟨.exit i t1 h1,k1.xJ fun n d p1=>?_,rfl,E',X,S,QV⟩
      show(Rc.rec Rc.bad (fun t h=>Rc.norm t h) (fun t h=>Rc.ret t h) (fun i t h=>Bool.rec (Rc.exit i t h) (Rc.norm t h) (Nat.beq i id)) (su (cr n d) n b t h):Go.Ab.Rc)=_
      try dsimp only at p1
      rw[p1];simp only[hi]
    | _=>exact q1.elim
 |lp b ih=>
  intro E T t H h o hT hH e
  obtain⟨r,k,q⟩:=TU (ih hL) m E T t H h o hT hH e
  exact⟨r,k.diag,q⟩
 |ex i=>intro E T t H h o hT hH e;cases e;exact⟨.exit i t h,Ev.const rfl,rfl,E,R.of (Nx.refl _ _ _),hH,hT⟩
 |rt=>intro E T t H h o hT hH e;cases e;exact⟨.ret t h,Ev.const rfl,E,R.of (Nx.refl _ _ _),hH,hT⟩
 |bad=>intro E T t H h o hT hH e;cases e
end
theorem Zp{E:En}{T:Tq}{t:Tm}{H:Hq}{h:Hp}(hT:TV E H.next T t)(hH:SR E H h){r:Go.Ab.RV}{v:Sv}(e:aeo T H r=some v): ∃ c,Ra t h r=some c/\V E H.next v c:=by
 cases r with
 |tmp i=>obtain⟨hi,e⟩:=cR e;exact hT i v (cM.1 hi) e
 |cell i sz agg=>
  change (match(bif Nat.blt i 512 then T.at i else none)with|some p=>Ei sz agg p H|none=>none)=some v at e
  split at e
  ·rename_i p hp
   obtain⟨hi,hp⟩:=cR hp
   obtain⟨a,ha,CB⟩:=hT i p (cM.1 hi) hp
   obtain⟨c,c1,c2⟩:=CA hH CB e
   refine⟨c,?_,c2⟩
   show(match t.at i with|some a=>BK h sz agg a|none=>none)=_
   rw[ha];exact c1
  ·cases e
theorem CD{E:En}{T:Tq}{t:Tm}{H:Hq}{h:Hp}(hT:TV E H.next T t)(hH:SR E H h): ∀ {l:List Go.Ab.RV} {vs:List Sv},Tg T H l=some vs-> ∃ cs,DX t h l=some cs/\Vs E H.next vs cs
 | [],_,e=>by cases e;exact⟨[],rfl,.nil⟩
 |r::l,vs,e=>by
  change (match aeo T H r with|some v=>(match Tg T H l with|some vs=>some (v::vs)|none=>none)|none=>none)=some vs at e
  split at e
  ·rename_i v hv
   split at e
   ·rename_i us hu
    cases e
    obtain⟨c,hc,oN⟩:=Zp hT hH hv
    obtain⟨cs,rj,aeq⟩:=CD hT hH hu
    refine⟨c::cs,?_,.cons oN aeq⟩
    show(match Ra t h r with|some v=>(match DX t h l with|some vs=>some (v::vs)|none=>none)|none=>none)=_
    rw[hc,rj]
   ·cases e
  ·cases e
theorem Zq{E:En}{T:Tq}{t:Tm}{H H':Hq}{h:Hp}(hT:TV E H.next T t)(hH:SR E H h){l:List Go.Ab.RV}{v:Sv}(e:(Th l T H).val=some (v,H')):H'=H/\ ∃ c,fin l t h=.ok c h/\V E H.next v c:=by
 unfold Th at e
 split at e
 ·rename_i w hw
  cases e
  obtain⟨cs,hc,oN⟩:=CD hT hH hw
  cases oN with
  |cons a b=>cases b;exact⟨rfl,_,by unfold fin;rw[hc],a⟩
 ·rename_i vs hn hw
  cases e
  obtain⟨cs,hc,oN⟩:=CD hT hH hw
  refine⟨rfl,.wZ cs,?_,.tu oN⟩
  unfold fin
  rw[hc]
  cases cs with
  |nil=>rfl
  |cons a cs=>
   cases cs with
   |nil=>
    cases oN with
    |cons x y=>cases y;exact(hn _ rfl).elim
   |cons _ _=>rfl
 ·cases e
theorem F8.CE{α:Type}(x:α)(j:Nat):(F8.all x).qw j=x:=by
 unfold F8.all F8.qw
 split<;>rfl
theorem Nw(j:Nat):Tq.none.at j=none:=by
 unfold Tq.at Tq.none
 rw[F8.CE,F8.CE,F8.CE]
theorem yq{E:En}{N:Nat}{l:List Sv}: ∀ (as:List AV) (i:Nat) (T:Tq) (t:Tm),Vs E N l as->i+l.length<=512->TV E N T t->TV E N (Kt l i T) (uS as i t):=by
 induction l with
 |nil=>intro as i T t h _ hT;cases h;exact hT
 |cons v l ih=>
  intro as i T t h hi hT
  cases h with
  |cons hv h=>
   rename_i a as
   rw[List.length_cons]at hi
   exact ih as (i+1) _ _ h (by omega) (hT.put (by omega) hv)
def CF(b:Fb)(n:Nat)(c:mS):List AV->Hp->Go.Ab.Ro:=fun args h=>pH (Nat.ble (len args) b.ntmps) (match b.body c n (uS args 0 Tm.none) h with
 | .norm t h=>fin b.res t h
 | .ret t h=>fin b.res t h
 | _=>.bad) .bad
def u9(cr:cx)(f:FuncId)(b:Dj):Prop:= ∀ n d args h c h',CF b.fb n (cr n d) args h=.ok c h'->cr n (d+1) f args h=.ok c h'
theorem HZ{R:Rx}{call:o7}{cr:cx}(C:w8 call cr){f:FuncId}{b:Dj}(hb:u9 cr f b)(AL:b.ntmps<=512){L:Nat->Option rk}(hL:wL R cr L b.code){m:Nat}{E:En}{args:List Sv}{as:List AV}{H H':Hq}{h:Hp}{v:Sv}
 (hv:Vs E H.next args as)(hH:SR E H h)(e:(HJ L b m call args H).val=some (v,H')): ∃ c h' E',Ev (fun n d=>cr n d f as h) (.ok c h')/\R.X E E' H H' h h'/\SR E' H' h'/\V E' H'.next v c:=by
 unfold HJ at e
 obtain⟨hn,e⟩:=nL e
 have Y7:args.length<=b.ntmps:=by have:=Nat.le_of_ble_eq_true hn;rwa [cQ]at this
 obtain⟨o,e1,e2⟩:=Lf.T.mZ e
 have hT0:TV E H.next (Kt args 0 Tq.none) (uS as 0 Tm.none):=yq _ _ _ _ hv (by omega) fun i w _ hw=>by rw[Nw]at hw;cases hw
 obtain⟨r,k,q⟩:=KI C (R:=R) m b.code hL E _ _ H h o hT0 hH e1
 have hlen:Nat.ble (len as) b.ntmps=true:=by rw[cQ,<-hv.length,<-cQ];exact hn
 have SS: ∀ {T1:Tq} {H1:Hq} {t1:Tm} {h1:Hp} {E1:En},(r=.norm t1 h1∨r=.ret t1 h1)->R.X E E1 H H1 h h1->SR E1 H1 h1->TV E1 H1.next T1 t1->(Th b.res T1 H1).val=some (v,H')-> ∃ c h' E',Ev (fun n d=>cr n d f as h) (.ok c h')/\R.X E E' H H' h h'/\SR E' H' h'/\V E' H'.next v c:=by
  intro T1 H1 t1 h1 E1 hr X S xW e
  obtain⟨hq,c,c1,c2⟩:=Zq xW S e
  rw[hq]
  refine⟨c,h1,E1,?_,X,S,c2⟩
  obtain⟨M,k⟩:=k
  refine⟨M+1,fun n d a a'=>?_⟩
  obtain⟨d',rfl⟩: ∃ d',d=d'+1:=⟨d - 1,by omega⟩
  refine hb n d' as h c h1 ?_
  have k':=k n d' (by omega) (by omega)
  dsimp only at k'
  show pH (Nat.ble (len as) b.ntmps) (match su (cr n d') n b.code (uS as 0 Tm.none) h with
   | .norm t h=>fin b.res t h
   | .ret t h=>fin b.res t h
   | _=>.bad) .bad=_
  rw[hlen,k']
  rcases hr with hr|hr<;>rw[hr]<;>exact c1
 cases o with
 |norm T1 H1=>
  obtain⟨t1,h1,E1,hr,X,S,xW⟩:=q.norm
  exact SS (.inl hr) X S xW e2
 |ret T1 H1=>
  cases r with
  |ret t1 h1=>obtain⟨E1,X,S,xW⟩:=q;exact SS (.inr rfl) X S xW e2
  | _=>exact q.elim
 |exit _ _ _=>cases e2
end Lf
end Go.Ab

noncomputable section
namespace Go.Ab
namespace Lf
abbrev Pl:=(t:Ty)×den t
inductive qH where
 |n (k:IntKind)|li (k:IntKind) (m:Int)|bo|lb (b:Bool)|st|im (t:Ty)|ow (t:Ty)|av (v:AV)|pt (g:Nat) (l:qH)|ag (l:qH)|tu (l:qH)
 |nil|cons (a l:qH)|fn (f:FuncId) (l:qH)|el (j sz o:Nat)|rp (j o:Nat)|oo (j sz:Nat)|zp (l:qH)
def oi(p:qH):List Pl->Hq->Option (List Sv×List Pl×Hq):=
 qH.rec (motive:=fun _=>List Pl->Hq->Option (List Sv×List Pl×Hq))
  (fun k pl H=>match pl with
   |⟨.int k',x⟩::r=>bif qp k k' then some ([.c 0 (.int k) x],r,H)else none
   | _=>none)
  (fun k m pl H=>some ([.i k m],pl,H))
  (fun pl H=>match pl with
   |⟨.bool,x⟩::r=>some ([.c 0 .bool x],r,H)
   | _=>none)
  (fun b pl H=>some ([.b b],pl,H))
  (fun pl H=>match pl with
   |⟨.str,x⟩::r=>some ([.c 0 .str x],r,H)
   | _=>none)
  (fun t pl H=>match pl with
   |⟨t',x⟩::r=>(match zk t' (.cp t)with
    |some ⟨e⟩=>some ([.c H.next (.cp t) (e▸x)],r,⟨Nat.add H.next 1,H.cw⟩)
    |none=>none)
   | []=>none)
  (fun t pl H=>match pl with
   |⟨t',x⟩::r=>(match zk t' (.cp t)with
    |some ⟨e⟩=>some ([.os H.next (size t)],r,nG H (.l t (e▸x:den (.cp t))))
    |none=>none)
   | []=>none)
  (fun v pl H=>some ([.a v],pl,H))
  (fun g _ ih pl H=>match ih pl H with
   |some (cs,r,H)=>some ([.rf H.next 0],r,nG H (.o g cs))
   |none=>none)
  (fun _ ih pl H=>match ih pl H with
   |some (cs,r,H)=>some ([.ag cs],r,H)
   |none=>none)
  (fun _ ih pl H=>match ih pl H with
   |some (cs,r,H)=>some ([.tu cs],r,H)
   |none=>none)
  (fun pl H=>some ([],pl,H))
  (fun _ _ xr ihl pl H=>match xr pl H with
   |some (v,r,H)=>(match ihl r H with
    |some (w,r,H)=>some (app v w,r,H)
    |none=>none)
   |none=>none)
  (fun f _ ih pl H=>match ih pl H with
   |some (cs,r,H)=>some ([.fn f cs],r,H)
   |none=>none)
  (fun j sz o pl H=>match pl with
   |⟨.int _,x⟩::r=>some ([.re j sz (Int.toNat x) o],r,H)
   | _=>none)
  (fun j o pl H=>some ([.rf j o],pl,H))
  (fun j sz pl H=>some ([.os j sz],pl,H))
  (fun _ ih pl H=>match ih pl H with
   |some (cs,r,H)=>some ([.zp cs],r,H)
   |none=>none) p
structure Xq where
 H:Hq
 c:Nat
 rn:List (Nat×Nat)
def H5(H:Hq)(r:Nat):Bool:=match H.cw.get r with
 |some R=>R.live
 |none=>false
def wM(rn:List (Nat×Nat))(H:Hq):Bool:=List.rec true (fun p _ ih=>bif H5 H p.2 then ih else false) rn
def CG(r:Nat)(rn:List (Nat×Nat)):Bool:=List.rec true (fun p _ ih=>bif Nat.beq p.2 r then false else ih) rn
def look(j:Nat)(rn:List (Nat×Nat)):Option Nat:=List.rec none (fun p _ ih=>bif Nat.beq p.1 j then some p.2 else ih) rn
def aeJ(t:Ty)(v:Sv)(H:Hq):Option (List (den t)×Hq×Nat):=match HG t v H with
 |some (x,H1)=>(match kill v H1 with
  |some H2=>some (x,nG H2 (.l t x),H2.next)
  |none=>none)
 |none=>none
def Zr(t:Ty)(v:Sv)(H:Hq):Option (List (den t)×Hq×Nat):=match v with
 | .os r _=>(match H.cw.get r with
  |some (.l t' x)=>(match zk t' t with
   |some ⟨e⟩=>some (e▸x,H,r)
   |none=>none)
  | _=>none)
 |v=>aeJ t v H
def CH(p:qH):List Sv->Xq->Option (List Pl×List Sv×Xq):=
 qH.rec (motive:=fun _=>List Sv->Xq->Option (List Pl×List Sv×Xq))
  (fun k l X=>match l with
   |v::r=>(match toN v with
    |some (k',x)=>bif qp k k' then some ([⟨.int k,x⟩],r,X)else none
    |none=>none)
   | []=>none)
  (fun k m l X=>match l with
   | .i k' m'::r=>bif qp k k'&&eqI m m' then some ([],r,X)else none
   | _=>none)
  (fun l X=>match l with
   |v::r=>(match toB v with
    |some b=>some ([⟨.bool,b.v⟩],r,X)
    |none=>none)
   | []=>none)
  (fun b l X=>match l with
   | .b b'::r=>bif (bif b then b' else !b')then some ([],r,X)else none
   | _=>none)
  (fun l X=>match l with
   |v::r=>(match toS v with
    |some (_,s)=>some ([⟨.str,s⟩],r,X)
    |none=>none)
   | []=>none)
  (fun t l X=>match l with
   |v::r=>(match lst t v X.H with
    |some (x,H1)=>bif wM X.rn H1 then some ([⟨.cp t,x⟩],r,⟨H1,Nat.add X.c 1,X.rn⟩)else none
    |none=>none)
   | []=>none)
  (fun t l X=>match l with
   |v::r=>(match Zr t v X.H with
    |some (x,H1,q)=>bif wM X.rn H1&&CG q X.rn then some ([⟨.cp t,x⟩],r,⟨H1,Nat.add X.c 1,(X.c,q)::X.rn⟩)else none
    |none=>none)
   | []=>none)
  (fun v l X=>match l with
   | .a w::r=>bif tD v w then some ([],r,X)else none
   | _=>none)
  (fun g _ ih l X=>match l with
   | .rf r 0::rest=>(match X.H.cw.get r with
    |some (.o g' cells)=>(bif Nat.beq g 0||Nat.beq g g' then(match ih cells X with
     |some (pl,[],X1)=>(match X1.H.cw.get r with
      |some (.o g2 _)=>bif Nat.beq g' g2&&CG r X1.rn then some (pl,rest,⟨X1.H,Nat.add X1.c 1,(X1.c,r)::X1.rn⟩)else none
      | _=>none)
     | _=>none)else none)
    | _=>none)
   | _=>none)
  (fun _ ih l X=>match l with
   | .ag cells::rest=>(match ih cells X with
    |some (pl,[],X1)=>some (pl,rest,X1)
    | _=>none)
   | _=>none)
  (fun _ ih l X=>match l with
   | .tu cells::rest=>(match ih cells X with
    |some (pl,[],X1)=>some (pl,rest,X1)
    | _=>none)
   | _=>none)
  (fun l X=>some ([],l,X))
  (fun _ _ xr ihl l X=>match xr l X with
   |some (pa,r,X1)=>(match ihl r X1 with
    |some (pb,r,X2)=>some (app pa pb,r,X2)
    |none=>none)
   |none=>none)
  (fun f _ ih l X=>match l with
   | .fn f' caps::rest=>(bif Nat.beq f f' then(match ih caps X with
    |some (pl,[],X1)=>some (pl,rest,X1)
    | _=>none)else none)
   | _=>none)
  (fun j sz o l X=>match l with
   | .re r sz' i o'::rest=>(match look j X.rn with
    |some r'=>bif Nat.beq r r'&&(Nat.beq sz sz'&&Nat.beq o o')then some ([⟨.int .i64,Int.ofNat i⟩],rest,X)else none
    |none=>none)
   | _=>none)
  (fun j o l X=>match l with
   | .rf r o'::rest=>(match look j X.rn with
    |some r'=>bif Nat.beq r r'&&Nat.beq o o' then some ([],rest,X)else none
    |none=>none)
   | _=>none)
  (fun j sz l X=>match l with
   | .os r sz'::rest=>(match look j X.rn with
    |some r'=>bif Nat.beq r r'&&Nat.beq sz sz' then some ([],rest,X)else none
    |none=>none)
   | _=>none)
  (fun _ ih l X=>match l with
   | .zp cells::rest=>(match ih cells X with
    |some (pl,[],X1)=>some (pl,rest,X1)
    | _=>none)
   | _=>none) p
structure Sub(E0:En)(H0:Hq)(E:En)(X:Xq)(h:Hp):Prop where
 c:H0.next=X.c
 pos:0<X.c
 S0:SR E0 H0 h
 G:E0.G=E.G
 A:E0.A=E.A
 rn: ∀ p,p∈X.rn->p.1<X.c/\own X.H p.2/\own H0 p.1/\E0.K p.1=E.K p.2
 ow: ∀ j,own H0 j-> ∃ r,(j,r)∈X.rn
 inj: ∀ j j' r,(j,r)∈X.rn->(j',r)∈X.rn->j=j'
theorem P2{H:Hq}{r:Nat}:H5 H r=true↔own H r:=by
 unfold H5 own
 cases e:H.cw.get r with
 |none=>simp
 |some R=>simp
theorem wj{H:Hq}: ∀ {rn:List (Nat×Nat)},wM rn H=true-> ∀ p,p∈rn->own H p.2
 | [],_,p,hp=>by cases hp
 |q::rn,h,p,hp=>by
  have h:(bif H5 H q.2 then wM rn H else false)=true:=h
  cases hb:H5 H q.2 with
  |false=>rw[hb]at h;cases h
  |true=>
   rw[hb]at h
   rcases List.mem_cons.1 hp with e|e
   ·subst e;exact P2.1 hb
   ·exact wj h p e
theorem Et{r:Nat}: ∀ {rn:List (Nat×Nat)},CG r rn=true-> ∀ j,(j,r)∉rn
 | [],_,j,hp=>by cases hp
 |q::rn,h,j,hp=>by
  have h:(bif Nat.beq q.2 r then false else CG r rn)=true:=h
  cases hb:Nat.beq q.2 r with
  |true=>rw[hb]at h;cases h
  |false=>
   rw[hb]at h
   rcases List.mem_cons.1 hp with e|e
   ·subst e;rw[Nat.beq_refl]at hb;cases hb
   ·exact Et h j e
theorem uG{j r:Nat}: ∀ {rn:List (Nat×Nat)},look j rn=some r->(j,r)∈rn
 | [],h=>by cases h
 |q::rn,h=>by
  have h:(bif Nat.beq q.1 j then some q.2 else look j rn)=some r:=h
  cases hb:Nat.beq q.1 j with
  |true=>rw[hb]at h;cases h;rw[<-beq_true hb];exact List.mem_cons_self
  |false=>rw[hb]at h;exact List.mem_cons_of_mem _ (uG h)
theorem aor{E0:En}{H0:Hq}{h:Hp}(S:SR E0 H0 h){G:Nat->Option Rw}(hG:YP E0.G G)(hg: ∀ id row,G id=some row->id<h.next/\h.cw.get id=some row/\ ∀ r,own H0 r->r9 (E0.K r).av≠some id):SR ⟨E0.K,E0.tk,G,E0.A⟩ H0 h where
 row r R e:=⟨(S.row r R e).1,RV.mono (E:=E0) (E':=⟨E0.K,E0.tk,G,E0.A⟩) (N:=H0.next) ⟨fun _ _=>rfl,fun _ _=>rfl,hG,rfl⟩ (Nat.le_refl _) (fun _ _ _ _ e=>e) (S.row r R e).2⟩
 inj:=S.inj
 lt:=S.lt
 g:=hg
theorem Zs{E0:En}{H0:Hq}{h:Hp}(S:SR E0 H0 h){k:Kr}{R:Row}(hR:RV E0 H0.next h k R)(live:R.live=true)(qd: ∀ id,r9 k.av=some id->id<h.next/\(∀ j,own H0 j->r9 (E0.K j).av≠some id)/\ ∀ row,E0.G id≠some row):
 SR (E0.row H0.next k) (nG H0 R) h:=by
 have hle:=En.vP E0 H0.next k
 have K0:(E0.row H0.next k).K H0.next=k:=if_pos rfl
 have K1: ∀ r,r<H0.next->(E0.row H0.next k).K r=E0.K r:=fun r hr=>if_neg (by omega)
 have uw: ∀ r,own (nG H0 R) r->r=H0.next∨(r<H0.next/\own H0 r):=by
  rintro r ⟨R',a,b⟩
  rw[qV]at a
  split at a
  ·exact .inl ‹_›
  ·exact .inr ⟨(S.row _ _ a).1,R',a,b⟩
 refine⟨?_,?_,?_,?_⟩
 ·intro r R' hr
  rw[qV]at hr
  split at hr
  ·rename_i e;cases hr;subst e;rw[K0]
   exact⟨Nat.lt_succ_self _,hR.mono hle (Nat.le_succ _) fun _ _ _ _ e=>e⟩
  ·have h0:=S.row _ _ hr
   refine⟨Nat.lt_succ_of_lt h0.1,?_⟩
   rw[K1 _ h0.1]
   exact h0.2.mono hle (Nat.le_succ _) fun _ _ _ _ e=>e
 ·intro r r' id o o' e e'
  rcases uw r o with a|⟨a1,a2⟩<;>rcases uw r' o' with b|⟨b1,b2⟩
  ·rw[a,b]
  ·subst a;rw[K0]at e;rw[K1 _ b1]at e'
   exact((qd id e).2.1 r' b2 e').elim
  ·subst b;rw[K0]at e';rw[K1 _ a1]at e
   exact((qd id e').2.1 r a2 e).elim
  ·rw[K1 _ a1]at e;rw[K1 _ b1]at e'
   exact S.inj r r' id a2 b2 e e'
 ·intro r id o e
  rcases uw r o with a|⟨a1,a2⟩
  ·subst a;rw[K0]at e;exact(qd id e).1
  ·rw[K1 _ a1]at e;exact S.lt r id a2 e
 ·intro id row e
  obtain⟨a,b,c⟩:=S.g id row e
  refine⟨a,b,fun r o e2=>?_⟩
  rcases uw r o with q|⟨q1,q2⟩
  ·subst q;rw[K0]at e2;exact(qd id e2).2.2 row e
  ·rw[K1 _ q1]at e2;exact c r q2 e2
theorem aeL{E0:En}{H0:Hq}{h:Hp}(S:SR E0 H0 h)(a:AV):SR ⟨E0.K,fun i=>if i=H0.next then a else E0.tk i,E0.G,E0.A⟩ ⟨Nat.add H0.next 1,H0.cw⟩ h where
 row r R e:=⟨Nat.lt_succ_of_lt (S.row r R e).1,RV.mono (E:=E0) (E':=⟨E0.K,fun i=>if i=H0.next then a else E0.tk i,E0.G,E0.A⟩) (N:=H0.next) ⟨fun _ _=>rfl,fun i hi=>if_neg (by omega),fun _ _ e=>e,rfl⟩ (Nat.le_succ _) (fun _ _ _ _ e=>e) (S.row r R e).2⟩
 inj:=S.inj
 lt:=S.lt
 g:=S.g
theorem Sub.acq{E0:En}{H0:Hq}{E E':En}{X:Xq}{h:Hp}(S:SR E X.H h)(s:Sub E0 H0 E X h){H1:Hq}(n:Nx E E' X.H H1 h h)(S':SR E' H1 h)(hl: ∀ p,p∈X.rn->own H1 p.2):Sub ⟨E0.K,E0.tk,E'.G,E0.A⟩ H0 E' ⟨H1,X.c,X.rn⟩ h:=by
 have hK: ∀ p,p∈X.rn->E'.K p.2=E.K p.2:=fun p hp=>by
  obtain⟨_,⟨R,oR,_⟩,_,_⟩:=s.rn p hp
  exact n.e.K _ (S.row _ _ oR).1
 refine⟨s.c,s.pos,?_,rfl,by rw[n.e.A];exact s.A,fun p hp=>?_,s.ow,s.inj⟩
 ·refine aor s.S0 (by rw[s.G];exact n.e.G) fun id row e=>?_
  obtain⟨a,b,c⟩:=S'.g id row e
  refine⟨a,b,fun j o q=>?_⟩
  obtain⟨r,hr⟩:=s.ow j o
  obtain⟨_,_,_,k⟩:=s.rn _ hr
  rw[k]at q
  exact c r (hl _ hr) (by rw[hK _ hr];exact q)
 ·obtain⟨a,_,c,d⟩:=s.rn p hp
  exact⟨a,hl p hp,c,by rw[hK p hp];exact d⟩
theorem Sub.TW{E0:En}{H0:Hq}{E:En}{X:Xq}{h:Hp}(S:SR E X.H h)(s:Sub E0 H0 E X h){q:Nat}(hq:own X.H q)(hn:CG q X.rn=true){R':Row}(lv:R'.live=true)(hR:RV E0 H0.next h (E.K q) R'):
 Sub (E0.row H0.next (E.K q)) (nG H0 R') E ⟨X.H,Nat.add X.c 1,(X.c,q)::X.rn⟩ h:=by
 have hn:=Et hn
 have K0:(E0.row H0.next (E.K q)).K H0.next=E.K q:=if_pos rfl
 have K1: ∀ r,r<H0.next->(E0.row H0.next (E.K q)).K r=E0.K r:=fun r hr=>if_neg (by omega)
 refine⟨by show Nat.add H0.next 1=Nat.add X.c 1;rw[s.c],Nat.succ_pos _,?_,s.G,s.A,fun p hp=>?_,fun j o=>?_,fun j j' r a b=>?_⟩
 ·refine Zs s.S0 hR lv fun id e=>⟨S.lt q id hq e,fun j o e2=>?_,fun row e2=>?_⟩
  ·obtain⟨r,hr⟩:=s.ow j o
   obtain⟨_,o2,_,k⟩:=s.rn _ hr
   rw[k]at e2
   have:r=q:=S.inj r q id o2 hq e2 e
   subst this
   exact hn j hr
  ·rw[s.G]at e2
   exact(S.g id row e2).2.2 q hq e
 ·rcases List.mem_cons.1 hp with e|e
  ·subst e
   refine⟨Nat.lt_succ_self _,hq,?_,by rw[<-s.c,K0]⟩
   exact⟨R',by rw[qV,if_pos s.c.symm],lv⟩
  ·obtain⟨a,b,c,d⟩:=s.rn p e
   have oI:p.1<H0.next:=by rw[s.c];exact a
   refine⟨Nat.lt_succ_of_lt a,b,?_,by rw[K1 _ oI];exact d⟩
   obtain⟨Q,q1,q2⟩:=c
   exact⟨Q,by rw[qV,if_neg (by omega)];exact q1,q2⟩
 ·obtain⟨Q,q1,q2⟩:=o
  rw[qV]at q1
  split at q1
  ·rename_i e;exact⟨q,by rw[e,s.c];exact List.mem_cons_self⟩
  ·obtain⟨r,hr⟩:=s.ow j ⟨Q,q1,q2⟩;exact⟨r,List.mem_cons_of_mem _ hr⟩
 ·rcases List.mem_cons.1 a with e|e<;>rcases List.mem_cons.1 b with f|f
  ·cases e;cases f;rfl
  ·cases e;exact(hn j' f).elim
  ·cases f;exact(hn j e).elim
  ·exact s.inj j j' r e f
theorem Zt{t:Ty}{E:En}{H H3:Hq}{h:Hp}{v:Sv}{a:AV}{x:List (den t)}{q:Nat}(S:SR E H h)(hv:V E H.next v a)(e:Zr t v H=some (x,H3,q)):
 ∃ E3,Nx E E3 H H3 h h/\SR E3 H3 h/\H3.cw.get q=some (.l t x)/\(E3.K q).av=a:=by
 have gen:aeJ t v H=some (x,H3,q)-> ∃ E3,Nx E E3 H H3 h h/\SR E3 H3 h/\H3.cw.get q=some (.l t x)/\(E3.K q).av=a:=by
  intro e
  unfold aeJ at e
  split at e
  ·rename_i y H1 hy
   split at e
   ·rename_i H2 h2
    cases e
    obtain⟨E1,F,D⟩:=Bk S hv hy
    have k:=FQ (F.v hv) h2
    have hR:RV E1 H1.next h ⟨a,x.length⟩ (.l t x):=by
     refine⟨rfl,?_⟩
     rcases D with d|⟨id,base,row,ls,d1,d2,d3,d4⟩
     ·exact .inl d
     ·exact .inr ⟨id,base,row,ls,d1,d2,d3,d4⟩
    obtain⟨S3,X3⟩:=qW F.S k.n k.sub (Nat.le_refl _) (h':=h) (fun _ _ _=>rfl) (fun id e=>by
     obtain⟨r,o,no,er⟩:=k.id id e
     exact⟨F.S.lt r id o er,.inr ⟨r,o,no,er⟩⟩) hR rfl
    refine⟨_,F.X.trans X3,S3,by rw[qV,if_pos rfl],?_⟩
    rw[k.n]
    show(if H1.next=H1.next then _ else _:Kr).av=a
    rw[if_pos rfl]
   ·cases e
  ·cases e
 unfold Zr at e
 split at e
 ·rename_i r s
  split at e
  ·rename_i t' y hr
   split at e
   ·rename_i p hp
    cases p
    cases e
    refine⟨E,Nx.refl _ _ _,S,hr,?_⟩
    cases hv with
    |os _ _=>rfl
   ·cases e
  ·cases e
 ·exact gen e
def ai3(p:qH):Prop:= ∀ {E0:En} {H0:Hq} {E:En} {X X':Xq} {h:Hp} {vs rest:List Sv} {cs:List AV} {pl:List Pl},SR E X.H h->Sub E0 H0 E X h->Vs E X.H.next vs cs->CH p vs X=some (pl,rest,X')->
 ∃ E' zl yN ws MI BS,Nx E E' X.H X'.H h h/\SR E' X'.H h/\Sub zl yN E' X' h/\cs=MI++BS/\Vs E' X'.H.next rest BS/\(∀ tail,oi p (pl++tail) H0=some (ws,tail,yN))/\Vs zl yN.next ws MI/\Bh E0 zl H0.next/\H0.next<=yN.next
theorem qY{p:qH}{E0:En}{H0:Hq}{E:En}{X:Xq}{h:Hp}{rest:List Sv}{a:AV}{cs:List AV}{pl:List Pl}{w:Sv}(S:SR E X.H h)(s:Sub E0 H0 E X h)(hr:Vs E X.H.next rest cs)(hf: ∀ tail,oi p (pl++tail) H0=some ([w],tail,H0))(hw:V E0 H0.next w a):
 ∃ E' zl yN ws MI BS,Nx E E' X.H X.H h h/\SR E' X.H h/\Sub zl yN E' X h/\a::cs=MI++BS/\Vs E' X.H.next rest BS/\(∀ tail,oi p (pl++tail) H0=some (ws,tail,yN))/\Vs zl yN.next ws MI/\Bh E0 zl H0.next/\H0.next<=yN.next:=
 ⟨E,E0,H0,[w],[a],cs,Nx.refl _ _ _,S,s,rfl,hr,hf,.cons hw .nil,Bh.refl _ _,Nat.le_refl _⟩
theorem rR: ∀ (t:Ty),zk t t=some ⟨rfl⟩
 | .int k=>by unfold zk;rw[dif_pos rfl]
 | .bool=>rfl
 | .str=>rfl
 | .cp a=>by unfold zk;rw[rR a]
 | .pair a b=>by unfold zk;rw[rR a,rR b]
theorem KJ(p:qH):ai3 p:=by
 induction p with
 |n k=>
  intro E0 H0 E X X' h vs rest cs pl S s hv e
  cases hv with
  |nil=>cases e
  |cons a l=>
   change (match toN _ with|some (k',x)=>bif qp k k' then some ([⟨.int k,x⟩],_,X)else none|none=>none)=some (pl,rest,X')at e
   split at e
   ·rename_i k' x hx
    obtain⟨hk,e⟩:=cR e
    cases e
    have:=pE a hx
    subst this
    have:=oc.1 hk;subst this
    exact qY S s l (fun tail=>by show(bif qp k k then _ else _)=_;rw[Cz];rfl) oJ
   ·cases e
 |li k m=>
  intro E0 H0 E X X' h vs rest cs pl S s hv e
  cases hv with
  |nil=>cases e
  |cons a l=>
   rename_i v c vs cs
   cases v with
   |i k' m'=>
    have e1:=(cR (show(bif qp k k'&&eqI m m' then some (([]:List Pl),vs,X)else none)=some (pl,rest,X')from e)).1
    have e2:=(cR (show(bif qp k k'&&eqI m m' then some (([]:List Pl),vs,X)else none)=some (pl,rest,X')from e)).2
    cases e2
    rw[Bool.and_eq_true]at e1
    have:=oc.1 e1.1;subst this
    have:=oU.1 e1.2;subst this
    cases a
    exact qY S s l (fun tail=>rfl) .i
   | _=>cases e
 |bo=>
  intro E0 H0 E X X' h vs rest cs pl S s hv e
  cases hv with
  |nil=>cases e
  |cons a l=>
   change (match toB _ with|some b=>some ([⟨.bool,b.v⟩],_,X)|none=>none)=some (pl,rest,X')at e
   split at e
   ·rename_i b hb
    cases e
    have:=pM a hb
    subst this
    exact qY S s l (fun tail=>rfl) sN
   ·cases e
 |lb b=>
  intro E0 H0 E X X' h vs rest cs pl S s hv e
  cases hv with
  |nil=>cases e
  |cons a l=>
   rename_i v c vs cs
   cases v with
   |b b'=>
    have e1:=(cR (show(bif (bif b then b' else !b')then some (([]:List Pl),vs,X)else none)=some (pl,rest,X')from e)).1
    have e2:=(cR (show(bif (bif b then b' else !b')then some (([]:List Pl),vs,X)else none)=some (pl,rest,X')from e)).2
    cases e2
    have:b=b':=by cases b<;>cases b'<;>first|rfl|cases e1
    subst this
    cases a
    exact qY S s l (fun tail=>rfl) .b
   | _=>cases e
 |st=>
  intro E0 H0 E X X' h vs rest cs pl S s hv e
  cases hv with
  |nil=>cases e
  |cons a l=>
   change (match toS _ with|some (_,y)=>some ([⟨.str,y⟩],_,X)|none=>none)=some (pl,rest,X')at e
   split at e
   ·rename_i b y hb
    cases e
    have:=vt a hb
    subst this
    exact qY S s l (fun tail=>rfl) (.c rfl fun h=>(h rfl).elim)
   ·cases e
 |im t=>
  intro E0 H0 E X X' h vs rest cs pl S s hv e
  cases hv with
  |nil=>cases e
  |cons a l=>
   rename_i v c vs cs
   change (match lst t v X.H with|some (x,H1)=>bif wM X.rn H1 then some ([⟨.cp t,x⟩],vs,⟨H1,Nat.add X.c 1,X.rn⟩)else none|none=>none)=some (pl,rest,X')at e
   split at e
   ·rename_i x H1 hx
    obtain⟨hl,e⟩:=cR e
    cases e
    obtain⟨E1,F,k⟩:=Kx S a hx
    have s1:=s.acq S F.X F.S (wj hl)
    refine⟨E1,⟨E0.K,fun i=>if i=H0.next then c else E0.tk i,E1.G,E0.A⟩,⟨Nat.add H0.next 1,H0.cw⟩,[.c H0.next (.cp t) x],[c],cs,F.X,F.S,?_,rfl,F.vs l,fun tail=>?_,?_,?_,Nat.le_succ _⟩
    ·refine⟨by show Nat.add H0.next 1=Nat.add X.c 1;rw[s.c],Nat.succ_pos _,aeL s1.S0 c,rfl,s1.A,fun p hp=>?_,s1.ow,s1.inj⟩
     obtain⟨p1,p2,p3,p4⟩:=s1.rn p hp
     exact⟨Nat.lt_succ_of_lt p1,p2,p3,p4⟩
    ·unfold oi;simp only[List.cons_append,List.nil_append,rR]
    ·exact .cons (.c ⟨c,rfl,k⟩ fun _=>⟨Nat.lt_succ_self _,(if_pos rfl).symm⟩) .nil
    ·exact⟨fun _ _=>rfl,fun i hi=>if_neg (by omega),by rw[s.G];exact F.X.e.G,rfl⟩
   ·cases e
 |ow t=>
  intro E0 H0 E X X' h vs rest cs pl S s hv e
  cases hv with
  |nil=>cases e
  |cons a l=>
   rename_i v c vs cs
   change (match Zr t v X.H with|some (x,H1,q)=>bif wM X.rn H1&&CG q X.rn then some ([⟨.cp t,x⟩],vs,⟨H1,Nat.add X.c 1,(X.c,q)::X.rn⟩)else none|none=>none)=some (pl,rest,X')at e
   split at e
   ·rename_i x H1 q hx
    obtain⟨hl,e⟩:=cR e
    cases e
    rw[Bool.and_eq_true]at hl
    obtain⟨E1,X1,S1,hq,ha⟩:=Zt S a hx
    have s1:=s.acq S X1 S1 (wj hl.1)
    have hR:=(S1.row q _ hq).2
    have s2:=s1.TW S1 (q:=q) ⟨_,hq,rfl⟩ hl.2 (R':=.l t x) rfl (LR.mono (fun _ _ e=>e) (fun _ _ _ e=>e) hR)
    have K0:((⟨E0.K,E0.tk,E1.G,E0.A⟩:En).row H0.next (E1.K q)).K H0.next=E1.K q:=if_pos rfl
    refine⟨E1,_,_,[.os H0.next (size t)],[c],cs,X1,S1,s2,rfl,l.mono X1.e X1.le,fun tail=>?_,?_,?_,Nat.le_succ _⟩
    ·unfold oi;simp only[List.cons_append,List.nil_append,rR]
    ·refine .cons ?_ .nil
     have vA:=V.os (E:=(⟨E0.K,E0.tk,E1.G,E0.A⟩:En).row H0.next (E1.K q)) (N:=Nat.add H0.next 1) (r:=H0.next) (sz:=size t) (Nat.lt_succ_self _) (by
      rw[K0]
      rcases hR.2 with⟨k1,k2⟩|⟨id,base,row,ls,k1,_⟩
      ·exact .inl ⟨k1,by rw[<-hR.1,k2];rfl⟩
      ·exact .inr ⟨id,base,k1⟩)
     rw[K0,ha]at vA
     exact vA
    ·have le:=En.vP (⟨E0.K,E0.tk,E1.G,E0.A⟩:En) H0.next (E1.K q)
     exact⟨le.K,le.tk,by rw[s.G];exact X1.e.G,rfl⟩
   ·cases e
 |av v=>
  intro E0 H0 E X X' h vs rest cs pl S s hv e
  cases hv with
  |nil=>cases e
  |cons a l=>
   rename_i w c vs cs
   cases w with
   |a w=>
    have e1:=(cR (show(bif tD v w then some (([]:List Pl),vs,X)else none)=some (pl,rest,X')from e)).1
    have e2:=(cR (show(bif tD v w then some (([]:List Pl),vs,X)else none)=some (pl,rest,X')from e)).2
    cases e2
    have:=Bb _ _ e1;subst this
    cases a with
    |a h=>exact qY S s l (fun tail=>rfl) (.a h)
   | _=>cases e
 |pt g p ih=>
  intro E0 H0 E X X' h vs rest cs pl S s hv e
  cases hv with
  |nil=>cases e
  |cons a l=>
   rename_i v c vs cs
   cases v with
   |rf r o=>
    cases o with
    |succ _=>cases e
    |zero=>
     change (match X.H.cw.get r with
      |some (.o g' cells)=>(bif Nat.beq g 0||Nat.beq g g' then(match CH p cells X with
       |some (pl,[],X1)=>(match X1.H.cw.get r with
        |some (.o g2 _)=>bif Nat.beq g' g2&&CG r X1.rn then some (pl,vs,(⟨X1.H,Nat.add X1.c 1,(X1.c,r)::X1.rn⟩:Xq))else none
        | _=>none)
       | _=>none)else none)
      | _=>none)=some (pl,rest,X')at e
     split at e
     ·rename_i g' cells hr
      have hg:=(cR e).1
      replace e:=(cR e).2
      split at e
      ·rename_i Zu X1 hx
       split at e
       ·rename_i g2 aos hr2
        have hg2:=(cR e).1
        replace e:=(cR e).2
        cases e
        rw[Bool.and_eq_true]at hg2
        obtain⟨oI,id,row,k1,k2,k3,k4⟩:=S.row _ _ hr
        obtain⟨E1,zl,yN,ws,MI,BS,n1,S1,s1,c1,c2,c3,c4,c5,c6⟩:=ih S s k3 hx
        have zX:BS=[]:=by cases c2;rfl
        rw[zX,List.append_nil]at c1
        have hK:E1.K r=E.K r:=n1.e.K r oI
        have hR:RV zl yN.next h (E1.K r) (.o g ws):=by
         refine⟨id,row,by rw[hK];exact k1,k2,by rw[c1];exact c4,fun hg0=>?_⟩
         have:g=g':=by
          rw[Bool.or_eq_true]at hg
          rcases hg with q|q
          ·exact(hg0 (beq_true q)).elim
          ·exact beq_true q
         subst this
         rw[hK,k4 hg0,s1.A,n1.e.A]
        have s2:=s1.TW S1 (q:=r) ⟨_,hr2,rfl⟩ hg2.2 rfl hR
        have K0:(zl.row yN.next (E1.K r)).K yN.next=E1.K r:=if_pos rfl
        cases a with
        |rf _ h2=>
         rename_i Am
         rw[k1]at h2;cases h2
         refine⟨E1,_,_,[.rf yN.next 0],[.ref id 0],cs,n1,S1,s2,rfl,l.mono n1.e n1.le,fun tail=>?_,?_,?_,Nat.le_succ_of_le c6⟩
         ·show(match oi p (pl++tail) H0 with|some (cs,r,H)=>some ([Sv.rf H.next 0],r,nG H (.o g cs))|none=>none)=_
          rw[c3]
         ·exact .cons (.rf (Nat.lt_succ_self _) (by rw[K0,hK];exact k1)) .nil
         ·exact c5.trans (En.vP _ _ _) c6
       ·cases e
      ·cases e
     ·cases e
   | _=>cases e
 |ag p ih=>
  intro E0 H0 E X X' h vs rest cs pl S s hv e
  cases hv with
  |nil=>cases e
  |cons a l=>
   rename_i v c vs cs
   cases v with
   |ag cells=>
    change (match CH p cells X with|some (pl,[],X1)=>some (pl,vs,X1)| _=>none)=some (pl,rest,X')at e
    split at e
    ·rename_i Zu X1 hx
     cases e
     cases a with
     |ag k=>
      rename_i l'
      obtain⟨E1,zl,yN,ws,MI,BS,n1,S1,s1,c1,c2,c3,c4,c5,c6⟩:=ih S s k hx
      have zX:BS=[]:=by cases c2;rfl
      rw[zX,List.append_nil]at c1
      refine⟨E1,zl,yN,[.ag ws],[.agg l'],cs,n1,S1,s1,rfl,l.mono n1.e n1.le,fun tail=>?_,.cons (.ag (by rw[c1];exact c4)) .nil,c5,c6⟩
      show(match oi p (pl++tail) H0 with|some (cs,r,H)=>some ([Sv.ag cs],r,H)|none=>none)=_
      rw[c3]
    ·cases e
   | _=>cases e
 |tu p ih=>
  intro E0 H0 E X X' h vs rest cs pl S s hv e
  cases hv with
  |nil=>cases e
  |cons a l=>
   rename_i v c vs cs
   cases v with
   |tu cells=>
    change (match CH p cells X with|some (pl,[],X1)=>some (pl,vs,X1)| _=>none)=some (pl,rest,X')at e
    split at e
    ·rename_i Zu X1 hx
     cases e
     cases a with
     |tu k=>
      rename_i l'
      obtain⟨E1,zl,yN,ws,MI,BS,n1,S1,s1,c1,c2,c3,c4,c5,c6⟩:=ih S s k hx
      have zX:BS=[]:=by cases c2;rfl
      rw[zX,List.append_nil]at c1
      refine⟨E1,zl,yN,[.tu ws],[.wZ l'],cs,n1,S1,s1,rfl,l.mono n1.e n1.le,fun tail=>?_,.cons (.tu (by rw[c1];exact c4)) .nil,c5,c6⟩
      show(match oi p (pl++tail) H0 with|some (cs,r,H)=>some ([Sv.tu cs],r,H)|none=>none)=_
      rw[c3]
    ·cases e
   | _=>cases e
 |nil=>
  intro E0 H0 E X X' h vs rest cs pl S s hv e
  cases e
  exact⟨E,E0,H0,[],[],cs,Nx.refl _ _ _,S,s,rfl,hv,fun _=>rfl,.nil,Bh.refl _ _,Nat.le_refl _⟩
 |cons p q ihp ihq=>
  intro E0 H0 E X X' h vs rest cs pl S s hv e
  change (match CH p vs X with|some (pa,r,X1)=>(match CH q r X1 with|some (pb,r,X2)=>some (app pa pb,r,X2)|none=>none)|none=>none)=some (pl,rest,X')at e
  split at e
  ·rename_i pa r X1 hx
   split at e
   ·rename_i pb r2 X2 hx2
    cases e
    obtain⟨E1,E1',H1',ws1,a1,a2,n1,S1,s1,c1,c2,c3,c4,c5,c6⟩:=ihp S s hv hx
    obtain⟨E2,E2',H2',ws2,b1,b2,n2,S2,s2,d1,d2,d3,d4,d5,d6⟩:=ihq S1 s1 c2 hx2
    refine⟨E2,E2',H2',ws1++ws2,a1++b1,b2,n1.trans n2,S2,s2,by rw[c1,d1,List.append_assoc],d2,fun tail=>?_,(c4.mono d5 d6).app d4,c5.trans d5 c6,Nat.le_trans c6 d6⟩
    rw[mP,List.append_assoc]
    show(match oi p (pa++(pb++tail)) H0 with|some (v,r,H)=>(match oi q r H with|some (w,r,H)=>some (app v w,r,H)|none=>none)|none=>none)=_
    rw[c3]
    simp only[d3,mP]
   ·cases e
  ·cases e
 |fn f p ih=>
  intro E0 H0 E X X' h vs rest cs pl S s hv e
  cases hv with
  |nil=>cases e
  |cons a l=>
   rename_i v c vs cs
   cases v with
   |fn f' caps=>
    change (bif Nat.beq f f' then(match CH p caps X with|some (pl,[],X1)=>some (pl,vs,X1)| _=>none)else none)=some (pl,rest,X')at e
    have hf:=beq_true (cR e).1
    replace e:=(cR e).2
    subst hf
    split at e
    ·rename_i Zu X1 hx
     cases e
     cases a with
     |fn k=>
      rename_i l'
      obtain⟨E1,zl,yN,ws,MI,BS,n1,S1,s1,c1,c2,c3,c4,c5,c6⟩:=ih S s k hx
      have zX:BS=[]:=by cases c2;rfl
      rw[zX,List.append_nil]at c1
      refine⟨E1,zl,yN,[.fn f ws],[.fn f l'],cs,n1,S1,s1,rfl,l.mono n1.e n1.le,fun tail=>?_,.cons (.fn (by rw[c1];exact c4)) .nil,c5,c6⟩
      show(match oi p (pl++tail) H0 with|some (cs,r,H)=>some ([Sv.fn f cs],r,H)|none=>none)=_
      rw[c3]
    ·cases e
   | _=>cases e
 |zp p ih=>
  intro E0 H0 E X X' h vs rest cs pl S s hv e
  cases hv with
  |nil=>cases e
  |cons a l=>
   rename_i v c W7 BS
   cases v with
   |zp cells=>
    change (match CH p cells X with|some (pl,[],X1)=>some (pl,W7,X1)| _=>none)=some (pl,rest,X')at e
    split at e
    ·rename_i Zu X1 hx
     cases e
     have fin: ∀ l',Vs E X.H.next cells l'->(∀ (zl:En) (N:Nat) (ws:List Sv),Vs zl N ws l'->(∀ id row,E.G id=some row->zl.G id=some row)->V zl N (.zp ws) c)->
      ∃ E' zl yN ws ds1 ds2,Nx E E' X.H X'.H h h/\SR E' X'.H h/\Sub zl yN E' X' h/\c::BS=ds1++ds2/\Vs E' X'.H.next rest ds2/\(∀ tail,oi (.zp p) (pl++tail) H0=some (ws,tail,yN))/\Vs zl yN.next ws ds1/\Bh E0 zl H0.next/\H0.next<=yN.next:=by
      intro l' k hw
      obtain⟨E1,zl,yN,ws,ds1,ds2,n1,S1,s1,c1,c2,c3,c4,c5,c6⟩:=ih S s k hx
      have zX:ds2=[]:=by cases c2;rfl
      rw[zX,List.append_nil]at c1
      refine⟨E1,zl,yN,[.zp ws],[c],BS,n1,S1,s1,rfl,l.mono n1.e n1.le,fun tail=>?_,.cons (hw _ _ _ (by rw[c1];exact c4) fun id row g=>by rw[s1.G];exact n1.e.G id row g) .nil,c5,c6⟩
      show(match oi p (pl++tail) H0 with|some (cs,r,H)=>some ([Sv.zp cs],r,H)|none=>none)=_
      rw[c3]
     cases a with
     |zp k=>exact fin _ k fun _ _ _ w _=>.zp w
     |zr k g sg=>exact fin _ k fun _ _ _ w hg=>.zr w (hg _ _ g) (by rw[w.length,<-k.length];exact sg)
    ·cases e
   | _=>cases e
 |el j sz o=>
  intro E0 H0 E X X' h vs rest cs pl S s hv e
  cases hv with
  |nil=>cases e
  |cons a l=>
   rename_i v c vs cs
   cases v with
   |re r sz' i o'=>
    change (match look j X.rn with|some r'=>bif Nat.beq r r'&&(Nat.beq sz sz'&&Nat.beq o o')then some ([(⟨.int .i64,Int.ofNat i⟩:Pl)],vs,X)else none|none=>none)=some (pl,rest,X')at e
    split at e
    ·rename_i r' hr
     have hb:=(cR e).1
     replace e:=(cR e).2
     cases e
     rw[Bool.and_eq_true,Bool.and_eq_true]at hb
     have b1:=beq_true hb.1;have b2:=beq_true hb.2.1;have b3:=beq_true hb.2.2
     subst b1;subst b2;subst b3
     obtain⟨q1,q2,q3,q4⟩:=s.rn _ (uG hr)
     cases a with
     |re h1 h2 h3=>
      refine qY S s l (fun tail=>rfl) ?_
      exact .re (by rw[s.c];exact q1) (by rw[q4];exact h2) h3
    ·cases e
   | _=>cases e
 |rp j o=>
  intro E0 H0 E X X' h vs rest cs pl S s hv e
  cases hv with
  |nil=>cases e
  |cons a l=>
   rename_i v c vs cs
   cases v with
   |rf r o'=>
    change (match look j X.rn with|some r'=>bif Nat.beq r r'&&Nat.beq o o' then some (([]:List Pl),vs,X)else none|none=>none)=some (pl,rest,X')at e
    split at e
    ·rename_i r' hr
     have hb:=(cR e).1
     replace e:=(cR e).2
     cases e
     rw[Bool.and_eq_true]at hb
     have b1:=beq_true hb.1;have b2:=beq_true hb.2
     subst b1;subst b2
     obtain⟨q1,q2,q3,q4⟩:=s.rn _ (uG hr)
     cases a with
     |rf h1 h2=>
      refine qY S s l (fun tail=>rfl) ?_
      exact .rf (by rw[s.c];exact q1) (by rw[q4];exact h2)
    ·cases e
   | _=>cases e
 |oo j sz=>
  intro E0 H0 E X X' h vs rest cs pl S s hv e
  cases hv with
  |nil=>cases e
  |cons a l=>
   rename_i v c vs cs
   cases v with
   |os r sz'=>
    change (match look j X.rn with|some r'=>bif Nat.beq r r'&&Nat.beq sz sz' then some (([]:List Pl),vs,X)else none|none=>none)=some (pl,rest,X')at e
    split at e
    ·rename_i r' hr
     have hb:=(cR e).1
     replace e:=(cR e).2
     cases e
     rw[Bool.and_eq_true]at hb
     have b1:=beq_true hb.1;have b2:=beq_true hb.2
     subst b1;subst b2
     obtain⟨q1,q2,q3,q4⟩:=s.rn _ (uG hr)
     simp only at q4
     cases a with
     |os h1 h2=>
      refine qY S s l (fun tail=>rfl) ?_
      have hv:=V.os (E:=E0) (N:=H0.next) (r:=j) (sz:=sz) (by rw[s.c];exact q1) (by rw[q4];exact h2)
      rw[q4]at hv
      exact hv
    ·cases e
   | _=>cases e
end Lf
end Go.Ab
