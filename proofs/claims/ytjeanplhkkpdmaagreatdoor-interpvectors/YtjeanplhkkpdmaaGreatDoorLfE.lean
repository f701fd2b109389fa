import Derived.Test.YtjeanplhkkpdmaaGreatDoorLfD7
noncomputable section
namespace Go.Ab
namespace Lf
section
variable {call:lL}{cb:cx}(C:vu call cb)
include C
theorem WT(o:lK):lV (sOp call o) (fun n d=>Oh (cb n d) o):=by
 have h0:=fun o=>ac6 C o
 have ho:=h0 o;cases o with
 |gd j w f=>
  have hw:=OH (h0 f) j w;cases f with
  |mn f=>
   have hw:=OH (OG (h0 f)) j w;exact hw
  | _=>exact hw
 |mn f=>
  have hw:=OG (h0 f);cases f with
  |gd j w f=>exact OG (OH (h0 f) j w)
  | _=>exact hw
 | _=>exact ho
def asv(f:Tq->Hq->T (Tq×Hq))(g:Nat->Nat->uM):Prop:= ∀ (E:En) (T:Tq) (t:Tm) (H:Hq) (h:Hp) (T':Tq) (H':Hq),TV E H.next T t->SR E H h->(f T H).val=some (T',H')->
 ∃ t' h' E',Ev (fun n d=>g n d t h) (.ok t' h')/\Nx E E' H H' h h'/\SR E' H' h'/\TV E' H'.next T' t'
theorem WU(r:zH):asv (DU call r) (fun n d=>T9 (cb n d) r):=by
 induction r with
 |fi=>intro E T t H h T' H' hT hH e;cases e;exact⟨t,h,E,Ev.const rfl,Nx.refl _ _ _,hH,hT⟩
 |st i f k ih=>
  intro E T t H h T' H' hT hH e
  change (bif Nat.blt i 512 then(sOp call f T H).bd fun p=>DU call k (p.2.1.put i (some p.1)) p.2.2 else .bad).val=some (T',H')at e
  obtain⟨hi,e⟩:=lC e;obtain⟨⟨v,T1,H1⟩,e1,e2⟩:=Lf.T.kj e;obtain⟨c,h1,E1,k1,X1,S1,w1,zI⟩:=WT C f E T t H h v T1 H1 hT hH e1;obtain⟨t2,h2,E2,k2,X2,S2,Uc⟩:=ih E1 _ (t.put i (some c)) H1 h1 T' H' (zI.put (jn.1 hi) w1) S1 e2;refine⟨t2,h2,E2,k1.akY k2 fun n d q1 q2=>?_,X1.trans X2,S2,Uc⟩;show(Go.Ab.Ro.rec Go.Ab.Rt.bad (fun v h=>T9 (cb n d) k (sT i v t) h) (Oh (cb n d) f t h):Go.Ab.Rt)=_
  try dsimp only at q1
  rw[q1];exact q2
 |sn f k ih=>
  intro E T t H h T' H' hT hH e
  change ((sOp call f T H).bd fun p=>DU call k p.2.1 p.2.2).val=some (T',H')at e
  obtain⟨⟨v,T1,H1⟩,e1,e2⟩:=Lf.T.kj e;obtain⟨c,h1,E1,k1,X1,S1,w1,zI⟩:=WT C f E T t H h v T1 H1 hT hH e1;obtain⟨t2,h2,E2,k2,X2,S2,Uc⟩:=ih E1 _ t H1 h1 T' H' zI S1 e2;refine⟨t2,h2,E2,k1.akY k2 fun n d q1 q2=>?_,X1.trans X2,S2,Uc⟩;show(Go.Ab.Ro.rec Go.Ab.Rt.bad (fun v h=>T9 (cb n d) k t h) (Oh (cb n d) f t h):Go.Ab.Rt)=_
  try dsimp only at q1
  rw[q1];exact q2
 |ck s f k ih=>
  intro E T t H h T' H' hT hH e;have fin: ∀ (F:Nat->Nat->lO) (y z:AV),(∀ n d,F n d t h=.ok y h)->cY s t=some z->uE z y=true->(DU call k T H).val=some (T',H')-> ∃ t' h' E',Ev (fun n d=>Go.Ab.ck (cY s) (F n d) (T9 (cb n d) k) t h) (.ok t' h')/\Nx E E' H H' h h'/\SR E' H' h'/\TV E' H'.next T' t':=by
   intro F y z hF hz hs e;obtain⟨t2,h2,E2,k2,X2,S2,Uc⟩:=ih E T t H h T' H' hT hH e;refine⟨t2,h2,E2,k2.Ap fun n d q=>?_,X2,S2,Uc⟩;show(Go.Ab.Ro.rec Go.Ab.Rt.bad (fun v _=>Option.rec Go.Ab.Rt.bad (fun u=>Bool.rec Go.Ab.Rt.bad (T9 (cb n d) k t h) (uE u v)) (cY s t)) (F n d t h):Go.Ab.Rt)=_;rw[hF,hz];simp only[hs];exact q
  have ldc: ∀ {sz:Nat} {g:Bool} {a:Od},(LO s sz g a T H (DU call k T H)).val=some (T',H')-> ∃ y z,r7 sz g (cY a) t h=.ok y h/\cY s t=some z/\uE z y=true/\(DU call k T H).val=some (T',H'):=by
   intro sz g a e;unfold LO at e;split at e
   ·rename_i p hp
    split at e
    ·rename_i v hv
     split at e
     ·rename_i u hu
      split at e
      ·rename_i c hc
       obtain⟨nd,e⟩:=tU e;obtain⟨x,hx,Vw⟩:=cU hT hp;obtain⟨y,hy,hyv⟩:=FR hH Vw hv;obtain⟨z,hz,Dz⟩:=cU hT hu;have hs:=FV Dz hyv hc nd;exact⟨y,z,by unfold r7;rw[hx];simp only[hy],hz,hs,e⟩
      ·cases e
     ·cases e
    ·cases e
   ·cases e
  have unc:(Hd s T (DU call k T H)).val=some (T',H')-> ∃ z,cY s t=some z/\uE z n7=true/\(DU call k T H).val=some (T',H'):=by
   intro e;unfold Hd at e;split at e
   ·rename_i hu
    obtain⟨z,hz,Dz⟩:=cU hT hu;cases Dz with
    |tu q=>cases q;exact⟨_,hz,by kernel_rfl,e⟩
   ·cases e
  cases f with
  |ld sz g a=>
   obtain⟨y,z,h1,h2,h3,h4⟩:=ldc e;exact fin (fun _ _=>r7 sz g (cY a)) y z (fun _ _=>h1) h2 h3 h4
  |slN sz a lo hi=>
   change (Wg s sz a lo hi T H (DU call k T H)).val=some (T',H')at e
   unfold Wg at e;obtain⟨⟨v,T1,H1⟩,e1,e2⟩:=Lf.T.kj e;obtain⟨_,_,y,hy,hyv⟩:=LZ sz a lo hi E T t H h v T1 H1 hT hH e1;split at e2
   ·rename_i u hu
    split at e2
    ·rename_i c hc
     obtain⟨nd,e2⟩:=tU e2;obtain⟨z,hz,Dz⟩:=cU hT hu;exact fin (fun _ _=>mQ sz (cY a) (lo.map cY) (hi.map cY)) y z (fun _ _=>hy) hz (FV Dz hyv hc nd) e2
    ·cases e2
   ·cases e2
  |slA n sz a lo hi=>
   change (Wh s n sz a lo hi T H (DU call k T H)).val=some (T',H')at e
   unfold Wh at e;obtain⟨⟨v,T1,H1⟩,e1,e2⟩:=Lf.T.kj e;obtain⟨_,_,y,hy,hyv⟩:=L1 n sz a lo hi E T t H h v T1 H1 hT hH e1;split at e2
   ·rename_i u hu
    split at e2
    ·rename_i c hc
     obtain⟨nd,e2⟩:=tU e2;obtain⟨z,hz,Dz⟩:=cU hT hu;exact fin (fun _ _=>ph n sz (cY a) (lo.map cY) (hi.map cY)) y z (fun _ _=>hy) hz (FV Dz hyv hc nd) e2
    ·cases e2
   ·cases e2
  |gd j w f=>
   cases f with
   |ld sz g a=>
    change (match qx j T with
     |some (.b c)=>bif (bif w then c else !c)then LO s sz g a T H (DU call k T H)else Hd s T (DU call k T H)
     |some (.tu [])=>Hd s T (DU call k T H)
     | _=>.bad:Lf.T (Tq×Hq)).val=some (T',H')at e
    split at e
    ·rename_i c hj
     obtain⟨q,hq,hqv⟩:=cU hT hj;cases hqv;cases hc:(bif w then c else !c)with
     |true=>
      rw[hc]at e;obtain⟨y,z,h1,h2,h3,h4⟩:=ldc e;refine fin (fun _ _=>gF (cY j) w (r7 sz g (cY a))) y z (fun _ _=>?_) h2 h3 h4;unfold gF;rw[hq]
      cases w<;>cases c<;>first|(cases hc;done)|exact h1
     |false=>
      rw[hc]at e;obtain⟨z,h2,h3,h4⟩:=unc e;refine fin (fun _ _=>gF (cY j) w (r7 sz g (cY a))) n7 z (fun _ _=>?_) h2 h3 h4;unfold gF;rw[hq]
      cases w<;>cases c<;>first|(cases hc;done)|rfl
    ·rename_i hj
     obtain⟨q,hq,hqv⟩:=cU hT hj;cases hqv with
     |tu qq=>
      cases qq;obtain⟨z,h2,h3,h4⟩:=unc e;refine fin (fun _ _=>gF (cY j) w (r7 sz g (cY a))) n7 z (fun _ _=>?_) h2 h3 h4;unfold gF;rw[hq]
    ·cases e
   | _=>cases e
  | _=>cases e
omit C in
theorem qT{v w:Sv}{t t':Tq}{h h':Hq}(e:(okV v t h).val=some (w,t',h')):h'=h:=(cE e).2.2
omit C in
theorem yf{v:Option Sv}{w:Sv}{t t':Tq}{h h':Hq}(e:(okO v t h).val=some (w,t',h')):h'=h:=(tW e).2.2
omit C in
theorem Jw{j:Od}{T0 T':Tq}{a b:Tq->T (Sv×Tq×Hq)}{v:Sv}{H H':Hq}(ha: ∀ t,(a t).val=some (v,T',H')->H'=H)(hb: ∀ t,(b t).val=some (v,T',H')->H'=H)(e:(Ak j T0 a b).val=some (v,T',H')):H'=H:=by
 unfold Ak at e;split at e
 ·rename_i i
  cases HI:Nat.blt i 512 with
  |false=>rw[HI]at e;cases e
  |true=>
   rw[HI]at e;simp only[cond_true]at e;split at e
   ·rename_i c _
    cases c with
    |true=>exact ha _ e
    |false=>exact hb _ e
   ·rename_i m x _
    rw[Lf.T.kX]at e;cases x with
    |true=>exact ha _ e
    |false=>exact hb _ e
   ·cases e
 ·rename_i c
  cases c with
  |true=>exact ha _ e
  |false=>exact hb _ e
 ·cases e
omit C in
theorem Jx{o:lK}(hp:vq o=true)(hg: ∀ j w f,o≠ .gd j w f){T0 T':Tq}{H H':Hq}{v:Sv}(e:(FM call o T0 H).val=some (v,T',H')):H'=H:=by
 cases o<;>first|(cases hp;done)|exact(hg _ _ _ rfl).elim|skip
 case mv=>exact yf e
 case pk=>exact Jw (a:=fun t=>FH _ t H) (b:=fun t=>FH _ t H) (fun _ e=>yf e) (fun _ e=>yf e) e
 all_goals
  simp only[FM]at e
  first
   |unfold Qe at e
   |unfold Qf at e
   |unfold acu at e
   |unfold sUn at e
   |unfold wZ at e
   |unfold Jj at e
   |unfold acv at e
   |unfold acw at e
   |unfold Jl at e
   |unfold Es at e
   |unfold BB at e
   |unfold jY at e
   |unfold Qg at e
   |unfold Om at e
  repeat' split at e
  all_goals first
   |(cases e;done)
   |exact qT e
   |exact yf e
   |exact qT (Lf.T.cw e).2
   |(obtain⟨_,_,e2⟩:=Lf.T.kj e;exact qT e2)
   |(obtain⟨_,e⟩:=lC e;obtain⟨_,_,_,e2⟩:=yO e;exact qT e2)
   |(obtain⟨_,e⟩:=lC e;first|exact qT e|exact yf e|exact qT (Lf.T.cw e).2)
   |skip
omit C in
theorem WV{o:lK}(hp:vq o=true){T0 T':Tq}{H H':Hq}{v:Sv}(e:(sOp call o T0 H).val=some (v,T',H')):H'=H:=by
 cases o with
 |gd j w f=>
  have hf:vq f=true/\(∀ j w g,f≠ .gd j w g)/\ ∀ g,f≠ .mn g:=by
   cases f<;>first|(cases hp;done)|exact⟨hp,fun _ _ _=>(by intro h;cases h),fun _=>(by intro h;cases h)⟩
  have e':(sGd j w (FM call f) T0 H).val=some (v,T',H'):=by
   cases f<;>first|exact e|exact(hf.2.2 _ rfl).elim
  unfold sGd at e';split at e'
  ·exact qT e'
  ·cases w with
   |true=>exact Jw (a:=fun t=>FM call f t H) (b:=fun t=>okV x' t H) (fun _ e=>Jx hf.1 hf.2.1 e) (fun _ e=>qT e) e'
   |false=>exact Jw (a:=fun t=>okV x' t H) (b:=fun t=>FM call f t H) (fun _ e=>qT e) (fun _ e=>Jx hf.1 hf.2.1 e) e'
 |mn f=>cases hp
 | _=>first|(cases hp;done)|exact Jx (call:=call) (T0:=T0) hp (fun _ _ _ h=>by cases h) e
omit C in
theorem ac8{r:zH}(hp:FN r=true): ∀ {T0 T':Tq} {H H':Hq},(DU call r T0 H).val=some (T',H')->H'=H:=by
 induction r with
 |fi=>intro T0 T' H H' e;cases e;rfl
 |st i f k ih=>
  intro T0 T' H H' e;have hp:(bif vq f then FN k else false)=true:=hp;cases hf:vq f with
  |false=>rw[hf]at hp;cases hp
  |true=>
   rw[hf]at hp
   change (bif Nat.blt i 512 then(sOp call f T0 H).bd fun p=>DU call k (p.2.1.put i (some p.1)) p.2.2 else .bad).val=some (T',H')at e
   obtain⟨_,e⟩:=lC e;obtain⟨⟨v,T1,H1⟩,e1,e2⟩:=Lf.T.kj e;rw[ih hp e2];exact WV hf e1
 |sn f k ih=>
  intro T0 T' H H' e;have hp:(bif vq f then FN k else false)=true:=hp;cases hf:vq f with
  |false=>rw[hf]at hp;cases hp
  |true=>
   rw[hf]at hp
   change ((sOp call f T0 H).bd fun p=>DU call k p.2.1 p.2.2).val=some (T',H')at e
   obtain⟨⟨v,T1,H1⟩,e1,e2⟩:=Lf.T.kj e;rw[ih hp e2];exact WV hf e1
 |ck s f k ih=>
  intro T0 T' H H' e;have ldc: ∀ {sz:Nat} {g:Bool} {a:Od},(LO s sz g a T0 H (DU call k T0 H)).val=some (T',H')->H'=H:=by
   intro sz g a e;unfold LO at e;split at e
   ·split at e
    ·split at e
     ·split at e
      ·obtain⟨_,e⟩:=tU e;exact ih hp e
      ·cases e
     ·cases e
    ·cases e
   ·cases e
  have unc:(Hd s T0 (DU call k T0 H)).val=some (T',H')->H'=H:=by
   intro e;unfold Hd at e;split at e
   ·exact ih hp e
   ·cases e
  cases f with
  |ld sz g a=>exact ldc e
  |slN sz a lo hi=>
   change (Wg s sz a lo hi T0 H (DU call k T0 H)).val=some (T',H')at e
   unfold Wg at e;obtain⟨⟨v,T1,H1⟩,e1,e2⟩:=Lf.T.kj e;split at e2
   ·split at e2
    ·obtain⟨_,e2⟩:=tU e2;exact ih hp e2
    ·cases e2
   ·cases e2
  |slA n sz a lo hi=>
   change (Wh s n sz a lo hi T0 H (DU call k T0 H)).val=some (T',H')at e
   unfold Wh at e;obtain⟨⟨v,T1,H1⟩,e1,e2⟩:=Lf.T.kj e;split at e2
   ·split at e2
    ·obtain⟨_,e2⟩:=tU e2;exact ih hp e2
    ·cases e2
   ·cases e2
  |gd j w f=>
   cases f with
   |ld sz g a=>
    change (match qx j T0 with
     |some (.b c)=>bif (bif w then c else !c)then LO s sz g a T0 H (DU call k T0 H)else Hd s T0 (DU call k T0 H)
     |some (.tu [])=>Hd s T0 (DU call k T0 H)
     | _=>.bad:Lf.T (Tq×Hq)).val=some (T',H')at e
    split at e
    ·rename_i c hj
     cases hc:(bif w then c else !c)with
     |true=>rw[hc]at e;exact ldc e
     |false=>rw[hc]at e;exact unc e
    ·exact unc e
    ·cases e
   | _=>cases e
  | _=>cases e
omit C in
theorem SF{c:kh}{r:zH}: ∀ {t t':Tm} {h h':Hp},jC (fun i=>Nat.blt i 512) (BG r)=true->T9 c r t h=.ok t' h'-> ∀ i,i<512->i∉BG r->t'.at i=t.at i:=by
 induction r with
 |fi=>intro t t' h h' _ e i _ _;cases e;rfl
 |st j f k ih=>
  intro t t' h h' hb e i hi hn;have hb:(bif Nat.blt j 512 then jC (fun i=>Nat.blt i 512) (BG k)else false)=true:=hb;cases hj:Nat.blt j 512 with
  |false=>rw[hj]at hb;cases hb
  |true=>
   rw[hj]at hb;have hn':i∉j::BG k:=hn
   change (Go.Ab.Ro.rec Go.Ab.Rt.bad (fun v h=>T9 c k (sT j v t) h) (Oh c f t h):Go.Ab.Rt)=.ok t' h' at e
   cases ha:Oh c f t h with
   |bad=>rw[ha]at e;cases e
   |ok v h1=>
    rw[ha]at e;rw[ih hb e i hi fun q=>hn' (List.mem_cons_of_mem _ q)];show(t.put j (some v)).at i=_;rw[Tm.pK _ _ _ _ (jn.1 hj) hi,if_neg fun q=>hn' (by rw[q];exact List.mem_cons_self)]
 |sn f k ih=>
  intro t t' h h' hb e i hi hn
  change (Go.Ab.Ro.rec Go.Ab.Rt.bad (fun v h=>T9 c k t h) (Oh c f t h):Go.Ab.Rt)=.ok t' h' at e
  cases ha:Oh c f t h with
  |bad=>rw[ha]at e;cases e
  |ok v h1=>rw[ha]at e;exact ih hb e i hi hn
 |ck s f k ih=>
  intro t t' h h' hb e i hi hn
  change (Go.Ab.Ro.rec Go.Ab.Rt.bad (fun v _=>Option.rec Go.Ab.Rt.bad (fun u=>Bool.rec Go.Ab.Rt.bad (T9 c k t h) (uE u v)) (cY s t)) (Oh c f t h):Go.Ab.Rt)=.ok t' h' at e
  cases ha:Oh c f t h with
  |bad=>rw[ha]at e;cases e
  |ok v h1=>
   rw[ha]at e;cases hs:cY s t with
   |none=>rw[hs]at e;cases e
   |some u=>
    rw[hs]at e;simp only at e;cases hq:uE u v with
    |false=>rw[hq]at e;cases e
    |true=>rw[hq]at e;exact ih hb e i hi hn
omit C in
theorem Jy{E:En}{N:Nat}{c:Bool}{v w u:Sv}{a:AV}(e:mgV c v w=some u)(hv:V E N (bif c then v else w) a):V E N u a:=by
 have VU:(match toN v,toN w with
  |some (k,x),some (k',y)=>bif qf k k' then some (Sv.c 0 (.int k) (bif c then x else y))else none
  | _,_=>match toB v,toB w with
   |some x,some y=>some (.c 0 .bool (bif c then x.v else y.v))
   | _,_=>none)=some u->V E N u a:=by
  intro e;split at e
  ·rename_i k x k' y h1 h2
   obtain⟨hk,e⟩:=jI e;cases e;have:=l8.1 hk;subst this;cases c with
   |true=>rw[oA hv h1];exact m0
   |false=>rw[oA hv h2];exact m0
  ·split at e
   ·rename_i x y h1 h2
    cases e;cases c with
    |true=>rw[oS hv h1];exact s5
    |false=>rw[oS hv h2];exact s5
   ·cases e
 unfold mgV at e;split at e
 ·rename_i x y
  cases x<;>cases y<;>cases c<;>cases e<;>cases hv<;>first|exact .b|exact s5
 ·obtain⟨h,e⟩:=jI e;cases e;have:=Eo _ _ h;subst this;cases c<;>exact hv
 ·obtain⟨h,e⟩:=jI e;cases e;rw[Bool.and_eq_true]at h;have h1:=beq_true h.1;have h2:=beq_true h.2;subst h1;subst h2;cases c<;>exact hv
 ·obtain⟨h,e⟩:=jI e;cases e;rw[Bool.and_eq_true]at h;have h1:=beq_true h.1;have h2:=beq_true h.2;subst h1;subst h2;cases c<;>exact hv
 ·split at e
  ·rename_i p _
   cases p;cases e;cases c with
   |true=>cases hv with
    |c k _=>exact .c k fun h=>(h rfl).elim
   |false=>cases hv with
    |c k _=>exact .c k fun h=>(h rfl).elim
  ·cases e
 ·rename_i k x k' y
  have h:=(jI e).1
  replace e:=(jI e).2
  have:=l8.1 h;subst this;cases hb:eqI x y with
  |true=>
   rw[hb]at e;cases e;have:=nu.1 hb;subst this;cases c<;>exact hv
  |false=>
   rw[hb]at e;cases e;cases c<;>cases hv<;>exact m0
 ·exact VU e
omit C in
theorem WW{E:En}{N:Nat}{c:Bool}{a b T0:Tq}{t':Tm}(ht:TV E N (bif c then a else b) t'): ∀ {GR:List Nat},jC (fun i=>Nat.blt i 512) GR=true->(∀ i v,i<512->i∉GR->T0.at i=some v-> ∃ x,t'.at i=some x/\V E N v x)->TV E N (mgT GR c T0 a b) t'
 | [],_,h0=>fun i v hi hv=>h0 i v hi (by simp) hv
 |j::GR,hb,h0=>by
  have hb:(bif Nat.blt j 512 then jC (fun i=>Nat.blt i 512) GR else false)=true:=hb;cases hj:Nat.blt j 512 with
  |false=>rw[hj]at hb;cases hb
  |true=>
   rw[hj]at hb;have key: ∀ i v,i<512->i≠j->(mgT GR c T0 a b).at i=some v-> ∃ x,t'.at i=some x/\V E N v x:=by
    intro i v hi qF hv;have gen: ∀ {l:List Nat},jC (fun i=>Nat.blt i 512) l=true->(∀ q,q∈l->q∈GR)->(mgT l c T0 a b).at i=some v->(i∈l/\mgO c (a.at i) (b.at i)=some v)∨(i∉l/\T0.at i=some v):=by
     intro l
     induction l with
     |nil=>intro _ _ e;exact .inr ⟨by simp,e⟩
     |cons q l ih=>
      intro hl hs e;have hl:(bif Nat.blt q 512 then jC (fun i=>Nat.blt i 512) l else false)=true:=hl;cases hq:Nat.blt q 512 with
      |false=>rw[hq]at hl;cases hl
      |true=>
       rw[hq]at hl
       change ((mgT l c T0 a b).put q (mgO c (a.at q) (b.at q))).at i=some v at e
       rw[Tq.pK _ _ _ _ (jn.1 hq) hi]at e;split at e
       ·rename_i e';subst e';exact .inl ⟨List.mem_cons_self,e⟩
       ·rename_i ne
        rcases ih hl (fun q hq=>hs q (List.mem_cons_of_mem _ hq)) e with⟨k1,k2⟩|⟨k1,k2⟩
        ·exact .inl ⟨List.mem_cons_of_mem _ k1,k2⟩
        ·exact .inr ⟨fun h=>(List.mem_cons.1 h).elim ne k1,k2⟩
    rcases gen hb (fun _ h=>h) hv with⟨_,k⟩|⟨k1,k2⟩
    ·unfold mgO at k;split at k
     ·split at k
      ·rename_i _ v1 h1 _ v2 h2
       cases c with
       |true=>
        obtain⟨x,x1,x2⟩:=ht i v1 hi h1;exact⟨x,x1,Jy k x2⟩
       |false=>
        obtain⟨x,x1,x2⟩:=ht i v2 hi h2;exact⟨x,x1,Jy k x2⟩
      ·cases k
     ·cases k
    ·exact h0 i v hi (fun h=>(List.mem_cons.1 h).elim qF k1) k2
   intro i v hi hv
   change ((mgT GR c T0 a b).put j (mgO c (a.at j) (b.at j))).at i=some v at hv
   rw[Tq.pK _ _ _ _ (jn.1 hj) hi]at hv;split at hv
   ·rename_i e;subst e
    unfold mgO at hv;split at hv
    ·split at hv
     ·rename_i _ v1 h1 _ v2 h2
      cases c with
      |true=>
       obtain⟨x,x1,x2⟩:=ht i v1 hi h1;exact⟨x,x1,Jy hv x2⟩
      |false=>
       obtain⟨x,x1,x2⟩:=ht i v2 hi h2;exact⟨x,x1,Jy hv x2⟩
     ·cases hv
    ·cases hv
   ·rename_i ne;exact key i v hi ne hv
omit C in
theorem LB.akZ(c:Bool)(x y:LB):(LB.cond c x y).v=bif c then x.v else y.v:=by
 cases x with
 |l x=>cases x<;>cases y with
  |l y=>cases y<;>cases c<;>rfl
  |t y=>rfl
 |t x=>cases y<;>rfl
omit C in
theorem ak0{GR:List Nat}(hb:jC (fun i=>Nat.blt i 512) GR=true){T0:Tq}{x:T (Tq×Hq)}(h:(mgR GR T0 x).1.v=true): ∃ p,x.val=some p/\ ∀ (E:En) (N:Nat) (t':Tm),TV E N p.1 t'->(∀ i v,i<512->i∉GR->T0.at i=some v-> ∃ a,t'.at i=some a/\V E N v a)->TV E N (mgR GR T0 x).2 t':=by
 induction x with
 |bad=>cases h
 |ok p=>exact⟨p,rfl,fun E N t' h1 _=>h1⟩
 |br c a b Aa EN=>
  have h':(bif c then(mgR GR T0 a).1.v else(mgR GR T0 b).1.v)=true:=by
   have h1:(LB.cond c (mgR GR T0 a).1 (mgR GR T0 b).1).v=true:=h
   rwa [LB.akZ]at h1
  cases c with
  |true=>
   obtain⟨p,p1,p2⟩:=Aa h';exact⟨p,p1,fun E N t' h1 h2=>WW (c:=true) (p2 E N t' h1 h2) hb h2⟩
  |false=>
   obtain⟨p,p1,p2⟩:=EN h';exact⟨p,p1,fun E N t' h1 h2=>WW (c:=false) (p2 E N t' h1 h2) hb h2⟩
 |ck c a ih=>
  have h1:(LB.and (.t c) (mgR GR T0 a).1).v=true:=h;rw[LB.Wy,Bool.and_eq_true]at h1;obtain⟨p,p1,p2⟩:=ih h1.2;have hc:c=true:=h1.1;subst hc;exact⟨p,p1,p2⟩
omit C in
theorem C4: ∀ (l:List Sv) (n:Nat),(kQ l n).1.length=l.length
 | [],_=>rfl
 |a::l,n=>by
  have plain:(kQ (a::l) n)=(a::(kQ l n).1,(kQ l n).2)->(kQ (a::l) n).1.length=(a::l).length:=fun e=>by
   rw[e];exact congrArg Nat.succ (C4 l n)
  cases a with
  |c m t x=>
   cases t with
   |cq t=>
    cases hm:Nat.beq m 0 with
    |false=>
     refine plain ?_;show(bif Nat.beq m 0 then _ else _)=_;rw[hm];rfl
    |true=>
     have e:kQ (.c m (.cq t) x::l) n=(.c n (.cq t) x::(kQ l (Nat.add n 1)).1,(kQ l (Nat.add n 1)).2):=by
      show(bif Nat.beq m 0 then _ else _)=_;rw[hm];rfl
     rw[e];exact congrArg Nat.succ (C4 l _)
   | _=>exact plain rfl
  | _=>exact plain rfl
omit C in
theorem WX{k:Tq->Hq->T Oc}{t:Tm}{h:Hp}{o:Oc}: ∀ (l:List Nat) (E:En) (T:Tq) (H:Hq),TV E H.next T t->SR E H h->(HY l k T H).val=some o->
 ∃ T' H' E',Nx E E' H H' h h/\SR E' H' h/\TV E' H'.next T' t/\(k T' H').val=some o:=by
 intro l
 induction l with
 |nil=>intro E T H hT hH e;exact⟨T,H,E,Nx.refl _ _ _,hH,hT,e⟩
 |cons i l ih=>
  intro E T H hT hH e
  change (bif Nat.blt i 512 then(match T.at i with
   |some (.zp w)=>HY l k (T.put i (some (.zp (kQ w H.next).1))) ⟨(kQ w H.next).2,H.cz⟩
   | _=>HY l k T H)else HY l k T H:Lf.T Oc).val=some o at e
  cases hi:Nat.blt i 512 with
  |false=>rw[hi]at e;exact ih E T H hT hH e
  |true=>
   rw[hi]at e;simp only[cond_true]at e;split at e
   ·rename_i w hw
    obtain⟨a,ha,DV⟩:=hT i _ (jn.1 hi) hw
    have key: ∀ w':List AV,Vs E H.next w w'->(∀ E',Nx E E' H ⟨(kQ w H.next).2,H.cz⟩ h h->Vs E' (kQ w H.next).2 (kQ w H.next).1 w'->V E' (kQ w H.next).2 (.zp (kQ w H.next).1) a)->
     ∃ T' H' E',Nx E E' H H' h h/\SR E' H' h/\TV E' H'.next T' t/\(k T' H').val=some o:=by
     intro w' hw' hz;obtain⟨E1,n1,s1,v1⟩:=L5 w w' E H hH hw';have zI:TV E1 (kQ w H.next).2 (T.put i (some (.zp (kQ w H.next).1))) t:=by
      have:=(hT.mono n1.e n1.le)
      intro j u hj hu;rw[Tq.pK _ _ _ _ (jn.1 hi) hj]at hu;split at hu
      ·rename_i e1
       subst e1;cases hu;exact⟨_,ha,hz E1 n1 v1⟩
      ·exact this j u hj hu
     obtain⟨T',H',E',k1,k2,k3,k4⟩:=ih E1 _ ⟨(kQ w H.next).2,H.cz⟩ zI s1 e;exact⟨T',H',E',n1.trans k1,k2,k3,k4⟩
    cases DV with
    |zp hl'=>exact key _ hl' fun E' _ q=>.zp q
    |zr hl' hg hs=>exact key _ hl' fun E' n q=>.zr q (n.e.G _ _ hg) (by rw[C4];exact hs)
   ·exact ih E T H hT hH e
theorem ac9(r:zH):asv (acz call r) (fun n d=>T9 (cb n d) r):=by
 intro E T0 t H h T' H' hT hH e;unfold acz at e;cases hp:(FN r&&jC (fun i=>Nat.blt i 512) (BG r))with
 |false=>rw[hp]at e;exact WU C r E T0 t H h T' H' hT hH e
 |true=>
  rw[hp]at e;rw[Bool.and_eq_true]at hp;simp only[cond_true]at e;obtain⟨h1,e⟩:=tU e;cases e;obtain⟨⟨T1,H1⟩,p1,p2⟩:=ak0 hp.2 h1;have hH1:H1=H:=ac8 hp.1 p1;subst hH1;obtain⟨t',h',E',k,X,S,Ua⟩:=WU C r E T0 t H1 h T1 H1 hT hH p1;refine⟨t',h',E',k,X,S,p2 E' H1.next t' Ua fun i v hi hn hv=>?_⟩;obtain⟨a,ha,DV⟩:=hT i v hi hv;obtain⟨M,k⟩:=k;have k':=k M M (Nat.le_refl _) (Nat.le_refl _);dsimp only at k';exact⟨a,by rw[SF hp.2 k' i hi hn];exact ha,DV.mono X.e X.le⟩
structure Ox(E E':En)(H H':Hq)(h h':Hp):Prop where
 A:E'.A=E.A
 G:GLe E.G E'.G
 KO:h.next<=h'.next
 ow: ∀ r id,own H' r->sI (E'.K r).av=some id->(∃ r0,own H r0/\sI (E.K r0).av=some id)∨h.next<=id
 gw: ∀ id row,E'.G id=some row->E.G id=some row∨(∃ r0,own H r0/\sI (E.K r0).av=some id)∨h.next<=id
 fr: ∀ id,id<h.next->(∀ r,own H r->sI (E.K r).av≠some id)->h'.cz.get id=h.cz.get id
omit C in
theorem Nx.ox{E E':En}{H H':Hq}{h h':Hp}(X:Nx E E' H H' h h'):Ox E E' H H' h h':=⟨X.e.A,X.e.G,X.KO,X.ow,X.gw,X.fr⟩
omit C in
theorem Ox.trans{E E1 E2:En}{H H1 H2:Hq}{h h1 h2:Hp}(a:Ox E E1 H H1 h h1)(b:Ox E1 E2 H1 H2 h1 h2):Ox E E2 H H2 h h2 where
 A:=b.A.trans a.A
 G id row e:=b.G id row (a.G id row e)
 KO:=Nat.le_trans a.KO b.KO
 ow r id k e:=by
  rcases b.ow r id k e with⟨r0,k0,e0⟩|k0
  ·exact a.ow r0 id k0 e0
  ·exact .inr (Nat.le_trans a.KO k0)
 gw id row e:=by
  rcases b.gw id row e with k|⟨r0,k0,e0⟩|k
  ·exact a.gw id row k
  ·rcases a.ow r0 id k0 e0 with k|k
   ·exact .inr (.inl k)
   ·exact .inr (.inr k)
  ·exact .inr (.inr (Nat.le_trans a.KO k))
 fr id hi hn:=by
  rw[b.fr id (Nat.lt_of_lt_of_le hi a.KO) fun r k e=>?_,a.fr id hi hn]
  rcases a.ow r id k e with⟨r0,k0,e0⟩|k0
  ·exact hn r0 k0 e0
  ·omega
structure Rx where
 X:En->En->Hq->Hq->Hp->Hp->Prop
 of: ∀ {E E':En} {H H':Hq} {h h':Hp},Nx E E' H H' h h'->X E E' H H' h h'
 tr: ∀ {E E1 E2:En} {H H1 H2:Hq} {h h1 h2:Hp},X E E1 H H1 h h1->X E1 E2 H1 H2 h1 h2->X E E2 H H2 h h2
def Rx.s:Rx:=⟨Nx,fun X=>X,Nx.trans⟩
def Rx.w:Rx:=⟨Ox,Nx.ox,Ox.trans⟩
def OcR(R:Rx)(E:En)(H:Hq)(h:Hp):Oc->Go.Ab.Rc->Prop
 | .norm T' H',.norm t' h'=> ∃ E',R.X E E' H H' h h'/\SR E' H' h'/\TV E' H'.next T' t'
 | .ret T' H',.ret t' h'=> ∃ E',R.X E E' H H' h h'/\SR E' H' h'/\TV E' H'.next T' t'
 | .exit i T' H',.exit j t' h'=>i=j/\ ∃ E',R.X E E' H H' h h'/\SR E' H' h'/\TV E' H'.next T' t'
 | _,_=>False
def lE(R:Rx)(f:mB)(g:Nat->Nat->GP):Prop:= ∀ (E:En) (T:Tq) (t:Tm) (H:Hq) (h:Hp) (o:Oc),TV E H.next T t->SR E H h->(f T H).val=some o->
 ∃ r,Ev (fun n d=>g n d t h) r/\OcR R E H h o r
omit C in
theorem OcR.norm{R:Rx}{E:En}{H:Hq}{h:Hp}{T':Tq}{H':Hq}{r:Go.Ab.Rc}(k:OcR R E H h (.norm T' H') r): ∃ t' h' E',r=.norm t' h'/\R.X E E' H H' h h'/\SR E' H' h'/\TV E' H'.next T' t':=by
 cases r with
 |norm t' h'=>obtain⟨E',a,b,c⟩:=k;exact⟨t',h',E',rfl,a,b,c⟩
 | _=>exact k.elim
omit C in
theorem OcR.trans{R:Rx}{E E1:En}{H H1:Hq}{h h1:Hp}(X:R.X E E1 H H1 h h1){o:Oc}{r:Go.Ab.Rc}(k:OcR R E1 H1 h1 o r):OcR R E H h o r:=by
 cases o<;>cases r<;>first|exact k.elim|skip
 ·obtain⟨E',a,b,c⟩:=k;exact⟨E',R.tr X a,b,c⟩
 ·obtain⟨E',a,b,c⟩:=k;exact⟨E',R.tr X a,b,c⟩
 ·obtain⟨e,E',a,b,c⟩:=k;exact⟨e,E',R.tr X a,b,c⟩
def pH(R:Rx)(cb:cx)(L:Nat->Option mB):vV->Prop
 | .sq a b=>pH R cb L a/\pH R cb L b
 | .cif _ a b=>pH R cb L a/\pH R cb L b
 | .bl id b=>(match L id with|some f=>lE R f (fun n d=>nO (cb n d) n (.bl id b))|none=>True)/\pH R cb L b
 | .lp b=>pH R cb L b
 | _=>True
omit C in
theorem cp{R:Rx}{cb:cx}(c:vV):pH R cb (fun _=>none) c:=by
 induction c with
 |sq a b Aa EN=>exact⟨Aa,EN⟩
 |cif o a b Aa EN=>exact⟨Aa,EN⟩
 |bl id b ih=>exact⟨trivial,ih⟩
 |lp b ih=>exact ih
 | _=>trivial
def Ev3{α:Type}(p:Nat->Nat->Nat->α)(r:α):Prop:= ∃ M,∀ n d j,M<=n->M<=d->M<=j->p n d j=r
omit C in
theorem Ev3.diag{α:Type}{p:Nat->Nat->Nat->α}{r:α}(h:Ev3 p r):Ev (fun n d=>p n d n) r:=by
 obtain⟨M,h⟩:=h;exact⟨M,fun n d a b=>h n d n a b a⟩
def lpF(j:Nat)(b:GP):GP:=Nat.rec (fun _ _=>.bad) (fun _ ih t h=>Rc.rec Rc.bad (fun t h=>ih t h) (fun t h=>Rc.ret t h) (fun i t h=>Rc.exit i t h) (b t h)) j
omit C in
theorem WY{R:Rx}{b:mB}{g:Nat->Nat->GP}(hb:lE R b g): ∀ (m:Nat) (E:En) (T:Tq) (t:Tm) (H:Hq) (h:Hp) (o:Oc),TV E H.next T t->SR E H h->
 ((Nat.rec (motive:=fun _=>mB) (fun _ _=>.bad) (fun _ ih t h=>Sq (b t h) ih) m:mB) T H).val=some o-> ∃ r,Ev3 (fun n d j=>lpF j (g n d) t h) r/\OcR R E H h o r
 |0,_,_,_,_,_,_,_,_,e=>by cases e
 |m+1,E,T,t,H,h,o,hT,hH,e=>by
  change (Sq (b T H) (Nat.rec (motive:=fun _=>mB) (fun _ _=>.bad) (fun _ ih t h=>Sq (b t h) ih) m)).val=some o at e
  obtain⟨o1,e1,e2⟩:=Lf.T.kj e;obtain⟨r1,⟨M1,k1⟩,q1⟩:=hb E T t H h o1 hT hH e1;cases o1 with
  |norm T1 H1=>
   obtain⟨t1,h1,E1,rfl,X,S1,zI⟩:=q1.norm;obtain⟨r,⟨M2,k2⟩,q2⟩:=WY hb m E1 T1 t1 H1 h1 o zI S1 e2;refine⟨r,⟨max M1 M2+1,fun n d j a b c=>?_⟩,q2.trans X⟩
   obtain⟨j',rfl⟩: ∃ j',j=j'+1:=⟨j - 1,by omega⟩
   show(Rc.rec Rc.bad (fun t h=>lpF j' (g n d) t h) (fun t h=>Rc.ret t h) (fun i t h=>Rc.exit i t h) (g n d t h):Go.Ab.Rc)=r;have H8:=k1 n d (by omega) (by omega);dsimp only at H8;rw[H8];exact k2 n d j' (by omega) (by omega) (by omega)
  |ret T1 H1=>
   cases e2;refine⟨r1,⟨M1+1,fun n d j a b c=>?_⟩,q1⟩
   obtain⟨j',rfl⟩: ∃ j',j=j'+1:=⟨j - 1,by omega⟩
   show(Rc.rec Rc.bad (fun t h=>lpF j' (g n d) t h) (fun t h=>Rc.ret t h) (fun i t h=>Rc.exit i t h) (g n d t h):Go.Ab.Rc)=r1;have H8:=k1 n d (by omega) (by omega);dsimp only at H8;rw[H8]
   cases r1<;>first|rfl|exact q1.elim
  |exit i T1 H1=>
   cases e2;refine⟨r1,⟨M1+1,fun n d j a b c=>?_⟩,q1⟩
   obtain⟨j',rfl⟩: ∃ j',j=j'+1:=⟨j - 1,by omega⟩
   show(Rc.rec Rc.bad (fun t h=>lpF j' (g n d) t h) (fun t h=>Rc.ret t h) (fun i t h=>Rc.exit i t h) (g n d t h):Go.Ab.Rc)=r1;have H8:=k1 n d (by omega) (by omega);dsimp only at H8;rw[H8]
   cases r1<;>first|rfl|exact q1.elim
theorem OI{R:Rx}(m:Nat){L:Nat->Option mB}(c:vV)(hL:pH R cb L c):lE R (sCd L call m c) (fun n d=>nO (cb n d) n c):=by
 induction c with
 |rg r=>
  intro E T t H h o hT hH e;have e':((acz call r T H).bd fun p=>HY (BG r) (fun t h=>Lf.T.ok (Oc.norm t h)) p.1 p.2).val=some o:=e;obtain⟨⟨T1,H1⟩,e1,e2⟩:=Lf.T.kj e';obtain⟨t',h',E',k,X,S,Ua⟩:=ac9 C r E T t H h T1 H1 hT hH e1;obtain⟨T2,H2,E2,X2,S2,Uc,e3⟩:=WX _ E' T1 H1 Ua S e2;cases e3;refine⟨.norm t' h',k.Ap fun n d q=>?_,E2,R.of (X.trans X2),S2,Uc⟩;show(Rt.rec Rc.bad (fun t h=>Rc.norm t h) (T9 (cb n d) r t h):Go.Ab.Rc)=_
  try dsimp only at q
  rw[q]
 |sk=>intro E T t H h o hT hH e;cases e;exact⟨.norm t h,Ev.const rfl,E,R.of (Nx.refl _ _ _),hH,hT⟩
 |sq a b Aa EN=>
  intro E T t H h o hT hH e;have e':(Sq (sCd L call m a T H) (sCd L call m b)).val=some o:=e;obtain⟨o1,e1,e2⟩:=Lf.T.kj e';obtain⟨r1,k1,q1⟩:=Aa hL.1 E T t H h o1 hT hH e1;cases o1 with
  |norm T1 H1=>
   obtain⟨t1,h1,E1,rfl,X,S1,zI⟩:=q1.norm;obtain⟨r,k2,q2⟩:=EN hL.2 E1 T1 t1 H1 h1 o zI S1 e2;refine⟨r,k1.akY k2 fun n d p1 p2=>?_,q2.trans X⟩;show(Rc.rec Rc.bad (fun t h=>nO (cb n d) n b t h) (fun t h=>Rc.ret t h) (fun i t h=>Rc.exit i t h) (nO (cb n d) n a t h):Go.Ab.Rc)=r
   try dsimp only at p1
   rw[p1];exact p2
  |ret T1 H1=>
   cases e2;refine⟨r1,k1.Ap fun n d p1=>?_,q1⟩;show(Rc.rec Rc.bad (fun t h=>nO (cb n d) n b t h) (fun t h=>Rc.ret t h) (fun i t h=>Rc.exit i t h) (nO (cb n d) n a t h):Go.Ab.Rc)=r1
   try dsimp only at p1
   rw[p1];cases r1<;>first|rfl|exact q1.elim
  |exit i T1 H1=>
   cases e2;refine⟨r1,k1.Ap fun n d p1=>?_,q1⟩;show(Rc.rec Rc.bad (fun t h=>nO (cb n d) n b t h) (fun t h=>Rc.ret t h) (fun i t h=>Rc.exit i t h) (nO (cb n d) n a t h):Go.Ab.Rc)=r1
   try dsimp only at p1
   rw[p1];cases r1<;>first|rfl|exact q1.elim
 |cif c a b Aa EN=>
  intro E T t H h o hT hH e;obtain⟨x,T1,hx,zI,h1,h2⟩:=CU (a:=fun t=>sCd L call m a t H) (b:=fun t=>sCd L call m b t H) hT e;have hc: ∀ n d,nO (cb n d) n (.cif c a b) t h=Bool.rec (nO (cb n d) n b t h) (nO (cb n d) n a t h) x:=fun n d=>by
   show cIf (cY c) (nO (cb n d) n a) (nO (cb n d) n b) t h=_;unfold cIf;rw[hx]
  cases x with
  |true=>
   obtain⟨r,k,q⟩:=Aa hL.1 E T1 t H h o zI hH (h1 rfl);exact⟨r,k.Ap fun n d p=>(hc n d).trans p,q⟩
  |false=>
   obtain⟨r,k,q⟩:=EN hL.2 E T1 t H h o zI hH (h2 rfl);exact⟨r,k.Ap fun n d p=>(hc n d).trans p,q⟩
 |bl id b ih=>
  intro E T t H h o hT hH e
  change (match L id with|some f=>f T H|none=>blO id (sCd L call m b T H)).val=some o at e
  have hl:=hL.1;cases hf:L id with
  |some f=>rw[hf]at e hl;exact hl E T t H h o hT hH e
  |none=>
   rw[hf]at e;obtain⟨o1,e1,e2⟩:=Lf.T.kj e;obtain⟨r1,k1,q1⟩:=ih hL.2 E T t H h o1 hT hH e1;cases o1 with
   |norm T1 H1=>
    cases e2;refine⟨r1,k1.Ap fun n d p1=>?_,q1⟩;show(Rc.rec Rc.bad (fun t h=>Rc.norm t h) (fun t h=>Rc.ret t h) (fun i t h=>Bool.rec (Rc.exit i t h) (Rc.norm t h) (Nat.beq i id)) (nO (cb n d) n b t h):Go.Ab.Rc)=r1
    try dsimp only at p1
    rw[p1];cases r1<;>first|rfl|exact q1.elim
   |ret T1 H1=>
    cases e2;refine⟨r1,k1.Ap fun n d p1=>?_,q1⟩;show(Rc.rec Rc.bad (fun t h=>Rc.norm t h) (fun t h=>Rc.ret t h) (fun i t h=>Bool.rec (Rc.exit i t h) (Rc.norm t h) (Nat.beq i id)) (nO (cb n d) n b t h):Go.Ab.Rc)=r1
    try dsimp only at p1
    rw[p1];cases r1<;>first|rfl|exact q1.elim
   |exit i T1 H1=>
    cases r1 with
    |exit j t1 h1=>
     obtain⟨rfl,E',X,S,Ua⟩:=q1;cases hi:Nat.beq i id with
     |true=>
      have e2:(Lf.T.ok (bif Nat.beq i id then Oc.norm T1 H1 else Oc.exit i T1 H1)).val=some o:=e2;rw[hi]at e2;cases e2;refine⟨.norm t1 h1,k1.Ap fun n d p1=>?_,E',X,S,Ua⟩;show(Rc.rec Rc.bad (fun t h=>Rc.norm t h) (fun t h=>Rc.ret t h) (fun i t h=>Bool.rec (Rc.exit i t h) (Rc.norm t h) (Nat.beq i id)) (nO (cb n d) n b t h):Go.Ab.Rc)=_
      try dsimp only at p1
      rw[p1];simp only[hi]
     |false=>
      have e2:(Lf.T.ok (bif Nat.beq i id then Oc.norm T1 H1 else Oc.exit i T1 H1)).val=some o:=e2;rw[hi]at e2;cases e2;refine⟨.exit i t1 h1,k1.Ap fun n d p1=>?_,rfl,E',X,S,Ua⟩;show(Rc.rec Rc.bad (fun t h=>Rc.norm t h) (fun t h=>Rc.ret t h) (fun i t h=>Bool.rec (Rc.exit i t h) (Rc.norm t h) (Nat.beq i id)) (nO (cb n d) n b t h):Go.Ab.Rc)=_
      try dsimp only at p1
      rw[p1];simp only[hi]
    | _=>exact q1.elim
 |lp b ih=>
  intro E T t H h o hT hH e;obtain⟨r,k,q⟩:=WY (ih hL) m E T t H h o hT hH e;exact⟨r,k.diag,q⟩
 |ex i=>intro E T t H h o hT hH e;cases e;exact⟨.exit i t h,Ev.const rfl,rfl,E,R.of (Nx.refl _ _ _),hH,hT⟩
 |rt=>intro E T t H h o hT hH e;cases e;exact⟨.ret t h,Ev.const rfl,E,R.of (Nx.refl _ _ _),hH,hT⟩
 |bad=>intro E T t H h o hT hH e;cases e
end
theorem ada{E:En}{T:Tq}{t:Tm}{H:Hq}{h:Hp}(hT:TV E H.next T t)(hH:SR E H h){r:Go.Ab.RV}{v:Sv}(e:akH T H r=some v): ∃ c,lB t h r=some c/\V E H.next v c:=by
 cases r with
 |tmp i=>obtain⟨hi,e⟩:=jI e;exact hT i v (jn.1 hi) e
 |cell i sz agg=>
  change (match(bif Nat.blt i 512 then T.at i else none)with|some p=>HX sz agg p H|none=>none)=some v at e
  split at e
  ·rename_i p hp
   obtain⟨hi,hp⟩:=jI hp;obtain⟨a,ha,DV⟩:=hT i p (jn.1 hi) hp;obtain⟨c,c1,c2⟩:=FR hH DV e;refine⟨c,?_,c2⟩;show(match t.at i with|some a=>ET h sz agg a|none=>none)=_;rw[ha];exact c1
  ·cases e
theorem FW{E:En}{T:Tq}{t:Tm}{H:Hq}{h:Hp}(hT:TV E H.next T t)(hH:SR E H h): ∀ {l:List Go.Ab.RV} {vs:List Sv},Wi T H l=some vs-> ∃ cs,HB t h l=some cs/\Vs E H.next vs cs
 | [],_,e=>by cases e;exact⟨[],rfl,.nil⟩
 |r::l,vs,e=>by
  change (match akH T H r with|some v=>(match Wi T H l with|some vs=>some (v::vs)|none=>none)|none=>none)=some vs at e
  split at e
  ·rename_i v hv
   split at e
   ·rename_i us hu
    cases e;obtain⟨c,hc,nd⟩:=ada hT hH hv;obtain⟨cs,vL,akI⟩:=FW hT hH hu;refine⟨c::cs,?_,.cons nd akI⟩;show(match lB t h r with|some v=>(match HB t h l with|some vs=>some (v::vs)|none=>none)|none=>none)=_;rw[hc,vL]
   ·cases e
  ·cases e
theorem adb{E:En}{T:Tq}{t:Tm}{H H':Hq}{h:Hp}(hT:TV E H.next T t)(hH:SR E H h){l:List Go.Ab.RV}{v:Sv}(e:(Wj l T H).val=some (v,H')):H'=H/\ ∃ c,fin l t h=.ok c h/\V E H.next v c:=by
 unfold Wj at e;split at e
 ·rename_i w hw
  cases e;obtain⟨cs,hc,nd⟩:=FW hT hH hw;cases nd with
  |cons a b=>cases b;exact⟨rfl,_,by unfold fin;rw[hc],a⟩
 ·rename_i vs hn hw
  cases e;obtain⟨cs,hc,nd⟩:=FW hT hH hw;refine⟨rfl,.DO cs,?_,.tu nd⟩;unfold fin;rw[hc];cases cs with
  |nil=>rfl
  |cons a cs=>
   cases cs with
   |nil=>
    cases nd with
    |cons x y=>cases y;exact(hn _ rfl).elim
   |cons _ _=>rfl
 ·cases e
theorem F8.FX{α:Type}(x:α)(j:Nat):(F8.all x).KJ j=x:=by
 unfold F8.all F8.KJ;split<;>rfl
theorem Qs(j:Nat):Tq.none.at j=none:=by
 unfold Tq.at Tq.none;rw[F8.FX,F8.FX,F8.FX]
theorem Bo{E:En}{N:Nat}{l:List Sv}: ∀ (as:List AV) (i:Nat) (T:Tq) (t:Tm),Vs E N l as->i+l.length<=512->TV E N T t->TV E N (Oo l i T) (wL as i t):=by
 induction l with
 |nil=>intro as i T t h _ hT;cases h;exact hT
 |cons v l ih=>
  intro as i T t h hi hT;cases h with
  |cons hv h=>
   rename_i a as
   rw[List.length_cons]at hi;exact ih as (i+1) _ _ h (by omega) (hT.put (by omega) hv)
def FY(b:Fb)(n:Nat)(c:kh):List AV->Hp->Go.Ab.Ro:=fun args h=>oL (Nat.ble (len args) b.ntmps) (match b.body c n (wL args 0 Tm.none) h with
 | .norm t h=>fin b.res t h
 | .ret t h=>fin b.res t h
 | _=>.bad) .bad
def sJ(cb:cx)(f:FuncId)(b:Cv):Prop:= ∀ n d args h c h',FY b.fb n (cb n d) args h=.ok c h'->cb n (d+1) f args h=.ok c h'
theorem Mb{R:Rx}{call:lL}{cb:cx}(C:vu call cb){f:FuncId}{b:Cv}(hb:sJ cb f b)(vU:b.ntmps<=512){L:Nat->Option mB}(hL:pH R cb L b.code){m:Nat}{E:En}{args:List Sv}{as:List AV}{H H':Hq}{h:Hp}{v:Sv}
 (hv:Vs E H.next args as)(hH:SR E H h)(e:(LP L b m call args H).val=some (v,H')): ∃ c h' E',Ev (fun n d=>cb n d f as h) (.ok c h')/\R.X E E' H H' h h'/\SR E' H' h'/\V E' H'.next v c:=by
 unfold LP at e;obtain⟨hn,e⟩:=lC e
 have hn':args.length<=b.ntmps:=by have:=Nat.le_of_ble_eq_true hn;rwa [jH]at this
 obtain⟨o,e1,e2⟩:=Lf.T.kj e
 have hT0:TV E H.next (Oo args 0 Tq.none) (wL as 0 Tm.none):=Bo _ _ _ _ hv (by omega) fun i w _ hw=>by rw[Qs]at hw;cases hw
 obtain⟨r,k,q⟩:=OI C (R:=R) m b.code hL E _ _ H h o hT0 hH e1
 have hlen:Nat.ble (len as) b.ntmps=true:=by rw[jH,<-hv.length,<-jH];exact hn
 have VX: ∀ {T1:Tq} {H1:Hq} {t1:Tm} {h1:Hp} {E1:En},(r=.norm t1 h1∨r=.ret t1 h1)->R.X E E1 H H1 h h1->SR E1 H1 h1->TV E1 H1.next T1 t1->(Wj b.res T1 H1).val=some (v,H')-> ∃ c h' E',Ev (fun n d=>cb n d f as h) (.ok c h')/\R.X E E' H H' h h'/\SR E' H' h'/\V E' H'.next v c:=by
  intro T1 H1 t1 h1 E1 hr X S zI e;obtain⟨hq,c,c1,c2⟩:=adb zI S e;rw[hq];refine⟨c,h1,E1,?_,X,S,c2⟩;obtain⟨M,k⟩:=k;refine⟨M+1,fun n d a a'=>?_⟩
  obtain⟨d',rfl⟩: ∃ d',d=d'+1:=⟨d - 1,by omega⟩
  refine hb n d' as h c h1 ?_;have k':=k n d' (by omega) (by omega);dsimp only at k';show oL (Nat.ble (len as) b.ntmps) (match nO (cb n d') n b.code (wL as 0 Tm.none) h with
   | .norm t h=>fin b.res t h
   | .ret t h=>fin b.res t h
   | _=>.bad) .bad=_
  rw[hlen,k']
  rcases hr with hr|hr<;>rw[hr]<;>exact c1
 cases o with
 |norm T1 H1=>
  obtain⟨t1,h1,E1,hr,X,S,zI⟩:=q.norm;exact VX (.inl hr) X S zI e2
 |ret T1 H1=>
  cases r with
  |ret t1 h1=>obtain⟨E1,X,S,zI⟩:=q;exact VX (.inr rfl) X S zI e2
  | _=>exact q.elim
 |exit _ _ _=>cases e2
end Lf
end Go.Ab
noncomputable section
namespace Go.Ab
namespace Lf
abbrev Pl:=(t:Ty)×den t
inductive n9 where
 |n (k:IntKind)|li (k:IntKind) (m:Int)|bo|lb (b:Bool)|st|im (t:Ty)|ow (t:Ty)|av (v:AV)|pt (g:Nat) (l:n9)|ag (l:n9)|tu (l:n9)
 |nil|cons (a l:n9)|fn (f:FuncId) (l:n9)|el (j sz o:Nat)|rp (j o:Nat)|oo (j sz:Nat)|zp (l:n9)
def nA(p:n9):List Pl->Hq->Option (List Sv×List Pl×Hq):=
 n9.rec (motive:=fun _=>List Pl->Hq->Option (List Sv×List Pl×Hq))
  (fun k pl H=>match pl with
   |⟨.int k',x⟩::r=>bif qf k k' then some ([.c 0 (.int k) x],r,H)else none
   | _=>none)
  (fun k m pl H=>some ([.i k m],pl,H))
  (fun pl H=>match pl with
   |⟨.bool,x⟩::r=>some ([.c 0 .bool x],r,H)
   | _=>none)
  (fun b pl H=>some ([.b b],pl,H))
  (fun pl H=>match pl with
   |⟨.str,x⟩::r=>some ([.c 0 .str x],r,H)
   | _=>none)
  (fun t pl H=>match pl with
   |⟨t',x⟩::r=>(match DF t' (.cq t)with
    |some ⟨e⟩=>some ([.c H.next (.cq t) (e▸x)],r,⟨Nat.add H.next 1,H.cz⟩)
    |none=>none)
   | []=>none)
  (fun t pl H=>match pl with
   |⟨t',x⟩::r=>(match DF t' (.cq t)with
    |some ⟨e⟩=>some ([.os H.next (size t)],r,lU H (.l t (e▸x:den (.cq t))))
    |none=>none)
   | []=>none)
  (fun v pl H=>some ([.a v],pl,H))
  (fun g _ ih pl H=>match ih pl H with
   |some (cs,r,H)=>some ([.rf H.next 0],r,lU H (.o g cs))
   |none=>none)
  (fun _ ih pl H=>match ih pl H with
   |some (cs,r,H)=>some ([.ag cs],r,H)
   |none=>none)
  (fun _ ih pl H=>match ih pl H with
   |some (cs,r,H)=>some ([.tu cs],r,H)
   |none=>none)
  (fun pl H=>some ([],pl,H))
  (fun _ _ Aa ihl pl H=>match Aa pl H with
   |some (v,r,H)=>(match ihl r H with
    |some (w,r,H)=>some (app v w,r,H)
    |none=>none)
   |none=>none)
  (fun f _ ih pl H=>match ih pl H with
   |some (cs,r,H)=>some ([.fn f cs],r,H)
   |none=>none)
  (fun j sz o pl H=>match pl with
   |⟨.int _,x⟩::r=>some ([.re j sz (Int.toNat x) o],r,H)
   | _=>none)
  (fun j o pl H=>some ([.rf j o],pl,H))
  (fun j sz pl H=>some ([.os j sz],pl,H))
  (fun _ ih pl H=>match ih pl H with
   |some (cs,r,H)=>some ([.zp cs],r,H)
   |none=>none) p
structure Xq where
 H:Hq
 c:Nat
 rn:List (Nat×Nat)
def Mc(H:Hq)(r:Nat):Bool:=match H.cz.get r with
 |some R=>R.live
 |none=>false
def yS(rn:List (Nat×Nat))(H:Hq):Bool:=List.rec true (fun p _ ih=>bif Mc H p.2 then ih else false) rn
def FZ(r:Nat)(rn:List (Nat×Nat)):Bool:=List.rec true (fun p _ ih=>bif Nat.beq p.2 r then false else ih) rn
def look(j:Nat)(rn:List (Nat×Nat)):Option Nat:=List.rec none (fun p _ ih=>bif Nat.beq p.1 j then some p.2 else ih) rn
def ak2(t:Ty)(v:Sv)(H:Hq):Option (List (den t)×Hq×Nat):=match V8 t v H with
 |some (x,H1)=>(match kill v H1 with
  |some H2=>some (x,lU H2 (.l t x),H2.next)
  |none=>none)
 |none=>none
def ade(t:Ty)(v:Sv)(H:Hq):Option (List (den t)×Hq×Nat):=match v with
 | .os r _=>(match H.cz.get r with
  |some (.l t' x)=>(match DF t' t with
   |some ⟨e⟩=>some (e▸x,H,r)
   |none=>none)
  | _=>none)
 |v=>ak2 t v H
def F3(p:n9):List Sv->Xq->Option (List Pl×List Sv×Xq):=
 n9.rec (motive:=fun _=>List Sv->Xq->Option (List Pl×List Sv×Xq))
  (fun k l X=>match l with
   |v::r=>(match toN v with
    |some (k',x)=>bif qf k k' then some ([⟨.int k,x⟩],r,X)else none
    |none=>none)
   | []=>none)
  (fun k m l X=>match l with
   | .i k' m'::r=>bif qf k k'&&eqI m m' then some ([],r,X)else none
   | _=>none)
  (fun l X=>match l with
   |v::r=>(match toB v with
    |some b=>some ([⟨.bool,b.v⟩],r,X)
    |none=>none)
   | []=>none)
  (fun b l X=>match l with
   | .b b'::r=>bif (bif b then b' else !b')then some ([],r,X)else none
   | _=>none)
  (fun l X=>match l with
   |v::r=>(match toS v with
    |some (_,s)=>some ([⟨.str,s⟩],r,X)
    |none=>none)
   | []=>none)
  (fun t l X=>match l with
   |v::r=>(match lst t v X.H with
    |some (x,H1)=>bif yS X.rn H1 then some ([⟨.cq t,x⟩],r,⟨H1,Nat.add X.c 1,X.rn⟩)else none
    |none=>none)
   | []=>none)
  (fun t l X=>match l with
   |v::r=>(match ade t v X.H with
    |some (x,H1,q)=>bif yS X.rn H1&&FZ q X.rn then some ([⟨.cq t,x⟩],r,⟨H1,Nat.add X.c 1,(X.c,q)::X.rn⟩)else none
    |none=>none)
   | []=>none)
  (fun v l X=>match l with
   | .a w::r=>bif uE v w then some ([],r,X)else none
   | _=>none)
  (fun g _ ih l X=>match l with
   | .rf r 0::rest=>(match X.H.cz.get r with
    |some (.o g' cells)=>(bif Nat.beq g 0||Nat.beq g g' then(match ih cells X with
     |some (pl,[],X1)=>(match X1.H.cz.get r with
      |some (.o g2 _)=>bif Nat.beq g' g2&&FZ r X1.rn then some (pl,rest,⟨X1.H,Nat.add X1.c 1,(X1.c,r)::X1.rn⟩)else none
      | _=>none)
     | _=>none)else none)
    | _=>none)
   | _=>none)
  (fun _ ih l X=>match l with
   | .ag cells::rest=>(match ih cells X with
    |some (pl,[],X1)=>some (pl,rest,X1)
    | _=>none)
   | _=>none)
  (fun _ ih l X=>match l with
   | .tu cells::rest=>(match ih cells X with
    |some (pl,[],X1)=>some (pl,rest,X1)
    | _=>none)
   | _=>none)
  (fun l X=>some ([],l,X))
  (fun _ _ Aa ihl l X=>match Aa l X with
   |some (pa,r,X1)=>(match ihl r X1 with
    |some (pb,r,X2)=>some (app pa pb,r,X2)
    |none=>none)
   |none=>none)
  (fun f _ ih l X=>match l with
   | .fn f' caps::rest=>(bif Nat.beq f f' then(match ih caps X with
    |some (pl,[],X1)=>some (pl,rest,X1)
    | _=>none)else none)
   | _=>none)
  (fun j sz o l X=>match l with
   | .re r sz' i o'::rest=>(match look j X.rn with
    |some r'=>bif Nat.beq r r'&&(Nat.beq sz sz'&&Nat.beq o o')then some ([⟨.int .i64,Int.ofNat i⟩],rest,X)else none
    |none=>none)
   | _=>none)
  (fun j o l X=>match l with
   | .rf r o'::rest=>(match look j X.rn with
    |some r'=>bif Nat.beq r r'&&Nat.beq o o' then some ([],rest,X)else none
    |none=>none)
   | _=>none)
  (fun j sz l X=>match l with
   | .os r sz'::rest=>(match look j X.rn with
    |some r'=>bif Nat.beq r r'&&Nat.beq sz sz' then some ([],rest,X)else none
    |none=>none)
   | _=>none)
  (fun _ ih l X=>match l with
   | .zp cells::rest=>(match ih cells X with
    |some (pl,[],X1)=>some (pl,rest,X1)
    | _=>none)
   | _=>none) p
structure Sub(E0:En)(H0:Hq)(E:En)(X:Xq)(h:Hp):Prop where
 c:H0.next=X.c
 pos:0<X.c
 S0:SR E0 H0 h
 G:E0.G=E.G
 A:E0.A=E.A
 rn: ∀ p,p∈X.rn->p.1<X.c/\own X.H p.2/\own H0 p.1/\E0.K p.1=E.K p.2
 ow: ∀ j,own H0 j-> ∃ r,(j,r)∈X.rn
 inj: ∀ j j' r,(j,r)∈X.rn->(j',r)∈X.rn->j=j'
theorem SG{H:Hq}{r:Nat}:Mc H r=true↔own H r:=by
 unfold Mc own;cases e:H.cz.get r with
 |none=>simp
 |some R=>simp
theorem yg{H:Hq}: ∀ {rn:List (Nat×Nat)},yS rn H=true-> ∀ p,p∈rn->own H p.2
 | [],_,p,hp=>by cases hp
 |q::rn,h,p,hp=>by
  have h:(bif Mc H q.2 then yS rn H else false)=true:=h;cases hb:Mc H q.2 with
  |false=>rw[hb]at h;cases h
  |true=>
   rw[hb]at h
   rcases List.mem_cons.1 hp with e|e
   ·subst e;exact SG.1 hb
   ·exact yg h p e
theorem Ia{r:Nat}: ∀ {rn:List (Nat×Nat)},FZ r rn=true-> ∀ j,(j,r)∉rn
 | [],_,j,hp=>by cases hp
 |q::rn,h,j,hp=>by
  have h:(bif Nat.beq q.2 r then false else FZ r rn)=true:=h;cases hb:Nat.beq q.2 r with
  |true=>rw[hb]at h;cases h
  |false=>
   rw[hb]at h
   rcases List.mem_cons.1 hp with e|e
   ·subst e;rw[Nat.beq_refl]at hb;cases hb
   ·exact Ia h j e
theorem vX{j r:Nat}: ∀ {rn:List (Nat×Nat)},look j rn=some r->(j,r)∈rn
 | [],h=>by cases h
 |q::rn,h=>by
  have h:(bif Nat.beq q.1 j then some q.2 else look j rn)=some r:=h;cases hb:Nat.beq q.1 j with
  |true=>rw[hb]at h;cases h;rw[<-beq_true hb];exact List.mem_cons_self
  |false=>rw[hb]at h;exact List.mem_cons_of_mem _ (vX h)
theorem ay'{E0:En}{H0:Hq}{h:Hp}(S:SR E0 H0 h){G:Nat->Option Rw}(hG:GLe E0.G G)(hg: ∀ id row,G id=some row->id<h.next/\h.cz.get id=some row/\ ∀ r,own H0 r->sI (E0.K r).av≠some id):SR ⟨E0.K,E0.tk,G,E0.A⟩ H0 h where
 row r R e:=⟨(S.row r R e).1,RV.mono (E:=E0) (E':=⟨E0.K,E0.tk,G,E0.A⟩) (N:=H0.next) ⟨fun _ _=>rfl,fun _ _=>rfl,hG,rfl⟩ (Nat.le_refl _) (fun _ _ _ _ e=>e) (S.row r R e).2⟩
 inj:=S.inj
 lt:=S.lt
 g:=hg
theorem adf{E0:En}{H0:Hq}{h:Hp}(S:SR E0 H0 h){k:Kr}{R:Row}(hR:RV E0 H0.next h k R)(live:R.live=true)(qk: ∀ id,sI k.av=some id->id<h.next/\(∀ j,own H0 j->sI (E0.K j).av≠some id)/\ ∀ row,E0.G id≠some row):
 SR (E0.row H0.next k) (lU H0 R) h:=by
 have hle:=En.xR E0 H0.next k
 have K0:(E0.row H0.next k).K H0.next=k:=if_pos rfl
 have K1: ∀ r,r<H0.next->(E0.row H0.next k).K r=E0.K r:=fun r hr=>if_neg (by omega)
 have vJ: ∀ r,own (lU H0 R) r->r=H0.next∨(r<H0.next/\own H0 r):=by
  rintro r ⟨R',a,b⟩;rw[sj]at a;split at a
  ·exact .inl ‹_›
  ·exact .inr ⟨(S.row _ _ a).1,R',a,b⟩
 refine⟨?_,?_,?_,?_⟩
 ·intro r R' hr;rw[sj]at hr;split at hr
  ·rename_i e;cases hr;subst e;rw[K0]
   exact⟨Nat.lt_succ_self _,hR.mono hle (Nat.le_succ _) fun _ _ _ _ e=>e⟩
  ·have h0:=S.row _ _ hr;refine⟨Nat.lt_succ_of_lt h0.1,?_⟩;rw[K1 _ h0.1]
   exact h0.2.mono hle (Nat.le_succ _) fun _ _ _ _ e=>e
 ·intro r r' id o o' e e'
  rcases vJ r o with a|⟨a1,a2⟩<;>rcases vJ r' o' with b|⟨b1,b2⟩
  ·rw[a,b]
  ·subst a;rw[K0]at e;rw[K1 _ b1]at e';exact((qk id e).2.1 r' b2 e').elim
  ·subst b;rw[K0]at e';rw[K1 _ a1]at e;exact((qk id e').2.1 r a2 e).elim
  ·rw[K1 _ a1]at e;rw[K1 _ b1]at e';exact S.inj r r' id a2 b2 e e'
 ·intro r id o e
  rcases vJ r o with a|⟨a1,a2⟩
  ·subst a;rw[K0]at e;exact(qk id e).1
  ·rw[K1 _ a1]at e;exact S.lt r id a2 e
 ·intro id row e;obtain⟨a,b,c⟩:=S.g id row e;refine⟨a,b,fun r o e2=>?_⟩
  rcases vJ r o with q|⟨q1,q2⟩
  ·subst q;rw[K0]at e2;exact(qk id e2).2.2 row e
  ·rw[K1 _ q1]at e2;exact c r q2 e2
theorem ak4{E0:En}{H0:Hq}{h:Hp}(S:SR E0 H0 h)(a:AV):SR ⟨E0.K,fun i=>if i=H0.next then a else E0.tk i,E0.G,E0.A⟩ ⟨Nat.add H0.next 1,H0.cz⟩ h where
 row r R e:=⟨Nat.lt_succ_of_lt (S.row r R e).1,RV.mono (E:=E0) (E':=⟨E0.K,fun i=>if i=H0.next then a else E0.tk i,E0.G,E0.A⟩) (N:=H0.next) ⟨fun _ _=>rfl,fun i hi=>if_neg (by omega),fun _ _ e=>e,rfl⟩ (Nat.le_succ _) (fun _ _ _ _ e=>e) (S.row r R e).2⟩
 inj:=S.inj
 lt:=S.lt
 g:=S.g
theorem Sub.aiQ{E0:En}{H0:Hq}{E E':En}{X:Xq}{h:Hp}(S:SR E X.H h)(s:Sub E0 H0 E X h){H1:Hq}(n:Nx E E' X.H H1 h h)(S':SR E' H1 h)(hl: ∀ p,p∈X.rn->own H1 p.2):Sub ⟨E0.K,E0.tk,E'.G,E0.A⟩ H0 E' ⟨H1,X.c,X.rn⟩ h:=by
 have hK: ∀ p,p∈X.rn->E'.K p.2=E.K p.2:=fun p hp=>by
  obtain⟨_,⟨R,oR,_⟩,_,_⟩:=s.rn p hp;exact n.e.K _ (S.row _ _ oR).1
 refine⟨s.c,s.pos,?_,rfl,by rw[n.e.A];exact s.A,fun p hp=>?_,s.ow,s.inj⟩
 ·refine ay' s.S0 (by rw[s.G];exact n.e.G) fun id row e=>?_
  obtain⟨a,b,c⟩:=S'.g id row e;refine⟨a,b,fun j o q=>?_⟩;obtain⟨r,hr⟩:=s.ow j o;obtain⟨_,_,_,k⟩:=s.rn _ hr;rw[k]at q;exact c r (hl _ hr) (by rw[hK _ hr];exact q)
 ·obtain⟨a,_,c,d⟩:=s.rn p hp;exact⟨a,hl p hp,c,by rw[hK p hp];exact d⟩
theorem Sub.WZ{E0:En}{H0:Hq}{E:En}{X:Xq}{h:Hp}(S:SR E X.H h)(s:Sub E0 H0 E X h){q:Nat}(hq:own X.H q)(hn:FZ q X.rn=true){R':Row}(lv:R'.live=true)(hR:RV E0 H0.next h (E.K q) R'):
 Sub (E0.row H0.next (E.K q)) (lU H0 R') E ⟨X.H,Nat.add X.c 1,(X.c,q)::X.rn⟩ h:=by
 have hn:=Ia hn
 have K0:(E0.row H0.next (E.K q)).K H0.next=E.K q:=if_pos rfl
 have K1: ∀ r,r<H0.next->(E0.row H0.next (E.K q)).K r=E0.K r:=fun r hr=>if_neg (by omega)
 refine⟨by show Nat.add H0.next 1=Nat.add X.c 1;rw[s.c],Nat.succ_pos _,?_,s.G,s.A,fun p hp=>?_,fun j o=>?_,fun j j' r a b=>?_⟩
 ·refine adf s.S0 hR lv fun id e=>⟨S.lt q id hq e,fun j o e2=>?_,fun row e2=>?_⟩
  ·obtain⟨r,hr⟩:=s.ow j o;obtain⟨_,o2,_,k⟩:=s.rn _ hr;rw[k]at e2;have:r=q:=S.inj r q id o2 hq e2 e;subst this;exact hn j hr
  ·rw[s.G]at e2;exact(S.g id row e2).2.2 q hq e
 ·rcases List.mem_cons.1 hp with e|e
  ·subst e;refine⟨Nat.lt_succ_self _,hq,?_,by rw[<-s.c,K0]⟩;exact⟨R',by rw[sj,if_pos s.c.symm],lv⟩
  ·obtain⟨a,b,c,d⟩:=s.rn p e
   have nM:p.1<H0.next:=by rw[s.c];exact a
   refine⟨Nat.lt_succ_of_lt a,b,?_,by rw[K1 _ nM];exact d⟩;obtain⟨Q,q1,q2⟩:=c;exact⟨Q,by rw[sj,if_neg (by omega)];exact q1,q2⟩
 ·obtain⟨Q,q1,q2⟩:=o;rw[sj]at q1;split at q1
  ·rename_i e;exact⟨q,by rw[e,s.c];exact List.mem_cons_self⟩
  ·obtain⟨r,hr⟩:=s.ow j ⟨Q,q1,q2⟩;exact⟨r,List.mem_cons_of_mem _ hr⟩
 ·rcases List.mem_cons.1 a with e|e<;>rcases List.mem_cons.1 b with f|f
  ·cases e;cases f;rfl
  ·cases e;exact(hn j' f).elim
  ·cases f;exact(hn j e).elim
  ·exact s.inj j j' r e f
theorem adg{t:Ty}{E:En}{H H3:Hq}{h:Hp}{v:Sv}{a:AV}{x:List (den t)}{q:Nat}(S:SR E H h)(hv:V E H.next v a)(e:ade t v H=some (x,H3,q)):
 ∃ E3,Nx E E3 H H3 h h/\SR E3 H3 h/\H3.cz.get q=some (.l t x)/\(E3.K q).av=a:=by
 have gen:ak2 t v H=some (x,H3,q)-> ∃ E3,Nx E E3 H H3 h h/\SR E3 H3 h/\H3.cz.get q=some (.l t x)/\(E3.K q).av=a:=by
  intro e;unfold ak2 at e;split at e
  ·rename_i y H1 hy
   split at e
   ·rename_i H2 h2
    cases e;obtain⟨E1,F,D⟩:=Jt S hv hy;have k:=Ju (F.v hv) h2;have hR:RV E1 H1.next h ⟨a,x.length⟩ (.l t x):=by
     refine⟨rfl,?_⟩
     rcases D with d|⟨id,base,row,ls,d1,d2,d3,d4⟩
     ·exact .inl d
     ·exact .inr ⟨id,base,row,ls,d1,d2,d3,d4⟩
    obtain⟨S3,X3⟩:=so F.S k.n k.sub (Nat.le_refl _) (h':=h) (fun _ _ _=>rfl) (fun id e=>by
     obtain⟨r,o,no,er⟩:=k.id id e
     exact⟨F.S.lt r id o er,.inr ⟨r,o,no,er⟩⟩) hR rfl
    refine⟨_,F.X.trans X3,S3,by rw[sj,if_pos rfl],?_⟩;rw[k.n];show(if H1.next=H1.next then _ else _:Kr).av=a;rw[if_pos rfl]
   ·cases e
  ·cases e
 unfold ade at e;split at e
 ·rename_i r s
  split at e
  ·rename_i t' y hr
   split at e
   ·rename_i p hp
    cases p;cases e;refine⟨E,Nx.refl _ _ _,S,hr,?_⟩;cases hv with
    |os _ _=>rfl
   ·cases e
  ·cases e
 ·exact gen e
def asy(p:n9):Prop:= ∀ {E0:En} {H0:Hq} {E:En} {X X':Xq} {h:Hp} {vs rest:List Sv} {cs:List AV} {pl:List Pl},SR E X.H h->Sub E0 H0 E X h->Vs E X.H.next vs cs->F3 p vs X=some (pl,rest,X')->
 ∃ E' Cy BL ws PC E7,Nx E E' X.H X'.H h h/\SR E' X'.H h/\Sub Cy BL E' X' h/\cs=PC++E7/\Vs E' X'.H.next rest E7/\(∀ tail,nA p (pl++tail) H0=some (ws,tail,BL))/\Vs Cy BL.next ws PC/\Et E0 Cy H0.next/\H0.next<=BL.next
theorem qU{p:n9}{E0:En}{H0:Hq}{E:En}{X:Xq}{h:Hp}{rest:List Sv}{a:AV}{cs:List AV}{pl:List Pl}{w:Sv}(S:SR E X.H h)(s:Sub E0 H0 E X h)(hr:Vs E X.H.next rest cs)(hf: ∀ tail,nA p (pl++tail) H0=some ([w],tail,H0))(hw:V E0 H0.next w a):
 ∃ E' Cy BL ws PC E7,Nx E E' X.H X.H h h/\SR E' X.H h/\Sub Cy BL E' X h/\a::cs=PC++E7/\Vs E' X.H.next rest E7/\(∀ tail,nA p (pl++tail) H0=some (ws,tail,BL))/\Vs Cy BL.next ws PC/\Et E0 Cy H0.next/\H0.next<=BL.next:=
 ⟨E,E0,H0,[w],[a],cs,Nx.refl _ _ _,S,s,rfl,hr,hf,.cons hw .nil,Et.refl _ _,Nat.le_refl _⟩
theorem tY: ∀ (t:Ty),DF t t=some ⟨rfl⟩
 | .int k=>by unfold DF;rw[dif_pos rfl]
 | .bool=>rfl
 | .str=>rfl
 | .cq a=>by unfold DF;rw[tY a]
 | .pair a b=>by unfold DF;rw[tY a,tY b]
theorem OJ(p:n9):asy p:=by
 induction p with
 |n k=>
  intro E0 H0 E X X' h vs rest cs pl S s hv e;cases hv with
  |nil=>cases e
  |cons a l=>
   change (match toN _ with|some (k',x)=>bif qf k k' then some ([⟨.int k,x⟩],_,X)else none|none=>none)=some (pl,rest,X')at e
   split at e
   ·rename_i k' x hx
    obtain⟨hk,e⟩:=jI e;cases e;have:=oA a hx;subst this;have:=l8.1 hk;subst this;exact qU S s l (fun tail=>by show(bif qf k k then _ else _)=_;rw[FQ];rfl) m0
   ·cases e
 |li k m=>
  intro E0 H0 E X X' h vs rest cs pl S s hv e;cases hv with
  |nil=>cases e
  |cons a l=>
   rename_i v c vs cs
   cases v with
   |i k' m'=>
    have e1:=(jI (show(bif qf k k'&&eqI m m' then some (([]:List Pl),vs,X)else none)=some (pl,rest,X')from e)).1;have e2:=(jI (show(bif qf k k'&&eqI m m' then some (([]:List Pl),vs,X)else none)=some (pl,rest,X')from e)).2;cases e2;rw[Bool.and_eq_true]at e1;have:=l8.1 e1.1;subst this;have:=nu.1 e1.2;subst this;cases a;exact qU S s l (fun tail=>rfl) .i
   | _=>cases e
 |bo=>
  intro E0 H0 E X X' h vs rest cs pl S s hv e;cases hv with
  |nil=>cases e
  |cons a l=>
   change (match toB _ with|some b=>some ([⟨.bool,b.v⟩],_,X)|none=>none)=some (pl,rest,X')at e
   split at e
   ·rename_i b hb
    cases e;have:=oS a hb;subst this;exact qU S s l (fun tail=>rfl) s5
   ·cases e
 |lb b=>
  intro E0 H0 E X X' h vs rest cs pl S s hv e;cases hv with
  |nil=>cases e
  |cons a l=>
   rename_i v c vs cs
   cases v with
   |b b'=>
    have e1:=(jI (show(bif (bif b then b' else !b')then some (([]:List Pl),vs,X)else none)=some (pl,rest,X')from e)).1;have e2:=(jI (show(bif (bif b then b' else !b')then some (([]:List Pl),vs,X)else none)=some (pl,rest,X')from e)).2;cases e2
    have:b=b':=by cases b<;>cases b'<;>first|rfl|cases e1
    subst this;cases a;exact qU S s l (fun tail=>rfl) .b
   | _=>cases e
 |st=>
  intro E0 H0 E X X' h vs rest cs pl S s hv e;cases hv with
  |nil=>cases e
  |cons a l=>
   change (match toS _ with|some (_,y)=>some ([⟨.str,y⟩],_,X)|none=>none)=some (pl,rest,X')at e
   split at e
   ·rename_i b y hb
    cases e;have:=xB a hb;subst this;exact qU S s l (fun tail=>rfl) (.c rfl fun h=>(h rfl).elim)
   ·cases e
 |im t=>
  intro E0 H0 E X X' h vs rest cs pl S s hv e;cases hv with
  |nil=>cases e
  |cons a l=>
   rename_i v c vs cs
   change (match lst t v X.H with|some (x,H1)=>bif yS X.rn H1 then some ([⟨.cq t,x⟩],vs,⟨H1,Nat.add X.c 1,X.rn⟩)else none|none=>none)=some (pl,rest,X')at e
   split at e
   ·rename_i x H1 hx
    obtain⟨hl,e⟩:=jI e;cases e;obtain⟨E1,F,k⟩:=Ww S a hx;have s1:=s.aiQ S F.X F.S (yg hl);refine⟨E1,⟨E0.K,fun i=>if i=H0.next then c else E0.tk i,E1.G,E0.A⟩,⟨Nat.add H0.next 1,H0.cz⟩,[.c H0.next (.cq t) x],[c],cs,F.X,F.S,?_,rfl,F.vs l,fun tail=>?_,?_,?_,Nat.le_succ _⟩
    ·refine⟨by show Nat.add H0.next 1=Nat.add X.c 1;rw[s.c],Nat.succ_pos _,ak4 s1.S0 c,rfl,s1.A,fun p hp=>?_,s1.ow,s1.inj⟩;obtain⟨p1,p2,p3,p4⟩:=s1.rn p hp;exact⟨Nat.lt_succ_of_lt p1,p2,p3,p4⟩
    ·unfold nA;simp only[List.cons_append,List.nil_append,tY]
    ·exact .cons (.c ⟨c,rfl,k⟩ fun _=>⟨Nat.lt_succ_self _,(if_pos rfl).symm⟩) .nil
    ·exact⟨fun _ _=>rfl,fun i hi=>if_neg (by omega),by rw[s.G];exact F.X.e.G,rfl⟩
   ·cases e
 |ow t=>
  intro E0 H0 E X X' h vs rest cs pl S s hv e;cases hv with
  |nil=>cases e
  |cons a l=>
   rename_i v c vs cs
   change (match ade t v X.H with|some (x,H1,q)=>bif yS X.rn H1&&FZ q X.rn then some ([⟨.cq t,x⟩],vs,⟨H1,Nat.add X.c 1,(X.c,q)::X.rn⟩)else none|none=>none)=some (pl,rest,X')at e
   split at e
   ·rename_i x H1 q hx
    obtain⟨hl,e⟩:=jI e;cases e;rw[Bool.and_eq_true]at hl;obtain⟨E1,X1,S1,hq,ha⟩:=adg S a hx;have s1:=s.aiQ S X1 S1 (yg hl.1);have hR:=(S1.row q _ hq).2;have s2:=s1.WZ S1 (q:=q) ⟨_,hq,rfl⟩ hl.2 (R':=.l t x) rfl (LR.mono (fun _ _ e=>e) (fun _ _ _ e=>e) hR)
    have K0:((⟨E0.K,E0.tk,E1.G,E0.A⟩:En).row H0.next (E1.K q)).K H0.next=E1.K q:=if_pos rfl
    refine⟨E1,_,_,[.os H0.next (size t)],[c],cs,X1,S1,s2,rfl,l.mono X1.e X1.le,fun tail=>?_,?_,?_,Nat.le_succ _⟩
    ·unfold nA;simp only[List.cons_append,List.nil_append,tY]
    ·refine .cons ?_ .nil;have yJ:=V.os (E:=(⟨E0.K,E0.tk,E1.G,E0.A⟩:En).row H0.next (E1.K q)) (N:=Nat.add H0.next 1) (r:=H0.next) (sz:=size t) (Nat.lt_succ_self _) (by
      rw[K0]
      rcases hR.2 with⟨k1,k2⟩|⟨id,base,row,ls,k1,_⟩
      ·exact .inl ⟨k1,by rw[<-hR.1,k2];rfl⟩
      ·exact .inr ⟨id,base,k1⟩)
     rw[K0,ha]at yJ;exact yJ
    ·have le:=En.xR (⟨E0.K,E0.tk,E1.G,E0.A⟩:En) H0.next (E1.K q)
     exact⟨le.K,le.tk,by rw[s.G];exact X1.e.G,rfl⟩
   ·cases e
 |av v=>
  intro E0 H0 E X X' h vs rest cs pl S s hv e;cases hv with
  |nil=>cases e
  |cons a l=>
   rename_i w c vs cs
   cases w with
   |a w=>
    have e1:=(jI (show(bif uE v w then some (([]:List Pl),vs,X)else none)=some (pl,rest,X')from e)).1;have e2:=(jI (show(bif uE v w then some (([]:List Pl),vs,X)else none)=some (pl,rest,X')from e)).2;cases e2;have:=Eo _ _ e1;subst this;cases a with
    |a h=>exact qU S s l (fun tail=>rfl) (.a h)
   | _=>cases e
 |pt g p ih=>
  intro E0 H0 E X X' h vs rest cs pl S s hv e;cases hv with
  |nil=>cases e
  |cons a l=>
   rename_i v c vs cs
   cases v with
   |rf r o=>
    cases o with
    |succ _=>cases e
    |zero=>
     change (match X.H.cz.get r with
      |some (.o g' cells)=>(bif Nat.beq g 0||Nat.beq g g' then(match F3 p cells X with
       |some (pl,[],X1)=>(match X1.H.cz.get r with
        |some (.o g2 _)=>bif Nat.beq g' g2&&FZ r X1.rn then some (pl,vs,(⟨X1.H,Nat.add X1.c 1,(X1.c,r)::X1.rn⟩:Xq))else none
        | _=>none)
       | _=>none)else none)
      | _=>none)=some (pl,rest,X')at e
     split at e
     ·rename_i g' cells hr
      have hg:=(jI e).1
      replace e:=(jI e).2
      split at e
      ·rename_i pl' X1 hx
       split at e
       ·rename_i g2 aza hr2
        have hg2:=(jI e).1
        replace e:=(jI e).2
        cases e;rw[Bool.and_eq_true]at hg2;obtain⟨nM,id,row,k1,k2,k3,k4⟩:=S.row _ _ hr;obtain⟨E1,Cy,BL,ws,PC,E7,n1,S1,s1,c1,c2,c3,c4,c5,c6⟩:=ih S s k3 hx
        have Jz:E7=[]:=by cases c2;rfl
        rw[Jz,List.append_nil]at c1;have hK:E1.K r=E.K r:=n1.e.K r nM;have hR:RV Cy BL.next h (E1.K r) (.o g ws):=by
         refine⟨id,row,by rw[hK];exact k1,k2,by rw[c1];exact c4,fun hg0=>?_⟩;have:g=g':=by
          rw[Bool.or_eq_true]at hg
          rcases hg with q|q
          ·exact(hg0 (beq_true q)).elim
          ·exact beq_true q
         subst this;rw[hK,k4 hg0,s1.A,n1.e.A]
        have s2:=s1.WZ S1 (q:=r) ⟨_,hr2,rfl⟩ hg2.2 rfl hR
        have K0:(Cy.row BL.next (E1.K r)).K BL.next=E1.K r:=if_pos rfl
        cases a with
        |rf _ h2=>
         rename_i Eg
         rw[k1]at h2;cases h2;refine⟨E1,_,_,[.rf BL.next 0],[.ref id 0],cs,n1,S1,s2,rfl,l.mono n1.e n1.le,fun tail=>?_,?_,?_,Nat.le_succ_of_le c6⟩
         ·show(match nA p (pl++tail) H0 with|some (cs,r,H)=>some ([Sv.rf H.next 0],r,lU H (.o g cs))|none=>none)=_;rw[c3]
         ·exact .cons (.rf (Nat.lt_succ_self _) (by rw[K0,hK];exact k1)) .nil
         ·exact c5.trans (En.xR _ _ _) c6
       ·cases e
      ·cases e
     ·cases e
   | _=>cases e
 |ag p ih=>
  intro E0 H0 E X X' h vs rest cs pl S s hv e;cases hv with
  |nil=>cases e
  |cons a l=>
   rename_i v c vs cs
   cases v with
   |ag cells=>
    change (match F3 p cells X with|some (pl,[],X1)=>some (pl,vs,X1)| _=>none)=some (pl,rest,X')at e
    split at e
    ·rename_i pl' X1 hx
     cases e;cases a with
     |ag k=>
      rename_i l'
      obtain⟨E1,Cy,BL,ws,PC,E7,n1,S1,s1,c1,c2,c3,c4,c5,c6⟩:=ih S s k hx
      have Jz:E7=[]:=by cases c2;rfl
      rw[Jz,List.append_nil]at c1;refine⟨E1,Cy,BL,[.ag ws],[.agg l'],cs,n1,S1,s1,rfl,l.mono n1.e n1.le,fun tail=>?_,.cons (.ag (by rw[c1];exact c4)) .nil,c5,c6⟩;show(match nA p (pl++tail) H0 with|some (cs,r,H)=>some ([Sv.ag cs],r,H)|none=>none)=_;rw[c3]
    ·cases e
   | _=>cases e
 |tu p ih=>
  intro E0 H0 E X X' h vs rest cs pl S s hv e;cases hv with
  |nil=>cases e
  |cons a l=>
   rename_i v c vs cs
   cases v with
   |tu cells=>
    change (match F3 p cells X with|some (pl,[],X1)=>some (pl,vs,X1)| _=>none)=some (pl,rest,X')at e
    split at e
    ·rename_i pl' X1 hx
     cases e;cases a with
     |tu k=>
      rename_i l'
      obtain⟨E1,Cy,BL,ws,PC,E7,n1,S1,s1,c1,c2,c3,c4,c5,c6⟩:=ih S s k hx
      have Jz:E7=[]:=by cases c2;rfl
      rw[Jz,List.append_nil]at c1;refine⟨E1,Cy,BL,[.tu ws],[.DO l'],cs,n1,S1,s1,rfl,l.mono n1.e n1.le,fun tail=>?_,.cons (.tu (by rw[c1];exact c4)) .nil,c5,c6⟩;show(match nA p (pl++tail) H0 with|some (cs,r,H)=>some ([Sv.tu cs],r,H)|none=>none)=_;rw[c3]
    ·cases e
   | _=>cases e
 |nil=>
  intro E0 H0 E X X' h vs rest cs pl S s hv e;cases e;exact⟨E,E0,H0,[],[],cs,Nx.refl _ _ _,S,s,rfl,hv,fun _=>rfl,.nil,Et.refl _ _,Nat.le_refl _⟩
 |cons p q ihp ihq=>
  intro E0 H0 E X X' h vs rest cs pl S s hv e
  change (match F3 p vs X with|some (pa,r,X1)=>(match F3 q r X1 with|some (pb,r,X2)=>some (app pa pb,r,X2)|none=>none)|none=>none)=some (pl,rest,X')at e
  split at e
  ·rename_i pa r X1 hx
   split at e
   ·rename_i pb r2 X2 hx2
    cases e;obtain⟨E1,E1',H1',ws1,a1,a2,n1,S1,s1,c1,c2,c3,c4,c5,c6⟩:=ihp S s hv hx;obtain⟨E2,E2',H2',ws2,b1,b2,n2,S2,s2,d1,d2,d3,d4,d5,d6⟩:=ihq S1 s1 c2 hx2;refine⟨E2,E2',H2',ws1++ws2,a1++b1,b2,n1.trans n2,S2,s2,by rw[c1,d1,List.append_assoc],d2,fun tail=>?_,(c4.mono d5 d6).app d4,c5.trans d5 c6,Nat.le_trans c6 d6⟩;rw[cZ,List.append_assoc];show(match nA p (pa++(pb++tail)) H0 with|some (v,r,H)=>(match nA q r H with|some (w,r,H)=>some (app v w,r,H)|none=>none)|none=>none)=_;rw[c3];simp only[d3,cZ]
   ·cases e
  ·cases e
 |fn f p ih=>
  intro E0 H0 E X X' h vs rest cs pl S s hv e;cases hv with
  |nil=>cases e
  |cons a l=>
   rename_i v c vs cs
   cases v with
   |fn f' caps=>
    change (bif Nat.beq f f' then(match F3 p caps X with|some (pl,[],X1)=>some (pl,vs,X1)| _=>none)else none)=some (pl,rest,X')at e
    have hf:=beq_true (jI e).1
    replace e:=(jI e).2
    subst hf;split at e
    ·rename_i pl' X1 hx
     cases e;cases a with
     |fn k=>
      rename_i l'
      obtain⟨E1,Cy,BL,ws,PC,E7,n1,S1,s1,c1,c2,c3,c4,c5,c6⟩:=ih S s k hx
      have Jz:E7=[]:=by cases c2;rfl
      rw[Jz,List.append_nil]at c1;refine⟨E1,Cy,BL,[.fn f ws],[.fn f l'],cs,n1,S1,s1,rfl,l.mono n1.e n1.le,fun tail=>?_,.cons (.fn (by rw[c1];exact c4)) .nil,c5,c6⟩;show(match nA p (pl++tail) H0 with|some (cs,r,H)=>some ([Sv.fn f cs],r,H)|none=>none)=_;rw[c3]
    ·cases e
   | _=>cases e
 |zp p ih=>
  intro E0 H0 E X X' h vs rest cs pl S s hv e;cases hv with
  |nil=>cases e
  |cons a l=>
   rename_i v c vs2 E7
   cases v with
   |zp cells=>
    change (match F3 p cells X with|some (pl,[],X1)=>some (pl,vs2,X1)| _=>none)=some (pl,rest,X')at e
    split at e
    ·rename_i pl' X1 hx
     cases e
     have fin: ∀ l',Vs E X.H.next cells l'->(∀ (Cy:En) (N:Nat) (ws:List Sv),Vs Cy N ws l'->(∀ id row,E.G id=some row->Cy.G id=some row)->V Cy N (.zp ws) c)->
      ∃ E' Cy BL ws ds1 ds2,Nx E E' X.H X'.H h h/\SR E' X'.H h/\Sub Cy BL E' X' h/\c::E7=ds1++ds2/\Vs E' X'.H.next rest ds2/\(∀ tail,nA (.zp p) (pl++tail) H0=some (ws,tail,BL))/\Vs Cy BL.next ws ds1/\Et E0 Cy H0.next/\H0.next<=BL.next:=by
      intro l' k hw;obtain⟨E1,Cy,BL,ws,ds1,ds2,n1,S1,s1,c1,c2,c3,c4,c5,c6⟩:=ih S s k hx
      have Jz:ds2=[]:=by cases c2;rfl
      rw[Jz,List.append_nil]at c1;refine⟨E1,Cy,BL,[.zp ws],[c],E7,n1,S1,s1,rfl,l.mono n1.e n1.le,fun tail=>?_,.cons (hw _ _ _ (by rw[c1];exact c4) fun id row g=>by rw[s1.G];exact n1.e.G id row g) .nil,c5,c6⟩;show(match nA p (pl++tail) H0 with|some (cs,r,H)=>some ([Sv.zp cs],r,H)|none=>none)=_;rw[c3]
     cases a with
     |zp k=>exact fin _ k fun _ _ _ w _=>.zp w
     |zr k g sg=>exact fin _ k fun _ _ _ w hg=>.zr w (hg _ _ g) (by rw[w.length,<-k.length];exact sg)
    ·cases e
   | _=>cases e
 |el j sz o=>
  intro E0 H0 E X X' h vs rest cs pl S s hv e;cases hv with
  |nil=>cases e
  |cons a l=>
   rename_i v c vs cs
   cases v with
   |re r sz' i o'=>
    change (match look j X.rn with|some r'=>bif Nat.beq r r'&&(Nat.beq sz sz'&&Nat.beq o o')then some ([(⟨.int .i64,Int.ofNat i⟩:Pl)],vs,X)else none|none=>none)=some (pl,rest,X')at e
    split at e
    ·rename_i r' hr
     have hb:=(jI e).1
     replace e:=(jI e).2
     cases e;rw[Bool.and_eq_true,Bool.and_eq_true]at hb;have b1:=beq_true hb.1;have b2:=beq_true hb.2.1;have b3:=beq_true hb.2.2;subst b1;subst b2;subst b3;obtain⟨q1,q2,q3,q4⟩:=s.rn _ (vX hr);cases a with
     |re h1 h2 h3=>
      refine qU S s l (fun tail=>rfl) ?_;exact .re (by rw[s.c];exact q1) (by rw[q4];exact h2) h3
    ·cases e
   | _=>cases e
 |rp j o=>
  intro E0 H0 E X X' h vs rest cs pl S s hv e;cases hv with
  |nil=>cases e
  |cons a l=>
   rename_i v c vs cs
   cases v with
   |rf r o'=>
    change (match look j X.rn with|some r'=>bif Nat.beq r r'&&Nat.beq o o' then some (([]:List Pl),vs,X)else none|none=>none)=some (pl,rest,X')at e
    split at e
    ·rename_i r' hr
     have hb:=(jI e).1
     replace e:=(jI e).2
     cases e;rw[Bool.and_eq_true]at hb;have b1:=beq_true hb.1;have b2:=beq_true hb.2;subst b1;subst b2;obtain⟨q1,q2,q3,q4⟩:=s.rn _ (vX hr);cases a with
     |rf h1 h2=>
      refine qU S s l (fun tail=>rfl) ?_;exact .rf (by rw[s.c];exact q1) (by rw[q4];exact h2)
    ·cases e
   | _=>cases e
 |oo j sz=>
  intro E0 H0 E X X' h vs rest cs pl S s hv e;cases hv with
  |nil=>cases e
  |cons a l=>
   rename_i v c vs cs
   cases v with
   |os r sz'=>
    change (match look j X.rn with|some r'=>bif Nat.beq r r'&&Nat.beq sz sz' then some (([]:List Pl),vs,X)else none|none=>none)=some (pl,rest,X')at e
    split at e
    ·rename_i r' hr
     have hb:=(jI e).1
     replace e:=(jI e).2
     cases e;rw[Bool.and_eq_true]at hb;have b1:=beq_true hb.1;have b2:=beq_true hb.2;subst b1;subst b2;obtain⟨q1,q2,q3,q4⟩:=s.rn _ (vX hr);simp only at q4;cases a with
     |os h1 h2=>
      refine qU S s l (fun tail=>rfl) ?_;have hv:=V.os (E:=E0) (N:=H0.next) (r:=j) (sz:=sz) (by rw[s.c];exact q1) (by rw[q4];exact h2);rw[q4]at hv;exact hv
    ·cases e
   | _=>cases e
end Lf
end Go.Ab
