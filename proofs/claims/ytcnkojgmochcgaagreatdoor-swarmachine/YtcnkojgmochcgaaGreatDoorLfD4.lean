import Derived.Test.YtcnkojgmochcgaaGreatDoorLfC
noncomputable section
namespace Go.Ab
namespace Lf
theorem Dd(k:IntKind):qL k k=true:=oK.2 rfl
theorem oe{f s:AV->AV->Option AV}{x y r:AV}(h:f x y=some r):Bs f s x y=some r:=by unfold Bs;rw[h]
theorem pK{f:IntKind->Int->Int->Option AV}(k:IntKind)(a b:Int):ue f (.int k a) (.int k b)=f k a b:=by show(bif qL k k then _ else _)=_;rw[Dd];rfl
theorem GG(op:BinOp)(hop:op=.and∨op=.or∨op=.xor)(f:Nat->Nat->Nat)(k:IntKind)(a b:Int): ∃ r,Ey op f (.int k a) (.int k b)=some (.int k r):=by
 unfold Ey
 rw[pK]
 have hr: ∃ r,Cn (rT (Op.intBits op k a b))=some (.int k r):=by rcases hop with rfl|rfl|rfl<;>exact⟨_,rfl⟩
 split
 ·rename_i a b
  cases hc:(Nat.blt a (Ai k)&&Nat.blt b (Ai k))with
  |true=>exact⟨_,rfl⟩
  |false=>exact hr
 ·exact hr
theorem zF{o:Option AV}{k:IntKind}(h: ∃ r,o=some (.int k r)):o=some (.int k (intOf o)):=by obtain⟨r,h⟩:=h;rw[h];rfl
theorem ahO{f:BF}{g:IntKind->Int->Int->Int}(h:R7 f=.ar g)(k:IntKind)(a b:Int):f.f (.int k a) (.int k b)=some (.int k (g k a b)):=by
 cases f<;>first|(cases h;done)|skip
 case add=>cases h;exact oe (pK k a b)
 case sub=>cases h;exact oe (pK k a b)
 case mul=>cases h;exact oe (pK k a b)
 case and=>cases h;exact oe (zF (GG .and (.inl rfl) Nat.land k a b))
 case or=>cases h;exact oe (zF (GG .or (.inr (.inl rfl)) Nat.lor k a b))
 case xor=>cases h;exact oe (zF (GG .xor (.inr (.inr rfl)) Nat.xor k a b))
 case andNot=>
  cases h
  have hr: ∃ r,Cn (rT (Op.intBits .andNot k a b))=some (.int k r):=⟨_,rfl⟩
  refine zF (o:=s0 (.int k a) (.int k b)) ?_
  unfold s0;rw[pK];exact hr
theorem ahP{f:BF}{g:IntKind->Int->Int->Int}(h:R7 f=.dv g)(k:IntKind)(a b:Int)(hb: ¬ b=0):f.f (.int k a) (.int k b)=some (.int k (g k a b)):=by
 have hz:eqI b 0=false:=by cases e:eqI b 0 with
  |false=>rfl
  |true=>exact(hb (pj.1 e)).elim
 cases f<;>first|(cases h;done)|skip
 case quo=>cases h;exact oe (by unfold VY;rw[pK,hz];rfl)
 case rem=>cases h;exact oe (by unfold VZ;rw[pK,hz];rfl)
theorem ahQ{f:BF}{g:IntKind->Int->Int->Int}(h:R7 f=.sh g)(k k':IntKind)(a b:Int)(hb:0<=b):f.f (.int k a) (.int k' b)=some (.int k (g k a b)):=by
 obtain⟨n,rfl⟩:=Int.eq_ofNat_of_zero_le hb
 cases f<;>first|(cases h;done)|skip
 case shl=>cases h;have q:Kt (.int k a) (.int k' (Int.ofNat n))=some (.int k (tP k a (Int.ofNat n))):=rfl;show Bs Kt HE (.int k a) (.int k' (Int.ofNat n))=_;exact oe q
 case shr=>cases h;have q:Ku (.int k a) (.int k' (Int.ofNat n))=some (.int k (px k a (Int.ofNat n))):=rfl;show Bs Ku HE (.int k a) (.int k' (Int.ofNat n))=_;exact oe q
theorem ahR{f:BF}{g:Int->Int->Bool}(h:R7 f=.cm g)(k:IntKind)(a b:Int):f.f (.int k a) (.int k b)=some (.bool (g a b)):=by
 cases f<;>first|(cases h;done)|skip
 case lss=>cases h;refine oe ?_;unfold acy;rw[pK,qv]
 case leq=>cases h;refine oe ?_;unfold acz;rw[pK,qv];simp[<-Int.not_lt]
 case gtr=>cases h;refine oe ?_;unfold acA;rw[pK,qv]
 case geq=>cases h;refine oe ?_;unfold acB;rw[pK,qv];simp[<-Int.not_lt]
 case eqI neg=>
  have he:eqI a b=decide (a=b):=by
   cases e:eqI a b with
   |true=>exact(decide_eq_true (pj.1 e)).symm
   |false=>refine(decide_eq_false fun q=>?_).symm;rw[pj.2 q]at e;cases e
  cases neg with
  |false=>cases h;refine oe ?_;unfold Qj;rw[pK,he];rfl
  |true=>cases h;refine oe ?_;unfold Qj;rw[pK,he];rfl
section
variable {E:En}{N:Nat}
theorem XK{i:Bool}{x y:Sv}{c d:AV}{r:LB}(hx:V E N x c)(hy:V E N y d)(h:Xv i x y=some r):eq1 i c d=some r.v:=by
 unfold Xv at h
 split at h
 ·split at h
  ·obtain⟨hk,h⟩:=cR h
   cases h
   cases hx;cases hy
   show(bif qL _ _ then some (eqI _ _)else none)=_
   rw[hk];rfl
  ·split at h
   ·rename_i k a k' b h1 h2
    obtain⟨hk,h⟩:=cR h
    cases h
    rw[qf hx h1,qf hy h2]
    show(bif qL k k' then some (eqI a b)else none)=_
    rw[hk]
    show some (eqI a b)=some (decide (a=b))
    congr 1
    cases e:eqI a b with
    |true=>exact(decide_eq_true (pj.1 e)).symm
    |false=>refine(decide_eq_false fun q=>?_).symm;rw[pj.2 q]at e;cases e
   ·cases h
 ·split at h
  ·rename_i h1 h2;cases h;rw[qe hx h1,qe hy h2];rfl
  ·rename_i a b h1 h2;cases h;rw[qe hx h1,qe hy h2];rfl
  ·cases h
theorem LB.SB(a b:LB):(a.and b).v=(a.v&&b.v):=by
 cases a with
 |l a=>cases a<;>cases b<;>rfl
 |t a=>cases b with
  |l b=>cases b<;>simp[LB.and,LB.v]
  |t b=>rfl
theorem MR: ∀ {l:List Bool} {xs ys:List Sv} {cs ds:List AV} {r:LB},Vs E N xs cs->Vs E N ys ds->ade l xs ys=some r->DW l cs ds=some r.v
 | [],_,_,_,_,_,_,_,h=>by cases h;rfl
 |i::l,[],_,_,_,_,_,_,h=>by cases h
 |i::l,_::_,[],_,_,_,_,_,h=>by cases h
 |i::l,x::xs,y::ys,c'::l1,d'::l2,r,.cons hx WN,.cons hy hys,h=>by
  change (match Xv i x y with|some c=>(match ade l xs ys with|some d=>some (c.and d)|none=>none)|none=>none)=some r at h
  split at h
  ·rename_i c hc
   split at h
   ·rename_i d hd
    cases h
    have h1:=XK hx hy hc
    have h2:=MR WN hys hd
    show(match eq1 i c' d' with|none=>none|some c=>Bool.rec (some false) (DW l l1 l2) c)=_
    rw[h1,LB.SB]
    simp only
    cases c.v with
    |true=>simp[h2]
    |false=>rfl
   ·cases h
  ·cases h
theorem adA(neg:Bool)(c:LB):(adf neg c).v=bif neg then !c.v else c.v:=by cases neg<;>cases c<;>rfl
theorem MS{y:Sv}{d:AV}(hy:V E N y d)(h:R9 y=true):(∃ i o,d=.ref i o)∨ ∃ l,d=.pP l:=by
 cases hy<;>first|(cases h;done)|exact .inl ⟨_,_,rfl⟩|exact .inr ⟨_,rfl⟩
theorem XL{f:BF}{x y v:Sv}{c d:AV}(hx:V E N x c)(hy:V E N y d)(h:(adg f x y).val=some v): ∃ r,f.f c d=some r/\V E N v r:=by
 unfold adg at h
 split at h
 ·split at h
  ·rename_i hr;cases h;cases hx;cases hy;exact⟨_,hr,.i⟩
  ·rename_i hr;cases h;cases hx;cases hy;exact⟨_,hr,.b⟩
  ·cases h
 ·split at h
  ·rename_i k a k' b h1 h2
   rw[qf hx h1,qf hy h2]
   split at h
   ·rename_i g hg
    cases hk:qL k k' with
    |false=>rw[hk]at h;cases h
    |true=>
     rw[hk]at h;cases h
     have:=oK.1 hk;subst this
     exact⟨_,ahO hg k a b,py⟩
   ·rename_i g hg
    cases hk:qL k k' with
    |false=>rw[hk]at h;cases h
    |true=>
     rw[hk]at h
     have:=oK.1 hk;subst this
     simp only[cond_true]at h
     have key: ¬ b=0/\v=.c 0 (.int k) (g k a b):=by
      cases hl:R8 y with
      |true=>
       rw[hl]at h
       simp only[cond_true]at h
       cases hz:eqI b 0 with
       |true=>rw[hz]at h;cases h
       |false=>rw[hz]at h;cases h;exact⟨(fun q=>by rw[pj.2 q]at hz;cases hz),rfl⟩
      |false=>
       rw[hl]at h
       obtain⟨h1,h2⟩:=T.cG h
       cases h2
       exact⟨by simpa using h1,rfl⟩
     rw[key.2]
     exact⟨_,ahP hg k a b key.1,py⟩
   ·rename_i g hg
    have key:0<=b/\v=.c 0 (.int k) (g k a b):=by
     cases hl:R8 y with
     |true=>
      rw[hl]at h
      simp only[cond_true]at h
      cases hz:sD b 0 with
      |true=>rw[hz]at h;cases h
      |false=>rw[hz]at h;cases h;exact⟨WL.1 hz,rfl⟩
     |false=>
      rw[hl]at h
      obtain⟨h1,h2⟩:=T.cG h
      cases h2
      exact⟨by simpa using h1,rfl⟩
    rw[key.2]
    exact⟨_,ahQ hg k k' a b key.1,py⟩
   ·rename_i g hg
    cases hk:qL k k' with
    |false=>rw[hk]at h;cases h
    |true=>
     rw[hk]at h;cases h
     have:=oK.1 hk;subst this
     exact⟨_,ahR hg k a b,tc⟩
   ·cases h
  ·cases h
theorem adB{f:BF}{x y v:Sv}{c d:AV}(hx:V E N x c)(hy:V E N y d)(h:(sBn f x y).val=some v): ∃ r,f.f c d=some r/\V E N v r:=by
 cases f with
 |eqB neg=>
  simp only[sBn]at h
  split at h
  ·rename_i h1 h2;cases h;rw[qe hx h1,qe hy h2];exact⟨_,rfl,.b⟩
  ·rename_i h1 h2;cases h;rw[qe hx h1,qe hy h2];cases neg<;>exact⟨_,rfl,tc⟩
  ·cases h
 |V4 neg=>
  simp only[sBn]at h
  split at h
  ·rename_i h1 h2;cases h;rw[vW hx h1,vW hy h2];exact⟨_,rfl,.b⟩
  ·rename_i h1 h2;cases h;rw[vW hx h1,vW hy h2];cases neg<;>exact⟨_,rfl,tc⟩
  ·cases h
 |eqP neg=>
  simp only[sBn]at h
  split at h
  ·cases h;cases hx;cases hy;exact⟨_,rfl,.b⟩
  ·cases hp:R9 y with
   |false=>rw[hp]at h;cases h
   |true=>
    rw[hp]at h;cases h
    cases hx
    rcases MS hy hp with⟨_,_,rfl⟩|⟨_,rfl⟩<;>exact⟨_,rfl,.b⟩
  ·cases hp:R9 x with
   |false=>rw[hp]at h;cases h
   |true=>
    rw[hp]at h;cases h
    cases hy
    rcases MS hx hp with⟨_,_,rfl⟩|⟨_,rfl⟩<;>exact⟨_,rfl,.b⟩
  ·cases h
 |eqN neg=>
  simp only[sBn]at h
  split at h
  ·rename_i v' w
   cases hn:isNil w with
   |false=>rw[hn]at h;cases h
   |true=>
    rw[hn]at h
    simp only[cond_true]at h
    split at h
    ·rename_i b hb
     cases h
     cases hx;cases hy
     refine⟨.bool (bif neg then !b else b),?_,.b⟩
     show(bif isNil _ then Option.rec none (fun b=>some (.bool (bif neg then !b else b))) (FR _)else none:Option AV)=_
     rw[hn,hb];rfl
    ·cases h
  ·rename_i w
   cases hn:isNil w with
   |false=>rw[hn]at h;cases h
   |true=>
    rw[hn]at h
    cases h
    cases hx;cases hy
    refine⟨.bool neg,?_,.b⟩
    simp only[BF.f,Cp,hn,cond_true]
    cases neg<;>rfl
  ·rename_i t x w
   cases hn:isNil w with
   |false=>rw[hn]at h;cases h
   |true=>
    rw[hn]at h
    obtain⟨hl,h⟩:=Lf.T.cG h
    cases h
    cases hy
    refine⟨.bool neg,?_,.b⟩
    simp only[BF.f,Cp,hn,cond_true]
    cases hx with
    |c k _=>
     obtain⟨a,ea,k⟩:=k
     cases ea
     have hx0: ¬ x.length=0:=fun e=>by rw[e]at hl;cases hl
     rcases k with⟨_,k⟩|⟨ls,_,k|⟨id,base,row,k,_⟩⟩
     ·subst k;exact(hx0 rfl).elim
     ·subst k
      have hb:Nat.beq x.length 0=false:=by revert hl;cases Nat.beq x.length 0<;>simp
      simp only[FR,isNil,cond_false,hb]
      cases neg<;>rfl
     ·subst k
      simp only[FR,isNil,cond_false]
      cases neg<;>rfl
  ·cases h
 |uc neg l=>
  simp only[sBn]at h
  split at h
  ·rename_i xs ys
   split at h
   ·rename_i r hr
    cases h
    cases hx with
    |ag hx=>cases hy with
     |ag hy=>
      refine⟨.bool (bif neg then !r.v else r.v),?_,by have:=adw (E:=E) (N:=N) (c:=adf neg r);rw[adA]at this;exact this⟩
      show(match DW l _ _ with|some c=>some (AV.bool (bif neg then !c else c))|none=>none)=_
      rw[MR hx hy hr]
   ·cases h
  ·cases h
 | _=>exact XL hx hy h
theorem XM{f:UF}{x v:Sv}{c:AV}(hx:V E N x c)(h:adi f x=some v): ∃ r,f.f c=some r/\V E N v r:=by
 unfold adi at h
 split at h
 ·split at h
  ·rename_i h1;cases h;rw[qe hx h1];exact⟨_,rfl,.b⟩
  ·rename_i h1;cases h;rw[qe hx h1];exact⟨_,rfl,tc⟩
  ·cases h
 ·split at h
  ·cases h;cases hx;exact⟨_,rfl,.i⟩
  ·cases h;rw[qf hx rfl];exact⟨_,rfl,py⟩
  ·cases h
 ·split at h
  ·cases h;cases hx;exact⟨_,rfl,.i⟩
  ·cases h;rw[qf hx rfl];exact⟨_,rfl,py⟩
  ·cases h
 ·split at h
  ·cases h;cases hx;exact⟨_,rfl,.i⟩
  ·cases h;rw[qf hx rfl];exact⟨_,rfl,py⟩
  ·cases h
end
theorem XN(f:BF)(a b:Od):oP (Xw f a b) (fun _ _=>wa f.f (cI a) (cI b)):=nF (by
 intro E T t H h v T' H' hT hH e
 unfold Xw at e
 split at e
 ·rename_i x hx
  split at e
  ·rename_i y hy
   obtain⟨w,e1,e2⟩:=Lf.T.nG e
   obtain⟨rfl,rfl,rfl⟩:=cC e2
   obtain⟨c,hc,pq⟩:=cH hT hx
   obtain⟨d,hd,VS⟩:=cH hT hy
   obtain⟨r,hr,Rv⟩:=adB pq VS e1
   refine⟨rfl,rfl,r,?_,Rv⟩
   show(Option.rec Go.Ab.Ro.bad (fun a'=>Option.rec Go.Ab.Ro.bad (fun b'=>Option.rec Go.Ab.Ro.bad (fun v=>Go.Ab.Ro.ok v h) (f.f a' b')) (cI b t)) (cI a t):Go.Ab.Ro)=_
   rw[hc,hd]
   simp only[hr]
  ·cases e
 ·cases e)
theorem adC(f:UF)(a:Od):oP (sUn f a) (fun _ _=>HQ f.f (cI a)):=nF (by
 intro E T t H h v T' H' hT hH e
 unfold sUn at e
 split at e
 ·rename_i x hx
  obtain⟨e1,rfl,rfl⟩:=tR e
  obtain⟨c,hc,pq⟩:=cH hT hx
  obtain⟨r,hr,Rv⟩:=XM pq e1
  refine⟨rfl,rfl,r,?_,Rv⟩
  show(Option.rec Go.Ab.Ro.bad (fun a'=>Option.rec Go.Ab.Ro.bad (fun v=>Go.Ab.Ro.ok v h) (f.f a')) (cI a t):Go.Ab.Ro)=_
  rw[hc]
  simp only[hr]
 ·cases e)
theorem SC(a:Od):oP (MK a) (fun _ _=>vP (cI a)):=nF (by
 intro E T t H h v T' H' hT hH e
 unfold MK at e
 split at e
 ·rename_i x hx
  obtain⟨c,hc,pq⟩:=cH hT hx
  split at e
  ·rename_i s hs
   obtain⟨rfl,rfl,rfl⟩:=cC e
   have:=vW pq hs;subst this
   exact⟨rfl,rfl,_,by unfold vP;rw[hc],.i⟩
  ·rename_i s hs
   obtain⟨rfl,rfl,rfl⟩:=cC e
   have:=vW pq hs;subst this
   exact⟨rfl,rfl,_,by unfold vP;rw[hc],py⟩
  ·cases e
 ·cases e)
theorem XO(a b:Od){t:Tm}{h:Hp}{k:IntKind}{m n:Int}(h1:cI a t=some (.int k m))(h2:cI b t=some (.int k n)):DY (cI a) (cI b) t h=.ok (.int k (bif sD n m then n else m)) h:=by
 unfold DY wa
 rw[h1,h2]
 have q:=pK (f:=fun k a b=>some (.int k (bif sD b a then b else a))) k m n
 simp only[oe q]
theorem XP(a b:Od){t:Tm}{h:Hp}{k:IntKind}{m n:Int}(h1:cI a t=some (.int k m))(h2:cI b t=some (.int k n)):DZ (cI a) (cI b) t h=.ok (.int k (bif sD m n then n else m)) h:=by
 unfold DZ wa
 rw[h1,h2]
 have q:=pK (f:=fun k a b=>some (.int k (bif sD a b then b else a))) k m n
 simp only[oe q]
theorem ahS(m n:Int):(bif sD n m then n else m)=min m n:=by
 rw[qv]
 by_cases q:n<m
 ·simp only[decide_eq_true q,cond_true];omega
 ·simp only[decide_eq_false q,cond_false];omega
theorem ahT(m n:Int):(bif sD m n then n else m)=max m n:=by
 rw[qv]
 by_cases q:m<n
 ·simp only[decide_eq_true q,cond_true];omega
 ·simp only[decide_eq_false q,cond_false];omega
theorem MT{mx:Bool}{a b:Od}{E:En}{T T':Tq}{t:Tm}{H H':Hq}{v:Sv}(hT:TV E H.next T t)(e:(K9 mx a b T H).val=some (v,T',H')):
 H'=H/\T'=T/\ ∃ k m n,cI a t=some (.int k m)/\cI b t=some (.int k n)/\V E H.next v (.int k (bif mx then(bif sD m n then n else m)else(bif sD n m then n else m))):=by
 unfold K9 at e
 split at e
 ·rename_i x hx
  split at e
  ·rename_i y hy
   obtain⟨c,hc,pq⟩:=cH hT hx
   obtain⟨d,hd,VS⟩:=cH hT hy
   split at e
   ·rename_i k m k' n
    cases hk:qL k k' with
    |false=>rw[hk]at e;cases e
    |true=>
     rw[hk]at e
     obtain⟨rfl,rfl,rfl⟩:=cC e
     have:=oK.1 hk;subst this
     cases pq;cases VS
     exact⟨rfl,rfl,k,m,n,hc,hd,.i⟩
   ·split at e
    ·rename_i k m k' n h1 h2
     cases hk:qL k k' with
     |false=>rw[hk]at e;cases e
     |true=>
      rw[hk]at e
      obtain⟨rfl,rfl,rfl⟩:=cC e
      have:=oK.1 hk;subst this
      rw[qf pq h1]at hc
      rw[qf VS h2]at hd
      refine⟨rfl,rfl,k,m,n,hc,hd,?_⟩
      cases mx with
      |true=>simp only[cond_true,ahT];exact py
      |false=>simp only[cond_false,ahS];exact py
    ·cases e
  ·cases e
 ·cases e
theorem XQ(a b:Od):oP (K9 false a b) (fun _ _=>DY (cI a) (cI b)):=nF (by
 intro E T t H h v T' H' hT hH e
 obtain⟨rfl,rfl,k,m,n,h1,h2,hv⟩:=MT hT e
 exact⟨rfl,rfl,_,XO a b h1 h2,hv⟩)
theorem XR(a b:Od):oP (K9 true a b) (fun _ _=>DZ (cI a) (cI b)):=nF (by
 intro E T t H h v T' H' hT hH e
 obtain⟨rfl,rfl,k,m,n,h1,h2,hv⟩:=MT hT e
 exact⟨rfl,rfl,_,XP a b h1 h2,hv⟩)
end Lf
end Go.Ab

noncomputable section
namespace Go.Ab
namespace Lf
theorem IZ{agg:Bool}{row:Rw}{b k o sz:Nat}{L:List AV}{c:AV}(s:row.rH b k=some L)(vQ:0<sz)(h:part agg L o sz=some c):xP agg row (b+o) sz=some c:=by
 unfold part at h
 split at h
 ·cases h
 ·rename_i q hq
  obtain⟨rfl,hl⟩:=s6 hq
  obtain⟨s1,s2⟩:=oM.1 s
  have hL:L.length=k:=by rw[s2,List.length_take,List.length_drop,oJ];omega
  have hb:o+sz<=k:=by rw[List.length_take,List.length_drop]at hl;omega
  unfold xP
  rw[uH s hb]
  exact h
theorem SD{agg:Bool}{l r:List AV}{sz:Nat}{c:AV}(h:part agg l 0 sz=some c):part agg (l++r) 0 sz=some c:=by
 unfold part at h
 split at h
 ·cases h
 ·rename_i q hq
  obtain⟨rfl,hl⟩:=s6 hq
  rw[List.drop_zero]at h hl
  have:List.take sz (l++r)=List.take sz l:=List.take_append_of_le_length (by rw[List.length_take]at hl;omega)
  unfold part
  rw[yw (by rw[List.drop_zero,this,hl]),List.drop_zero,this]
  exact h
theorem AN{E:En}{H:Hq}{h:Hp}(S:SR E H h){r:Nat}{l:List Sv}(e:C7 H r=some l): ∃ id row,(E.K r).av=.ref id 0/\h.cw.get id=some row/\Vs E H.next l row.toL:=by
 unfold C7 at e
 split at e
 ·rename_i hr;cases e
  obtain⟨id,row,a,b,c,_⟩:=(S.row _ _ hr).2
  exact⟨id,row,a,b,c⟩
 ·rename_i hr;cases e
  obtain⟨id,row,a,b,c⟩:=(S.row _ _ hr).2
  exact⟨id,row,a,(S.g _ _ b).2.1,c⟩
 ·cases e
theorem zG{E:En}{N:Nat}{t:Ty}{x:List (den t)}{base i:Nat}{row:Rw}{ls:List AV}(hi:i<x.length)(s:row.rH base (x.length*size t)=some ls)(e:rP (EV E.G t) x ls):
 EV E.G t (x.getD i (cE t)) ((ls.drop (i*size t)).take (size t))/\Vs E N (uE t (x.getD i (cE t))) ((ls.drop (i*size t)).take (size t))/\row.rH (base+i*size t) (size t)=some ((ls.drop (i*size t)).take (size t)):=by
 have h1:=e.get (EV.length t) hi (cE t)
 refine⟨h1,xr rfl t _ _ h1,uH s ?_⟩
 have:=Nat.mul_le_mul_right (size t) (Nat.succ_le_of_lt hi)
 rw[Nat.succ_mul]at this;exact this
theorem SE{E:En}{H:Hq}{h:Hp}(S:SR E H h){r sz i id base n:Nat}{l:List Sv}(e:Sa H r sz i=some l)(hk:(E.K r).av=.oG id base n sz)(hi:i<n):
 ∃ row L,h.cw.get id=some row/\Vs E H.next l L/\row.rH (base+i*sz) sz=some L:=by
 have key: ∀ {t:Ty} {x:List (den t)} {S':Nat->Option Rw},(∀ row,S' id=some row->h.cw.get id=some row)->LR E.G t x (E.K r) S'->(bif Nat.beq sz (size t)then some (uE t (x.getD i (cE t)))else none)=some l-> ∃ row L,h.cw.get id=some row/\Vs E H.next l L/\row.rH (base+i*sz) sz=some L:=by
  intro t x S' hs q e
  obtain⟨hb,e⟩:=cR e
  cases e
  have hz:=beq_true hb
  rcases q.2 with⟨k,_⟩|⟨Bu,Sx,row,ls,k1,k2,k3,k4⟩
  ·rw[hk]at k;cases k
  ·rw[hk]at k1
   injection k1 with a1 a2 a3 a4
   subst a1;subst a2
   rw[<-q.1]at a3 k3
   rw[a3]at hi
   obtain⟨_,e2,e3⟩:=zG (N:=H.next) hi k3 k4
   exact⟨row,_,hs _ k2,e2,by rw[hz];exact e3⟩
 unfold Sa at e
 split at e
 ·rename_i t x hr;exact key (fun _ e=>e) (S.row _ _ hr).2 e
 ·rename_i t x hr;exact key (fun _ e=>(S.g _ _ e).2.1) (S.row _ _ hr).2 e
 ·cases e
theorem De{E:En}{H:Hq}{h:Hp}(S:SR E H h){sz:Nat}{agg:Bool}{p v:Sv}{a:AV}(hv:V E H.next p a)(e:EX sz agg p H=some v): ∃ c,Ct h sz agg a=some c/\V E H.next v c:=by
 unfold EX at e
 have vQ:=cP.1 (cR e).1
 replace e:=(cR e).2
 split at e
 ·rename_i r o
  split at e
  ·rename_i l hl
   obtain⟨id,row,k1,k2,k3⟩:=AN S hl
   cases hv with
   |rf h1 h2=>
    rw[k1]at h2;cases h2
    obtain⟨c,c1,c2⟩:=u7 k3 e
    refine⟨c,?_,c2⟩
    show(match h.cw.get id with|some cs=>xP agg cs o sz|none=>none)=_
    rw[k2];exact So vQ c1
  ·cases e
 ·rename_i r s i o
  split at e
  ·rename_i l hl
   cases hv with
   |re h1 h2 h3=>
    rename_i id base n
    obtain⟨row,L,k1,k2,k3⟩:=SE S hl h2 h3
    obtain⟨c,c1,c2⟩:=u7 k2 e
    refine⟨c,?_,c2⟩
    show(match h.cw.get id with|some cs=>xP agg cs (base+i*s+o) sz|none=>none)=_
    rw[k1];exact IZ k3 vQ c1
  ·cases e
 ·cases hv with
  |zp k=>
   obtain⟨c,c1,c2⟩:=u7 k e
   exact⟨c,SD c1,c2⟩
  |zr k g s=>
   rename_i l' id off row
   obtain⟨c,c1,c2⟩:=u7 k e
   refine⟨c,?_,c2⟩
   show(match h.cw.get id with|some cs=>xP agg cs off sz|none=>none)=_
   rw[(S.g _ _ g).2.1]
   have:=IZ s vQ c1
   exact this
 ·cases e
theorem SF(sz:Nat)(agg:Bool)(a:Od):oP (MI sz agg a) (fun _ _=>r8 sz agg (cI a)):=nF (by
 intro E T t H h v T' H' hT hH e
 unfold MI at e
 split at e
 ·rename_i p hp
  obtain⟨e1,rfl,rfl⟩:=tR e
  obtain⟨c,hc,pq⟩:=cH hT hp
  obtain⟨r,h1,h2⟩:=De hH pq e1
  refine⟨rfl,rfl,r,?_,h2⟩
  unfold r8
  rw[hc]
  simp only[h1]
 ·cases e)
theorem GH{E:En}{H:Hq}{h:Hp}(S:SR E H h){r id:Nat}{R R':Row}{XS:Rw}(hr:H.cw.get r=some R)(lv:R.live=true)(lv':R'.live=true)(qu:sH (E.K r).av=some id)
 (hR:RV E H.next (qO h id (some XS)) (E.K r) R'):SR E (qE H r (some R')) (qO h id (some XS))/\Nx E E H (qE H r (some R')) h (qO h id (some XS)):=by
 have ow: ∀ q,own (qE H r (some R')) q->own H q:=by
  rintro q ⟨Q,a,b⟩
  rw[oU]at a
  split at a
  ·rename_i e;rw[e];exact⟨R,hr,lv⟩
  ·exact⟨Q,a,b⟩
 refine⟨⟨?_,?_,?_,?_⟩,⟨B8.refl _ _,Nat.le_refl _,Nat.le_refl _,fun q id o e=>.inl ⟨q,ow q o,e⟩,fun _ _ e=>.inl e,fun i hi hn=>?_⟩⟩
 ·intro q Q hq
  rw[oU]at hq
  split at hq
  ·rename_i e;subst e;cases hq;exact⟨(S.row _ _ hr).1,hR⟩
  ·rename_i ne
   refine⟨(S.row _ _ hq).1,(S.row _ _ hq).2.mono (B8.refl _ _) (Nat.le_refl _) fun lq i row e1 e2=>?_⟩
   rw[qW,if_neg fun ei=>ne (S.inj q r id ⟨Q,hq,lq⟩ ⟨R,hr,lv⟩ (by rw[e1,ei]) qu)]
   exact e2
 ·exact fun a b i oa ob ea eb=>S.inj a b i (ow a oa) (ow b ob) ea eb
 ·exact fun a i oa ea=>S.lt a i (ow a oa) ea
 ·intro i row e
  obtain⟨a,b,c⟩:=S.g i row e
  refine⟨a,?_,fun q oq=>c q (ow q oq)⟩
  rw[qW,if_neg fun ei=>c r ⟨R,hr,lv⟩ (by rw[ei];exact qu)]
  exact b
 ·rw[qW,if_neg fun ei=>hn r ⟨R,hr,lv⟩ (by rw[ei];exact qu)]
theorem B9(L B v:List AV)(o:Nat)(h:o+v.length<=L.length): ∀ (A:List AV),put (A++(L++B)) (A.length+o) v=A++(put L o v++B)
 | []=>by
  simp only[List.nil_append,List.length_nil,Nat.zero_add]
  rw[put_eq,put_eq,List.take_append_of_le_length (by omega),List.drop_append_of_le_length h]
  simp
 |a::A=>by
  have:=B9 L B v o h A
  rw[put_eq]at this ⊢
  rw[List.length_cons,show A.length+1+o=A.length+o+1 by omega,List.cons_append,List.take_succ_cons,show A.length+o+1+v.length=A.length+o+v.length+1 by omega,List.drop_succ_cons,List.cons_append,this]
  rfl
theorem Ca(l:List AV)(o:Nat)(v:List AV)(h:o+v.length<=l.length):(put l o v).length=l.length:=by
 rw[put_eq,List.length_append,List.length_append,List.length_take,List.length_drop];omega
theorem Pc{G:Nat->Option Rw}{t:Ty}{x:List (den t)}{ls:List AV}(e:rP (EV G t) x ls){i:Nat}(hi:i<x.length):ls=ls.take (i*size t)++((ls.drop (i*size t)).take (size t)++ls.drop (i*size t+size t)):=by
 rw[<-List.drop_drop,List.take_append_drop,List.take_append_drop]
theorem XT{G:Nat->Option Rw}{t:Ty}{x:List (den t)}{ls:List AV}(e:rP (EV G t) x ls){i:Nat}(hi:i<x.length){y:den t}{c:List AV}(hy:EV G t y c):rP (EV G t) (x.set i y) (ls.take (i*size t)++(c++ls.drop (i*size t+size t))):=by
 rw[List.set_eq_take_append_cons_drop,if_pos hi]
 have h1:=e.take (EV.length t) i
 have h2:=e.drop (EV.length t) (i+1)
 rw[Nat.succ_mul]at h2
 exact h1.app ⟨c,_,rfl,hy,h2⟩
theorem Pd(sz:Nat)(a b:Od):oP (K6 sz a b) (fun _ _=>tE sz (cI a) (cI b)):=by
 intro E T t H h v T' H' hT hH e
 unfold K6 at e
 split at e
 ·rename_i w hw
  cases hb:(Nat.beq (len w.cells) sz&&nU IJ w.cells)with
  |false=>rw[hb]at e;cases e
  |true=>
   rw[hb]at e
   simp only[cond_true]at e
   rw[Bool.and_eq_true]at hb
   obtain⟨d,hd,VS⟩:=cH hT hw
   have q8:=VS.cells
   have hlen:d.cells.length=w.cells.length:=q8.length.symm
   have vQ:w.cells.length=sz:=by have:=beq_true hb.1;rwa [cS]at this
   have Lg:nU nT d.cells=true:=by
    rw[qk,List.all_eq_true]
    refine q8.Kx fun q hq=>?_
    have:=hb.2;rw[qk,List.all_eq_true]at this;exact this q hq
   have vj: ∀ {id off:Nat} {row:Rw},cI a t=some (.ref id off)->h.cw.get id=some row->off+sz<=row.n->tE sz (cI a) (cI b) t h=.ok pQ (qO h id (some (row.put off d.cells))):=by
    intro id off row h1 h2 h3
    unfold tE
    rw[h1,hd]
    simp only[h2]
    have q:(Nat.beq (len d.cells) sz&&(Nat.ble (Nat.add off (len d.cells)) row.n&&nU nT d.cells))=true:=by
     rw[cS,hlen,vQ,Lg,Nat.beq_refl,Bool.and_true,Bool.true_and]
     rw[Nat.ble_eq];exact h3
    rw[q];rfl
   split at e
   ·rename_i r o ha
    obtain⟨p,hp,sN⟩:=cH hT ha
    split at e
    ·rename_i l hr
     cases hq:Nat.ble (Nat.add o (len w.cells)) (len l)with
     |false=>rw[hq]at e;cases e
     |true=>
      rw[hq]at e
      obtain⟨rfl,rfl,rfl⟩:=cC e
      have hq:=Nat.le_of_ble_eq_true hq
      rw[cS,cS]at hq
      obtain⟨id,row,k1,k2,k3,k4⟩:=(hH.row _ _ hr).2
      cases sN with
      |rf h1 h2=>
       rw[k1]at h2;cases h2
       have hn:o+sz<=row.n:=by rw[<-oJ,<-k3.length,<-vQ];exact hq
       have hR:RV E H.next (qO h id (some (row.put o d.cells))) (E.K r) (.o _ (IK l o w.cells)):=
        ⟨id,row.put o d.cells,k1,by rw[qW,if_pos rfl],by rw[yW (by rw[hlen,vQ];exact hn)];exact k3.put q8 o,k4⟩
       obtain⟨S,X⟩:=GH hH hr rfl rfl (by rw[k1];rfl) hR
       exact⟨_,_,E,Ev.const (vj hp k2 hn),X,S,.tu .nil,hT⟩
    ·cases e
   ·rename_i r s i o ha
    obtain⟨p,hp,sN⟩:=cH hT ha
    split at e
    ·rename_i ty x hr
     cases hq:(Nat.beq s (size ty)&&Nat.ble (Nat.add o (len w.cells)) s)with
     |false=>rw[hq]at e;cases e
     |true=>
      rw[hq]at e
      simp only[cond_true]at e
      rw[Bool.and_eq_true]at hq
      have hs:s=size ty:=beq_true hq.1
      have hos:=Nat.le_of_ble_eq_true hq.2
      rw[cS]at hos
      split at e
      ·rename_i y H1 hy
       split at e
       ·rename_i t2 x2 hr2
        obtain⟨rfl,rfl,rfl⟩:=cC e
        cases sN with
        |re h1 h2 h3=>
         rename_i id base n
         have q:=(hH.row _ _ hr).2
         rcases q.2 with⟨k,_⟩|⟨Bu,Sx,row,ls,k1,k2,k3,k4⟩
         ·rw[h2]at k;cases k
         ·rw[h2]at k1
          injection k1 with a1 a2 a3 a4
          subst a1;subst a2
          rw[<-q.1]at a3 k3
          rw[a3]at h3
          obtain⟨_,e2,e3⟩:=zG (N:=H.next) h3 k3 k4
          obtain⟨E1,c,dd,F,hcd,hey,anP⟩:=yx ty E H h _ [] _ y H1 hH (e2.put q8 o) hy
          have hdd:dd=[]:=by cases anP;rfl
          rw[hdd,List.append_nil]at hcd
          have hr1:H1.cw.get r=some (.l t2 x2):=hr2
          have q2:=(F.S.row _ _ hr1).2
          have hKr:(E1.K r).av=.oG id base n s:=by rw[F.K];exact h2
          have hL:((ls.drop (i*size ty)).take (size ty)).length=size ty:=(zG (N:=H.next) h3 k3 k4).1 |> EV.length ty _ _
          have av8:ls.length=x.length*size ty:=k4.length (EV.length ty)
          have hle:i*size ty+size ty<=x.length*size ty:=by
           have:=Nat.mul_le_mul_right (size ty) (Nat.succ_le_of_lt h3)
           rw[Nat.succ_mul]at this;exact this
          obtain⟨s1,s2⟩:=oM.1 k3
          have hn:base+i*s+o+sz<=row.n:=by rw[hs];rw[vQ,hs]at hos;have e0:o+sz<=size ty:=hos;omega
          have anQ:(row.put (base+i*s+o) d.cells).rH base (x.length*size ty)=some (ls.take (i*size ty)++(c++ls.drop (i*size ty+size ty))):=by
           have hn':base+i*s+o+d.cells.length<=row.n:=by rw[hlen,vQ];exact hn
           refine oM.2 ⟨by show base+_<=row.n;exact s1,?_⟩
           rw[yW hn',<-hcd]
           have yf:row.toL=row.toL.take base++(ls++row.toL.drop (base+x.length*size ty)):=by
            rw[s2,<-List.drop_drop,List.take_append_drop,List.take_append_drop]
           have KF:(row.toL.take base).length=base:=by rw[List.length_take,oJ];omega
           have hls:=Pc k4 h3
           have hA:(ls.take (i*size ty)).length=i*size ty:=by rw[List.length_take];omega
           have hod:o+d.cells.length<=size ty:=by rw[hlen,<-hs];exact hos
           have e1:put row.toL (base+i*s+o) d.cells=row.toL.take base++(put ls (i*size ty+o) d.cells++row.toL.drop (base+x.length*size ty)):=by
            have:=B9 ls (row.toL.drop (base+x.length*size ty)) d.cells (i*size ty+o) (by omega) (row.toL.take base)
            rw[<-yf,KF]at this
            rw[hs,Nat.add_assoc];exact this
           have e2:put ls (i*size ty+o) d.cells=ls.take (i*size ty)++(put ((ls.drop (i*size ty)).take (size ty)) o d.cells++ls.drop (i*size ty+size ty)):=by
            have:=B9 ((ls.drop (i*size ty)).take (size ty)) (ls.drop (i*size ty+size ty)) d.cells o (by rw[hL];exact hod) (ls.take (i*size ty))
            rw[<-hls,hA]at this
            exact this
           rw[e1,List.drop_append_of_le_length (by rw[KF];exact Nat.le_refl _)]
           rw[show List.drop base (row.toL.take base)=[]from by rw[List.drop_eq_nil_iff,KF];exact Nat.le_refl _,List.nil_append]
           rw[List.take_append_of_le_length (by rw[Ca _ _ _ (by omega)];omega)]
           rw[show List.take (x.length*size ty) (put ls (i*size ty+o) d.cells)=put ls (i*size ty+o) d.cells from by rw[List.take_of_length_le];rw[Ca _ _ _ (by omega)];omega]
           exact e2.symm
          have hR:RV E1 H1.next (qO h id (some (row.put (base+i*s+o) d.cells))) (E1.K r) (.l ty (x.set i y)):=by
           refine⟨by rw[List.length_set,F.K];exact q.1,.inr ⟨id,base,row.put (base+i*s+o) d.cells,_,?_,by rw[qW,if_pos rfl],?_,XT (k4.mono (EV.mono F.g ty)) h3 hey⟩⟩
           ·rw[hKr,F.K,<-q.1,hs,a3]
           ·rw[F.K,<-q.1];exact anQ
          obtain⟨S,X⟩:=GH F.S hr1 rfl rfl (by rw[hKr];rfl) hR
          exact⟨_,_,E1,Ev.const (vj hp k2 hn),F.X.trans X,S,.tu .nil,hT.mono (F.X.trans X).e (F.X.trans X).le⟩
       ·cases e
      ·cases e
    ·cases e
   ·cases e
 ·cases e
end Lf
end Go.Ab

noncomputable section
namespace Go.Ab
namespace Lf
theorem u9{i n:Int}:nh i n=true↔0<=i/\i<n:=by unfold nh;simp
theorem XU(size:Nat)(a i:Od):oP (Xx size a i) (fun _ _=>yS size (cI a) (cI i)):=nF (by
 intro E T t H h v T' H' hT hH e
 unfold Xx at e
 split at e
 ·rename_i iv hiv
  split at e
  ·rename_i k n hn
   obtain⟨c,hc,pq⟩:=cH hT hiv
   have:=qf pq hn;subst this
   have kH: ∀ {id off m sz:Nat} {j:Nat},n=(j:Int)->cI a t=some (.oG id off m sz)->j<m->sz=size->yS size (cI a) (cI i) t h=.ok (.ref id (off+j*size)) h:=by
    intro id off m sz j hj h1 h2 h3
    subst hj
    unfold yS
    rw[hc]
    show(match cI a t with
     |some (.oG id off n sz)=>bif Nat.blt j n&&Nat.beq sz size then Go.Ab.Ro.ok (.ref id (Nat.add off (Nat.mul j size))) h else .bad
     |some (.sU n cs)=>bif Nat.blt j n then .ok (.pP (dp (Nat.mul j size) cs)) h else .bad
     | _=>.bad)=_
    rw[h1]
    simp only[cP.2 h2,h3,Nat.beq_refl]
    rfl
   have conv: ∀ {m:Nat},nh n (Int.ofNat m)=true-> ∃ j:Nat,n=(j:Int)/\n.toNat=j/\j<m:=by
    intro m q
    obtain⟨q1,q2⟩:=u9.1 q
    exact⟨n.toNat,by omega,rfl,by have:(Int.ofNat m)=(m:Int):=rfl;omega⟩
   split at e
   ·rename_i r s ha
    obtain⟨p,hp,sN⟩:=cH hT ha
    have key: ∀ {t':Ty} {x:List (den t')} {S':Nat->Option Rw},LR E.G t' x (E.K r) S'->(bif Nat.beq s size then Lf.T.ck (nh n (Int.ofNat x.length)) (okV (.re r s n.toNat 0) T H)else Lf.T.bad).val=some (v,T',H')->H'=H/\T'=T/\ ∃ c,yS size (cI a) (cI i) t h=.ok c h/\V E H.next v c:=by
     intro t' x S' q e
     cases hs:Nat.beq s size with
     |false=>rw[hs]at e;cases e
     |true=>
      rw[hs]at e
      have hs:=beq_true hs
      obtain⟨q1,e⟩:=Lf.T.cG e
      obtain⟨rfl,rfl,rfl⟩:=cC e
      obtain⟨j,hj,VN,o5⟩:=conv q1
      have q2:=IY sN q
      cases sN with
      |os h1 h2=>
       rcases h2 with⟨h2,h3⟩|⟨id,base,h2⟩
       ·rw[q.1,h3]at o5;omega
       ·rw[h2]at hp
        rw[q.1]at o5
        refine⟨rfl,rfl,_,kH hj hp o5 hs,?_⟩
        rw[VN]
        have:=V.re (i:=j) (o:=0) h1 h2 o5
        rw[Nat.add_zero,hs]at this
        rw[hs];exact this
    split at e
    ·rename_i t' x hr;exact key (hH.row _ _ hr).2 e
    ·rename_i t' x hr;exact key (hH.row _ _ hr).2 e
    ·cases e
   ·rename_i r s off m ha
    obtain⟨p,hp,sN⟩:=cH hT ha
    cases hs:Nat.beq s size with
    |false=>rw[hs]at e;cases e
    |true=>
     rw[hs]at e
     have hs:=beq_true hs
     obtain⟨q1,e⟩:=Lf.T.cG e
     obtain⟨rfl,rfl,rfl⟩:=cC e
     obtain⟨j,hj,VN,o5⟩:=conv q1
     cases sN with
     |se _ _ _ _=>omega
     |ss h1 h2 h3=>
      rename_i id base
      refine⟨rfl,rfl,_,kH hj hp o5 hs,?_⟩
      rw[VN]
      have:=V.re (i:=off+j) (o:=0) h1 h2 (by omega)
      rw[Nat.add_zero,Nat.add_mul,<-Nat.add_assoc,hs]at this
      rw[hs];exact this
   ·rename_i r s off m ha
    obtain⟨p,hp,sN⟩:=cH hT ha
    split at e
    ·rename_i k0 j
     cases hs:(Nat.beq s size&&Nat.blt j m)with
     |false=>rw[hs]at e;cases e
     |true=>
      rw[hs]at e
      rw[Bool.and_eq_true]at hs
      obtain⟨rfl,rfl,rfl⟩:=cC e
      cases hn
      cases sN with
      |xo h1 h2=>
       have Ke:=beq_true hs.1
       refine⟨rfl,rfl,_,kH rfl hp (cP.1 hs.2) Ke,?_⟩
       have:=V.rf (o:=off+j*s) h1 h2
       rw[Ke]at this
       rw[Ke];exact this
    ·cases e
   ·rename_i m ty x ha
    obtain⟨p,hp,sN⟩:=cH hT ha
    cases hs:Nat.beq size (Lf.size ty)with
    |false=>rw[hs]at e;cases e
    |true=>
     rw[hs]at e
     have hs:=beq_true hs
     obtain⟨q1,e⟩:=Lf.T.cG e
     obtain⟨rfl,rfl,rfl⟩:=cC e
     obtain⟨j,hj,VN,o5⟩:=conv q1
     rw[VN]
     cases sN with
     |c k _=>
      obtain⟨b,hb,k⟩:=k
      cases hb
      rcases k with⟨_,k⟩|⟨ls,k1,k2|⟨id,base,row,k2,k3,k4⟩⟩
      ·subst k;simp at o5
      ·subst k2
       refine⟨rfl,rfl,.pP (ls.drop (j*size)),?_,?_⟩
       ·unfold yS
        rw[hc,hp,hj]
        show(bif Nat.blt j x.length then Go.Ab.Ro.ok (.pP (dp (Nat.mul j size) ls)) h else .bad)=_
        rw[cP.2 o5,rj];rfl
       ·have h1:=k1.get (EV.length ty) o5 (cE ty)
        have:=V.zp (r:=(ls.drop (j*size)).drop size) (xr (E:=E) (N:=H'.next) rfl ty _ _ h1)
        rw[hs,List.take_append_drop]at this
        rw[hs];exact this
      ·subst k2
       refine⟨rfl,rfl,_,kH hj hp o5 hs.symm,?_⟩
       obtain⟨_,e2,e3⟩:=zG (N:=H'.next) o5 k4 k1
       have hl:(uE ty (x.getD j (cE ty))).length=Lf.size ty:=by
        rw[e2.length,(zG (N:=H'.next) o5 k4 k1).1 |> EV.length ty _ _]
       refine .zr e2 k3 ?_
       rw[hl,hs];exact e3
   ·cases e
  ·cases e
 ·cases e)
theorem XV(n size:Nat)(a i:Od):oP (Xy n size a i) (fun _ _=>Bt n size (cI a) (cI i)):=nF (by
 intro E T t H h v T' H' hT hH e
 unfold Xy at e
 split at e
 ·rename_i k j hiv
  obtain⟨c,hc,pq⟩:=cH hT hiv
  cases pq
  cases hj:Nat.blt j n with
  |false=>rw[hj]at e;cases e
  |true=>
   rw[hj]at e
   simp only[cond_true]at e
   have hk:Bt n size (cI a) (cI i) t h=(match cI a t with
    |some (.ref id off)=>bif Nat.blt j n then Go.Ab.Ro.ok (.ref id (Nat.add off (Nat.mul j size))) h else .bad
    |some (.pP cs)=>bif Nat.blt j n then .ok (.pP (dp (Nat.mul j size) cs)) h else .bad
    | _=>.bad):=by unfold Bt;rw[hc];rfl
   rw[hk,hj]
   split at e
   ·rename_i r o ha
    obtain⟨rfl,rfl,rfl⟩:=cC e
    obtain⟨p,hp,sN⟩:=cH hT ha
    rw[hp]
    cases sN with
    |rf h1 h2=>exact⟨rfl,rfl,_,rfl,.rf h1 h2⟩
   ·rename_i l ha
    obtain⟨p,hp,sN⟩:=cH hT ha
    rw[hp]
    cases hb:Nat.ble (Nat.mul j size) (len l)with
    |false=>rw[hb]at e;cases e
    |true=>
     rw[hb]at e
     obtain⟨rfl,rfl,rfl⟩:=cC e
     have hle:j*size<=l.length:=by have:=Nat.le_of_ble_eq_true hb;rwa [cS]at this
     rw[rj]
     cases sN with
     |zp k=>
      rename_i l' r
      refine⟨rfl,rfl,_,rfl,?_⟩
      rw[rj,List.drop_append_of_le_length (by rw[<-k.length];exact hle)]
      exact .zp (k.drop _)
     |zr k g s=>
      rename_i l' id o row
      refine⟨rfl,rfl,_,rfl,?_⟩
      refine .zr (k.drop _) g ?_
      obtain⟨s1,s2⟩:=oM.1 s
      rw[List.length_drop]
      refine oM.2 ⟨by have e1:Nat.add o (Nat.mul j size)=o+j*size:=rfl;have e2:Nat.mul j size=j*size:=rfl;omega,?_⟩
      rw[s2,List.drop_take,List.drop_drop]
      rfl
   ·cases e
 ·cases e)
theorem E9{E:En}{N:Nat}{k:IntKind}: ∀ {l:List Sv} {l':List AV} {r:List Int},Vs E N l l'->K7 k l=some r->l'=r.map fun n=>.int k n
 | [],_,_,.nil,e=>by cases e;rfl
 |v::l,_,r,.cons hv h,e=>by
  change (match toN v with|some (k',n)=>(bif qL k k' then(match K7 k l with|some r=>some (n::r)|none=>none)else none)|none=>none)=some r at e
  split at e
  ·rename_i k' n hn
   obtain⟨hk,e⟩:=cR e
   split at e
   ·rename_i r' hr
    cases e
    have:=oK.1 hk;subst this
    rw[qf hv hn,E9 h hr];rfl
   ·cases e
  ·cases e
theorem Pe(n size:Nat)(agg:Bool)(a i:Od):oP (Gx n size agg a i) (fun _ _=>sJ n size agg (cI a) (cI i)):=nF (by
 intro E T t H h v T' H' hT hH e
 unfold Gx at e
 split at e
 ·rename_i cs ha
  obtain⟨p,hp,sN⟩:=cH hT ha
  cases sN with
  |ag q8=>
   rename_i l'
   split at e
   ·rename_i k j hi
    obtain⟨c,hc,pq⟩:=cH hT hi
    cases pq
    cases hb:Nat.blt j n with
    |false=>rw[hb]at e;cases e
    |true=>
     rw[hb]at e
     obtain⟨e1,rfl,rfl⟩:=tR e
     obtain⟨r,h1,h2⟩:=u7 q8 e1
     refine⟨rfl,rfl,r,?_,h2⟩
     unfold sJ
     rw[hp,hc]
     show(bif Nat.blt j n then(match part agg l' (Nat.mul j size) size with|some v=>Go.Ab.Ro.ok v h|none=>.bad)else .bad)=_
     rw[hb,h1];rfl
   ·rename_i m k0 x hi
    obtain⟨c,hc,pq⟩:=cH hT hi
    have:=qf pq rfl;subst this
    cases hag:(agg|| !(Nat.beq size 1))with
    |true=>rw[hag]at e;cases e
    |false=>
     rw[hag]at e
     rw[Bool.or_eq_false_iff]at hag
     simp only[cond_false]at e
     split at e
     ·rename_i w l
      split at e
      ·rename_i k y hk
       split at e
       ·rename_i nl hnl
        cases hlen:Nat.beq (len nl) n with
        |false=>rw[hlen]at e;cases e
        |true=>
         rw[hlen]at e
         obtain⟨q1,e⟩:=Lf.T.cG e
         obtain⟨rfl,rfl,rfl⟩:=cC e
         obtain⟨x1,x2⟩:=u9.1 q1
         obtain⟨j,rfl⟩:=Int.eq_ofNat_of_zero_le x1
         have hj:j<n:=by have:(Int.ofNat n)=(n:Int):=rfl;omega
         have hl:=E9 q8 hnl
         have awa:nl.length=n:=by have:=beq_true hlen;rwa [cS]at this
         have vQ:size=1:=by cases hq:Nat.beq size 1 with
          |true=>exact beq_true hq
          |false=>rw[hq]at hag;cases hag.2
         refine⟨rfl,rfl,.int k (nl.getD j 0),?_,py⟩
         unfold sJ
         rw[hp,hc]
         show(bif Nat.blt j n then(match part agg l' (Nat.mul j size) size with|some v=>Go.Ab.Ro.ok v h|none=>.bad)else .bad)=_
         have hpt:part agg l' (Nat.mul j size) size=some (.int k (nl.getD j 0)):=by
          rw[hag.1,vQ,hl,show Nat.mul j 1=j from Nat.mul_one j]
          have VN:j<nl.length:=by omega
          have ht:((nl.map fun n=>AV.int k n).drop j).take 1=[AV.int k (nl.getD j 0)]:=by
           rw[List.drop_eq_getElem_cons (by simpa using VN)]
           simp[List.getD_eq_getElem?_getD,List.getElem?_eq_getElem VN]
          unfold part
          rw[yw (by rw[ht];rfl),ht];rfl
         rw[cP.2 hj,hpt];rfl
       ·cases e
      ·cases e
     ·cases e
   ·cases e
 ·cases e)
theorem Lh(a i:Od):oP (B7 a i) (fun _ _=>rh (cI a) (cI i)):=nF (by
 intro E T t H h v T' H' hT hH e
 unfold B7 at e
 split at e
 ·rename_i w hw
  split at e
  ·rename_i b s hs
   split at e
   ·rename_i iv hiv
    split at e
    ·rename_i k n hn
     obtain⟨q1,e⟩:=Lf.T.cG e
     obtain⟨rfl,rfl,rfl⟩:=cC e
     obtain⟨c,hc,pq⟩:=cH hT hw
     obtain⟨d,hd,VS⟩:=cH hT hiv
     have:=vW pq hs;subst this
     have:=qf VS hn;subst this
     obtain⟨x1,x2⟩:=u9.1 q1
     obtain⟨j,rfl⟩:=Int.eq_ofNat_of_zero_le x1
     have hj:j<s.data.toList.length:=by have:(Int.ofNat s.size)=(s.size:Int):=rfl;have e2:s.data.toList.length=s.size:=Array.length_toList
                                        omega
     refine⟨rfl,rfl,_,?_,py⟩
     unfold rh
     rw[hc,hd]
     show(match sI s.data.toList j with|some b=>Go.Ab.Ro.ok (.int .u8 b.toNat) h|none=>.bad)=_
     rw[pI,List.getElem?_eq_getElem hj]
     simp[List.getD_eq_getElem?_getD,List.getElem?_eq_getElem hj]
    ·cases e
   ·cases e
  ·cases e
 ·cases e)
theorem MU{E:En}{N:Nat}{T:Tq}{t:Tm}(hT:TV E N T t){o:Option Od}{d:Sv}{l:Bool}{n:Int}{m:Nat}(hd:toN d=some (.i64,(m:Int)))(e:Ec o T d=some (l,n))(h0:0<=n):uB (o.map cI) t m=some n.toNat:=by
 unfold Ec at e
 cases o with
 |none=>
  simp only at e
  rw[hd]at e
  cases e
  simp[uB]
 |some o=>
  simp only at e
  split at e
  ·rename_i w hw
   split at e
   ·rename_i k n' hn
    cases e
    obtain⟨c,hc,pq⟩:=cH hT hw
    have:=qf pq hn;subst this
    obtain⟨j,rfl⟩:=Int.eq_ofNat_of_zero_le h0
    show(match cI o t with|some (.int _ (.ofNat n))=>some n| _=>none)=_
    rw[hc];rfl
   ·cases e
  ·cases e
theorem Pf{l u n:Int}:n7 l u n=true↔0<=l/\l<=u/\u<=n:=by unfold n7;simp
theorem AO{E:En}{N:Nat}{T:Tq}{t:Tm}(hT:TV E N T t){lo hi:Option Od}{d:Sv}{l1 l2:Bool}{l u n:Int}{m:Nat}(hd:toN d=some (.i64,(m:Int)))(hn:n=m)(e1:Ec lo T (.i .i64 0)=some (l1,l))(e2:Ec hi T d=some (l2,u))(hc:n7 l u n=true):
 bounds (lo.map cI) (hi.map cI) t m=some (l.toNat,u.toNat)/\l.toNat<=u.toNat/\u.toNat<=m:=by
 obtain⟨h1,h2,h3⟩:=Pf.1 hc
 have a1:=MU hT (m:=0) rfl e1 h1
 have a2:=MU hT hd e2 (by omega)
 unfold bounds
 rw[a1,a2]
 have b1:Nat.ble l.toNat u.toNat=true:=by rw[Nat.ble_eq];omega
 have b2:Nat.ble u.toNat m=true:=by rw[Nat.ble_eq];omega
 simp only[b1,b2]
 exact⟨rfl,by omega,by omega⟩
theorem Fe{a:AV}(h:yc a=true):nN a=true:=by cases a<;>first|exact h|rfl
theorem yy{size:Nat}{x:oI}{lo hi:Option oI}{t:Tm}{h:Hp}{a:AV}(hx:x t=some a)(he:yc a=false):o6 size x lo hi t h=uC size x lo hi t h:=by
 unfold o6;rw[hx];simp only[he];rfl
theorem xu{size:Nat}{x:oI}{lo hi:Option oI}{t:Tm}{h:Hp}{a:AV}{l u:Nat}(hx:x t=some a)(he:nN a=true)(hb:bounds lo hi t 0=some (l,u)):o6 size x lo hi t h=.ok a h:=by
 cases vk:yc a with
 |true=>unfold o6;rw[hx];simp only[vk,hb];rfl
 |false=>
  have:a=.qi:=by cases a<;>first|rfl|(cases vk;done)|(cases he;done)|(rename_i v0;have k:yc (.sc v0)=true:=he;rw[k]at vk;cases vk)
  subst this
  rw[yy hx vk]
  unfold uC
  rw[hx]
  simp only[hb]
theorem zH{size:Nat}{x:oI}{lo hi:Option oI}{t:Tm}{h:Hp}{id off n sz l u:Nat}(hx:x t=some (.oG id off n sz))(hb:bounds lo hi t n=some (l,u))(hs:sz=size):o6 size x lo hi t h=.ok (.oG id (off+l*size) (u - l) sz) h:=by
 rw[yy hx rfl]
 unfold uC
 rw[hx]
 simp only[hb,hs,Nat.beq_refl]
 rfl
theorem I0(size:Nat)(a:Od)(lo hi:Option Od): ∀ (E:En) (T:Tq) (t:Tm) (H:Hq) (h:Hp) (v:Sv) (T':Tq) (H':Hq),TV E H.next T t->SR E H h->(zy size a lo hi T H).val=some (v,T',H')->H'=H/\T'=T/\ ∃ c,o6 size (cI a) (lo.map cI) (hi.map cI) t h=.ok c h/\V E H.next v c:=by
 intro E T t H h v T' H' hT hH e
 unfold zy at e
 split at e
 ·rename_i w hw
  split at e
  ·rename_i m hm
   split at e
   ·rename_i k n hn
    split at e
    ·rename_i ll l hl
     split at e
     ·rename_i lu u hu
      obtain⟨p,hp,sN⟩:=cH hT hw
      obtain⟨q,q1,_,q3,q4⟩:=MQ hH sN hm
      rw[q1]at hn;cases hn
      have bd:=fun hc=>AO (n:=(q:Int)) hT q1 rfl hl hu hc
      split at e
      ·rename_i z
       cases hz:yc z with
       |false=>rw[hz]at e;cases e
       |true=>
        rw[hz]at e
        obtain⟨c1,e⟩:=Lf.T.cG e
        obtain⟨rfl,rfl,rfl⟩:=cC e
        obtain⟨b1,_,_⟩:=bd c1
        cases sN with
        |a hlf=>
         have hem:=Fe hz
         have:q=0:=q4 hem
         subst this
         exact⟨rfl,rfl,p,xu hp hem b1,.a hlf⟩
      ·rename_i r s
       cases hs:Nat.beq s size with
       |false=>rw[hs]at e;cases e
       |true=>
        rw[hs]at e
        have hs:=beq_true hs
        obtain⟨c1,e⟩:=Lf.T.cG e
        obtain⟨rfl,rfl,rfl⟩:=cC e
        obtain⟨b1,b2,b3⟩:=bd c1
        cases sN with
        |os h1 h2=>
         rcases h2 with⟨h2,h3⟩|⟨id,base,h2⟩
         ·have:q=0:=q4 h2
          subst this
          have e1:l.toNat=0:=by omega
          have e2:u.toNat - l.toNat=0:=by omega
          rw[e2,e1]
          exact⟨rfl,rfl,_,xu hp h2 b1,.se h1 h2 h3 rfl⟩
         ·rw[h2]at hp q3
          have:(E.K r).n=q:=by cases q3;rfl
          refine⟨rfl,rfl,_,zH hp (by rw[this];exact b1) hs,?_⟩
          rw[<-hs]
          exact .ss h1 h2 (by omega)
      ·rename_i r s off m'
       cases hs:Nat.beq s size with
       |false=>rw[hs]at e;cases e
       |true=>
        rw[hs]at e
        have hs:=beq_true hs
        obtain⟨c1,e⟩:=Lf.T.cG e
        obtain⟨rfl,rfl,rfl⟩:=cC e
        obtain⟨b1,b2,b3⟩:=bd c1
        cases sN with
        |se h1 h2 h3 h4=>
         have:q=0:=q4 h2
         subst this
         have e1:l.toNat=0:=by omega
         have e2:u.toNat - l.toNat=0:=by omega
         rw[e2,e1,h4]
         exact⟨rfl,rfl,_,xu hp h2 b1,.se h1 h2 h3 rfl⟩
        |ss h1 h2 h3=>
         rename_i id base
         have:m'=q:=by cases q3;rfl
         subst this
         refine⟨rfl,rfl,_,zH hp b1 hs,?_⟩
         rw[<-hs]
         have:=V.ss (off:=off+l.toNat) (n:=u.toNat - l.toNat) h1 h2 (by omega)
         rw[Nat.add_mul,<-Nat.add_assoc]at this
         exact this
      ·rename_i r s off m'
       cases hs:((ll&&lu)&&(Nat.beq s size&&n7 l u (q:Int)))with
       |false=>rw[hs]at e;cases e
       |true=>
        rw[hs]at e
        rw[Bool.and_eq_true,Bool.and_eq_true,Bool.and_eq_true]at hs
        obtain⟨rfl,rfl,rfl⟩:=cC e
        obtain⟨b1,b2,b3⟩:=bd hs.2.2
        have Ke:=beq_true hs.2.1
        cases sN with
        |xo h1 h2=>
         rename_i id
         have:m'=q:=by cases q3;rfl
         subst this
         refine⟨rfl,rfl,_,zH hp b1 Ke,?_⟩
         rw[<-Ke]
         exact .xo h1 h2
      ·rename_i m' ty x
       cases hs:Nat.beq size (Lf.size ty)with
       |false=>rw[hs]at e;cases e
       |true=>
        rw[hs]at e
        have hs:=beq_true hs
        obtain⟨c1,e⟩:=Lf.T.cG e
        obtain⟨rfl,rfl,rfl⟩:=cC e
        obtain⟨b1,b2,b3⟩:=bd c1
        cases sN with
        |c k _=>
         obtain⟨b,hb,k⟩:=k
         cases hb
         rcases k with⟨k,kx⟩|⟨ls,k1,k2|⟨id,base,row,k2,k3,k4⟩⟩
         ·have:q=0:=q4 k
          subst this
          subst kx
          exact⟨rfl,rfl,_,xu hp k b1,.c ⟨_,rfl,.inl ⟨k,by simp⟩⟩ fun h=>(h rfl).elim⟩
         ·subst k2
          have:x.length=q:=by cases q3;rfl
          have hle:((x.drop l.toNat).take (u.toNat - l.toNat)).length=u.toNat - l.toNat:=by rw[List.length_take,List.length_drop];omega
          refine⟨rfl,rfl,.sU (u.toNat - l.toNat) (tk (Nat.mul (u.toNat - l.toNat) size) (dp (Nat.mul l.toNat size) ls)),?_,?_⟩
          ·rw[yy hp rfl]
           unfold uC
           rw[hp]
           simp only[this,b1]
           rfl
          ·refine .c ⟨_,rfl,.inr ⟨_,(k1.drop (EV.length ty) l.toNat).take (EV.length ty) (u.toNat - l.toNat),.inl ?_⟩⟩ fun h=>(h rfl).elim
           rw[hle,wm,rj,hs];rfl
         ·subst k2
          have:x.length=q:=by cases q3;rfl
          obtain⟨a1,a2,a3⟩:=GF (id:=0) rfl k4 k1 (off:=l.toNat) (m:=u.toNat - l.toNat) (by omega)
          refine⟨rfl,rfl,_,zH hp (by rw[this];exact b1) hs.symm,?_⟩
          refine .c ⟨_,rfl,zE (id:=id) (base:=base+l.toNat*Lf.size ty) ?_ k3 ?_ a3⟩ fun h=>(h rfl).elim
          ·rw[a1,hs]
          ·rw[a1];exact a2
      ·cases e
     ·cases e
    ·cases e
   ·cases e
  ·cases e
 ·cases e
theorem Li(size:Nat)(a:Od)(lo hi:Option Od):oP (zy size a lo hi) (fun _ _=>o6 size (cI a) (lo.map cI) (hi.map cI)):=nF (I0 size a lo hi)
theorem I1(n size:Nat)(a:Od)(lo hi:Option Od): ∀ (E:En) (T:Tq) (t:Tm) (H:Hq) (h:Hp) (v:Sv) (T':Tq) (H':Hq),TV E H.next T t->SR E H h->(zA n size a lo hi T H).val=some (v,T',H')->H'=H/\T'=T/\ ∃ c,qj n size (cI a) (lo.map cI) (hi.map cI) t h=.ok c h/\V E H.next v c:=by
 intro E T t H h v T' H' hT hH e
 unfold zA at e
 split at e
 ·rename_i r o ha
  split at e
  ·rename_i l hl
   split at e
   ·rename_i u hu
    split at e
    ·rename_i cs q8
     cases hs:(Nat.ble (Nat.add o (Nat.mul n size)) (len cs)&&(n7 l u (Int.ofNat n)&&Nat.blt 0 size))with
     |false=>rw[hs]at e;cases e
     |true=>
      rw[hs]at e
      rw[Bool.and_eq_true,Bool.and_eq_true]at hs
      obtain⟨rfl,rfl,rfl⟩:=cC e
      obtain⟨b1,b2,b3⟩:=AO (n:=(n:Int)) (m:=n) hT rfl rfl hl hu hs.2.1
      obtain⟨p,hp,sN⟩:=cH hT ha
      obtain⟨id,row,k1,k2,k3⟩:=AN hH q8
      cases sN with
      |rf h1 h2=>
       rw[k1]at h2;cases h2
       refine⟨rfl,rfl,_,?_,.xo (id:=id) h1 k1⟩
       unfold qj
       rw[hp]
       have q:=hs.1
       rw[cS,k3.length,oJ]at q
       simp only[b1,k2,q]
       rfl
    ·cases e
   ·cases e
  ·cases e
 ·cases e
theorem Lj(n size:Nat)(a:Od)(lo hi:Option Od):oP (zA n size a lo hi) (fun _ _=>qj n size (cI a) (lo.map cI) (hi.map cI)):=nF (I1 n size a lo hi)
theorem Lk(a:Od)(lo hi:Option Od):oP (Gy a lo hi) (fun _ _=>rb (cI a) (lo.map cI) (hi.map cI)):=nF (by
 intro E T t H h v T' H' hT hH e
 unfold Gy at e
 split at e
 ·rename_i w hw
  split at e
  ·rename_i s hs
   split at e
   ·rename_i l hl
    split at e
    ·rename_i u hu
     cases hc:n7 l u (Int.ofNat s.size)with
     |false=>rw[hc]at e;cases e
     |true=>
      rw[hc]at e
      obtain⟨rfl,rfl,rfl⟩:=cC e
      obtain⟨b1,b2,b3⟩:=AO (n:=(s.size:Int)) (m:=s.size) hT rfl rfl hl hu hc
      obtain⟨p,hp,sN⟩:=cH hT hw
      have:=vW sN hs;subst this
      refine⟨rfl,rfl,_,?_,.a rfl⟩
      unfold rb
      rw[hp]
      simp only[b1]
    ·cases e
   ·cases e
  ·cases e
 ·cases e)
theorem XW(x y z:Od):oP (adq x y z) (fun _ _=>CA (cI x) (cI y) (cI z)):=nF (by
 intro E T t H h v T' H' hT hH e
 unfold adq at e
 split at e
 ·rename_i k hy
  split at e
  ·rename_i k' hz
   obtain⟨c,hc,pq⟩:=cH hT hy
   obtain⟨d,hd,VS⟩:=cH hT hz
   cases pq;cases VS
   have key: ∀ {w:Sv} {p:AV},cI x t=some (Aq p)->V E H.next w p->(nN p=true∨(∃ id o n s,p=.oG id o n s)∨ ∃ n cs,p=.sU n cs)->CA (cI x) (cI y) (cI z) t h=.ok .qi h:=by
    intro w p h1 h2 h3
    unfold CA
    rw[hc,hd,h1]
    rcases h3 with h3|⟨_,_,_,_,rfl⟩|⟨_,_,rfl⟩
    ·rw[o9 h3];rfl
    ·rfl
    ·rfl
   split at e
   ·rename_i w hx
    cases hw:nN w with
    |false=>rw[hw]at e;cases e
    |true=>
     rw[hw]at e
     obtain⟨rfl,rfl,rfl⟩:=cC e
     obtain⟨p,hp,sN⟩:=uG hT hx
     refine⟨rfl,rfl,_,key hp sN ?_,.a rfl⟩
     cases sN;exact .inl hw
   ·rename_i hx
    obtain⟨rfl,rfl,rfl⟩:=cC e
    obtain⟨p,hp,sN⟩:=uG hT hx
    refine⟨rfl,rfl,_,key hp sN ?_,.a rfl⟩
    cases sN with
    |os _ h2=>rcases h2 with⟨h2,_⟩|⟨_,_,h2⟩
              ·exact .inl h2
              ·exact .inr (.inl ⟨_,_,_,_,h2⟩)
   ·rename_i hx
    obtain⟨rfl,rfl,rfl⟩:=cC e
    obtain⟨p,hp,sN⟩:=uG hT hx
    refine⟨rfl,rfl,_,key hp sN ?_,.a rfl⟩
    cases sN with
    |se _ h2 _ _=>exact .inl h2
    |ss _ _ _=>exact .inr (.inl ⟨_,_,_,_,rfl⟩)
   ·rename_i hx
    obtain⟨rfl,rfl,rfl⟩:=cC e
    obtain⟨p,hp,sN⟩:=uG hT hx
    refine⟨rfl,rfl,_,key hp sN ?_,.a rfl⟩
    cases sN
    exact .inr (.inl ⟨_,_,_,_,rfl⟩)
   ·rename_i hx
    obtain⟨rfl,rfl,rfl⟩:=cC e
    obtain⟨p,hp,sN⟩:=uG hT hx
    refine⟨rfl,rfl,_,key hp sN ?_,.a rfl⟩
    cases sN with
    |c k _=>
     obtain⟨b,hb,k⟩:=k
     cases hb
     rcases k with⟨k,_⟩|⟨_,_,k|⟨_,_,_,k,_⟩⟩
     ·exact .inl k
     ·exact .inr (.inr ⟨_,_,k⟩)
     ·exact .inr (.inl ⟨_,_,_,_,k⟩)
   ·cases e
  ·cases e
 ·cases e)
theorem XX(x:Od):oP (ot x) (fun _ _=>Cy (cI x)):=nF (by
 intro E T t H h v T' H' hT hH e
 unfold ot at e
 split at e
 ·rename_i w hx
  cases hw:nN w with
  |false=>rw[hw]at e;cases e
  |true=>
   rw[hw]at e
   obtain⟨rfl,rfl,rfl⟩:=cC e
   obtain⟨p,hp,sN⟩:=uG hT hx
   cases sN
   rw[o9 hw]at hp
   refine⟨rfl,rfl,_,?_,.i⟩
   unfold Cy
   rw[hp]
 ·cases e)
end Lf
end Go.Ab
