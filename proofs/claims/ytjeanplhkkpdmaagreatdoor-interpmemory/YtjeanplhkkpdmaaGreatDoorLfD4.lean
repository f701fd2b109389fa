import Derived.Test.YtjeanplhkkpdmaaGreatDoorLfC
noncomputable section
namespace Go.Ab
namespace Lf
theorem Az(k:IntKind):mK k k=true:=jK.2 rfl
theorem ju{f s:AV->AV->Option AV}{x y r:AV}(h:f x y=some r):yw f s x y=some r:=by unfold yw;rw[h]
theorem kJ{f:IntKind->Int->Int->Option AV}(k:IntKind)(a b:Int):qg f (.int k a) (.int k b)=f k a b:=by show(bif mK k k then _ else _)=_;rw[Az];rfl
theorem Dz(op:BinOp)(hop:op=.and∨op=.or∨op=.xor)(f:Nat->Nat->Nat)(k:IntKind)(a b:Int): ∃ r,BZ op f (.int k a) (.int k b)=some (.int k r):=by
 unfold BZ
 rw[kJ]
 have hr: ∃ r,zC (nS (Op.intBits op k a b))=some (.int k r):=by rcases hop with rfl|rfl|rfl<;>exact⟨_,rfl⟩
 split
 ·rename_i a b
  cases hc:(Nat.blt a (uJ k)&&Nat.blt b (uJ k))with
  |true=>exact⟨_,rfl⟩
  |false=>exact hr
 ·exact hr
theorem wI{o:Option AV}{k:IntKind}(h: ∃ r,o=some (.int k r)):o=some (.int k (intOf o)):=by obtain⟨r,h⟩:=h;rw[h];rfl
theorem agQ{f:BF}{g:IntKind->Int->Int->Int}(h:OY f=.ar g)(k:IntKind)(a b:Int):f.f (.int k a) (.int k b)=some (.int k (g k a b)):=by
 cases f<;>first|(cases h;done)|skip
 case add=>cases h;exact ju (kJ k a b)
 case sub=>cases h;exact ju (kJ k a b)
 case mul=>cases h;exact ju (kJ k a b)
 case and=>cases h;exact ju (wI (Dz .and (.inl rfl) Nat.land k a b))
 case or=>cases h;exact ju (wI (Dz .or (.inr (.inl rfl)) Nat.lor k a b))
 case xor=>cases h;exact ju (wI (Dz .xor (.inr (.inr rfl)) Nat.xor k a b))
 case andNot=>
  cases h
  have hr: ∃ r,zC (nS (Op.intBits .andNot k a b))=some (.int k r):=⟨_,rfl⟩
  refine wI (o:=rS (.int k a) (.int k b)) ?_
  unfold rS;rw[kJ];exact hr
theorem agR{f:BF}{g:IntKind->Int->Int->Int}(h:OY f=.dv g)(k:IntKind)(a b:Int)(hb: ¬ b=0):f.f (.int k a) (.int k b)=some (.int k (g k a b)):=by
 have hz:eqI b 0=false:=by cases e:eqI b 0 with
  |false=>rfl
  |true=>exact(hb (ko.1 e)).elim
 cases f<;>first|(cases h;done)|skip
 case quo=>cases h;exact ju (by unfold TS;rw[kJ,hz];rfl)
 case rem=>cases h;exact ju (by unfold TT;rw[kJ,hz];rfl)
theorem agS{f:BF}{g:IntKind->Int->Int->Int}(h:OY f=.sh g)(k k':IntKind)(a b:Int)(hb:0<=b):f.f (.int k a) (.int k' b)=some (.int k (g k a b)):=by
 obtain⟨n,rfl⟩:=Int.eq_ofNat_of_zero_le hb
 cases f<;>first|(cases h;done)|skip
 case shl=>cases h;have q:G6 (.int k a) (.int k' (Int.ofNat n))=some (.int k (BJ k a (Int.ofNat n))):=rfl;show yw G6 Ey (.int k a) (.int k' (Int.ofNat n))=_;exact ju q
 case shr=>cases h;have q:G7 (.int k a) (.int k' (Int.ofNat n))=some (.int k (pX k a (Int.ofNat n))):=rfl;show yw G7 Ey (.int k a) (.int k' (Int.ofNat n))=_;exact ju q
theorem agT{f:BF}{g:Int->Int->Bool}(h:OY f=.cm g)(k:IntKind)(a b:Int):f.f (.int k a) (.int k b)=some (.bool (g a b)):=by
 cases f<;>first|(cases h;done)|skip
 case lss=>cases h;refine ju ?_;unfold aal;rw[kJ,mr]
 case leq=>cases h;refine ju ?_;unfold aam;rw[kJ,mr];simp[<-Int.not_lt]
 case gtr=>cases h;refine ju ?_;unfold aan;rw[kJ,mr]
 case geq=>cases h;refine ju ?_;unfold aao;rw[kJ,mr];simp[<-Int.not_lt]
 case eqI neg=>
  have he:eqI a b=decide (a=b):=by
   cases e:eqI a b with
   |true=>exact(decide_eq_true (ko.1 e)).symm
   |false=>refine(decide_eq_false fun q=>?_).symm;rw[ko.2 q]at e;cases e
  cases neg with
  |false=>cases h;refine ju ?_;unfold Nb;rw[kJ,he];rfl
  |true=>cases h;refine ju ?_;unfold Nb;rw[kJ,he];rfl
section
variable {E:En}{N:Nat}
theorem VC{i:Bool}{x y:Sv}{c d:AV}{r:LB}(hx:V E N x c)(hy:V E N y d)(h:Vl i x y=some r):YT i c d=some r.v:=by
 unfold Vl at h
 split at h
 ·split at h
  ·obtain⟨hk,h⟩:=iu h
   cases h
   cases hx;cases hy
   show(bif mK _ _ then some (eqI _ _)else none)=_
   rw[hk];rfl
  ·split at h
   ·rename_i k a k' b h1 h2
    obtain⟨hk,h⟩:=iu h
    cases h
    rw[kX hx h1,kX hy h2]
    show(bif mK k k' then some (eqI a b)else none)=_
    rw[hk]
    show some (eqI a b)=some (decide (a=b))
    congr 1
    cases e:eqI a b with
    |true=>exact(decide_eq_true (ko.1 e)).symm
    |false=>refine(decide_eq_false fun q=>?_).symm;rw[ko.2 q]at e;cases e
   ·cases h
 ·split at h
  ·rename_i h1 h2;cases h;rw[lH hx h1,lH hy h2];rfl
  ·rename_i a b h1 h2;cases h;rw[lH hx h1,lH hy h2];rfl
  ·cases h
theorem LB.Pp(a b:LB):(a.and b).v=(a.v&&b.v):=by
 cases a with
 |l a=>cases a<;>cases b<;>rfl
 |t a=>cases b with
  |l b=>cases b<;>simp[LB.and,LB.v]
  |t b=>rfl
theorem JL: ∀ {l:List Bool} {xs ys:List Sv} {cs ds:List AV} {r:LB},Vs E N xs cs->Vs E N ys ds->aaZ l xs ys=some r->Bu l cs ds=some r.v
 | [],_,_,_,_,_,_,_,h=>by cases h;rfl
 |i::l,[],_,_,_,_,_,_,h=>by cases h
 |i::l,_::_,[],_,_,_,_,_,h=>by cases h
 |i::l,x::xs,y::ys,c'::l1,d'::l2,r,.cons hx UH,.cons hy hys,h=>by
  change (match Vl i x y with|some c=>(match aaZ l xs ys with|some d=>some (c.and d)|none=>none)|none=>none)=some r at h
  split at h
  ·rename_i c hc
   split at h
   ·rename_i d hd
    cases h
    have h1:=VC hx hy hc
    have h2:=JL UH hys hd
    show(match YT i c' d' with|none=>none|some c=>Bool.rec (some false) (Bu l l1 l2) c)=_
    rw[h1,LB.Pp]
    simp only
    cases c.v with
    |true=>simp[h2]
    |false=>rfl
   ·cases h
  ·cases h
theorem abk(neg:Bool)(c:LB):(aa0 neg c).v=bif neg then !c.v else c.v:=by cases neg<;>cases c<;>rfl
theorem JM{y:Sv}{d:AV}(hy:V E N y d)(h:O0 y=true):(∃ i o,d=.ref i o)∨ ∃ l,d=.mN l:=by
 cases hy<;>first|(cases h;done)|exact .inl ⟨_,_,rfl⟩|exact .inr ⟨_,rfl⟩
theorem VD{f:BF}{x y v:Sv}{c d:AV}(hx:V E N x c)(hy:V E N y d)(h:(aa1 f x y).val=some v): ∃ r,f.f c d=some r/\V E N v r:=by
 unfold aa1 at h
 split at h
 ·split at h
  ·rename_i hr;cases h;cases hx;cases hy;exact⟨_,hr,.i⟩
  ·rename_i hr;cases h;cases hx;cases hy;exact⟨_,hr,.b⟩
  ·cases h
 ·split at h
  ·rename_i k a k' b h1 h2
   rw[kX hx h1,kX hy h2]
   split at h
   ·rename_i g hg
    cases hk:mK k k' with
    |false=>rw[hk]at h;cases h
    |true=>
     rw[hk]at h;cases h
     have:=jK.1 hk;subst this
     exact⟨_,agQ hg k a b,ks⟩
   ·rename_i g hg
    cases hk:mK k k' with
    |false=>rw[hk]at h;cases h
    |true=>
     rw[hk]at h
     have:=jK.1 hk;subst this
     simp only[cond_true]at h
     have key: ¬ b=0/\v=.c 0 (.int k) (g k a b):=by
      cases hl:OZ y with
      |true=>
       rw[hl]at h
       simp only[cond_true]at h
       cases hz:eqI b 0 with
       |true=>rw[hz]at h;cases h
       |false=>rw[hz]at h;cases h;exact⟨(fun q=>by rw[ko.2 q]at hz;cases hz),rfl⟩
      |false=>
       rw[hl]at h
       obtain⟨h1,h2⟩:=T.cy h
       cases h2
       exact⟨by simpa using h1,rfl⟩
     rw[key.2]
     exact⟨_,agR hg k a b key.1,ks⟩
   ·rename_i g hg
    have key:0<=b/\v=.c 0 (.int k) (g k a b):=by
     cases hl:OZ y with
     |true=>
      rw[hl]at h
      simp only[cond_true]at h
      cases hz:oD b 0 with
      |true=>rw[hz]at h;cases h
      |false=>rw[hz]at h;cases h;exact⟨UE.1 hz,rfl⟩
     |false=>
      rw[hl]at h
      obtain⟨h1,h2⟩:=T.cy h
      cases h2
      exact⟨by simpa using h1,rfl⟩
    rw[key.2]
    exact⟨_,agS hg k k' a b key.1,ks⟩
   ·rename_i g hg
    cases hk:mK k k' with
    |false=>rw[hk]at h;cases h
    |true=>
     rw[hk]at h;cases h
     have:=jK.1 hk;subst this
     exact⟨_,agT hg k a b,pf⟩
   ·cases h
  ·cases h
theorem abl{f:BF}{x y v:Sv}{c d:AV}(hx:V E N x c)(hy:V E N y d)(h:(sBn f x y).val=some v): ∃ r,f.f c d=some r/\V E N v r:=by
 cases f with
 |eqB neg=>
  simp only[sBn]at h
  split at h
  ·rename_i h1 h2;cases h;rw[lH hx h1,lH hy h2];exact⟨_,rfl,.b⟩
  ·rename_i h1 h2;cases h;rw[lH hx h1,lH hy h2];cases neg<;>exact⟨_,rfl,pf⟩
  ·cases h
 |Kz neg=>
  simp only[sBn]at h
  split at h
  ·rename_i h1 h2;cases h;rw[sW hx h1,sW hy h2];exact⟨_,rfl,.b⟩
  ·rename_i h1 h2;cases h;rw[sW hx h1,sW hy h2];cases neg<;>exact⟨_,rfl,pf⟩
  ·cases h
 |eqP neg=>
  simp only[sBn]at h
  split at h
  ·cases h;cases hx;cases hy;exact⟨_,rfl,.b⟩
  ·cases hp:O0 y with
   |false=>rw[hp]at h;cases h
   |true=>
    rw[hp]at h;cases h
    cases hx
    rcases JM hy hp with⟨_,_,rfl⟩|⟨_,rfl⟩<;>exact⟨_,rfl,.b⟩
  ·cases hp:O0 x with
   |false=>rw[hp]at h;cases h
   |true=>
    rw[hp]at h;cases h
    cases hy
    rcases JM hx hp with⟨_,_,rfl⟩|⟨_,rfl⟩<;>exact⟨_,rfl,.b⟩
  ·cases h
 |eqN neg=>
  simp only[sBn]at h
  split at h
  ·rename_i v' w
   cases hn:isNil w with
   |false=>rw[hn]at h;cases h
   |true=>
    rw[hn]at h
    simp only[cond_true]at h
    split at h
    ·rename_i b hb
     cases h
     cases hx;cases hy
     refine⟨.bool (bif neg then !b else b),?_,.b⟩
     show(bif isNil _ then Option.rec none (fun b=>some (.bool (bif neg then !b else b))) (CQ _)else none:Option AV)=_
     rw[hn,hb];rfl
    ·cases h
  ·rename_i w
   cases hn:isNil w with
   |false=>rw[hn]at h;cases h
   |true=>
    rw[hn]at h
    cases h
    cases hx;cases hy
    refine⟨.bool neg,?_,.b⟩
    simp only[BF.f,zE,hn,cond_true]
    cases neg<;>rfl
  ·rename_i t x w
   cases hn:isNil w with
   |false=>rw[hn]at h;cases h
   |true=>
    rw[hn]at h
    obtain⟨hl,h⟩:=Lf.T.cy h
    cases h
    cases hy
    refine⟨.bool neg,?_,.b⟩
    simp only[BF.f,zE,hn,cond_true]
    cases hx with
    |c k _=>
     obtain⟨a,ea,k⟩:=k
     cases ea
     have hx0: ¬ x.length=0:=fun e=>by rw[e]at hl;cases hl
     rcases k with⟨_,k⟩|⟨ls,_,k|⟨id,base,row,k,_⟩⟩
     ·subst k;exact(hx0 rfl).elim
     ·subst k
      have hb:Nat.beq x.length 0=false:=by revert hl;cases Nat.beq x.length 0<;>simp
      simp only[CQ,isNil,cond_false,hb]
      cases neg<;>rfl
     ·subst k
      simp only[CQ,isNil,cond_false]
      cases neg<;>rfl
  ·cases h
 |qf neg l=>
  simp only[sBn]at h
  split at h
  ·rename_i xs ys
   split at h
   ·rename_i r hr
    cases h
    cases hx with
    |ag hx=>cases hy with
     |ag hy=>
      refine⟨.bool (bif neg then !r.v else r.v),?_,by have:=abf (E:=E) (N:=N) (c:=aa0 neg r);rw[abk]at this;exact this⟩
      show(match Bu l _ _ with|some c=>some (AV.bool (bif neg then !c else c))|none=>none)=_
      rw[JL hx hy hr]
   ·cases h
  ·cases h
 | _=>exact VD hx hy h
theorem VE{f:UF}{x v:Sv}{c:AV}(hx:V E N x c)(h:aa3 f x=some v): ∃ r,f.f c=some r/\V E N v r:=by
 unfold aa3 at h
 split at h
 ·split at h
  ·rename_i h1;cases h;rw[lH hx h1];exact⟨_,rfl,.b⟩
  ·rename_i h1;cases h;rw[lH hx h1];exact⟨_,rfl,pf⟩
  ·cases h
 ·split at h
  ·cases h;cases hx;exact⟨_,rfl,.i⟩
  ·cases h;rw[kX hx rfl];exact⟨_,rfl,ks⟩
  ·cases h
 ·split at h
  ·cases h;cases hx;exact⟨_,rfl,.i⟩
  ·cases h;rw[kX hx rfl];exact⟨_,rfl,ks⟩
  ·cases h
 ·split at h
  ·cases h;cases hx;exact⟨_,rfl,.i⟩
  ·cases h;rw[kX hx rfl];exact⟨_,rfl,ks⟩
  ·cases h
end
theorem VF(f:BF)(a b:Od):jN (Vm f a b) (fun _ _=>sZ f.f (cY a) (cY b)):=iO (by
 intro E T t H h v T' H' hT hH e
 unfold Vm at e
 split at e
 ·rename_i x hx
  split at e
  ·rename_i y hy
   obtain⟨w,e1,e2⟩:=Lf.T.iW e
   obtain⟨rfl,rfl,rfl⟩:=cD e2
   obtain⟨c,hc,kr⟩:=cV hT hx
   obtain⟨d,hd,TD⟩:=cV hT hy
   obtain⟨r,hr,Oo⟩:=abl kr TD e1
   refine⟨rfl,rfl,r,?_,Oo⟩
   show(Option.rec Go.Ab.Ro.bad (fun a'=>Option.rec Go.Ab.Ro.bad (fun b'=>Option.rec Go.Ab.Ro.bad (fun v=>Go.Ab.Ro.ok v h) (f.f a' b')) (cY b t)) (cY a t):Go.Ab.Ro)=_
   rw[hc,hd]
   simp only[hr]
  ·cases e
 ·cases e)
theorem abm(f:UF)(a:Od):jN (sUn f a) (fun _ _=>EH f.f (cY a)):=iO (by
 intro E T t H h v T' H' hT hH e
 unfold sUn at e
 split at e
 ·rename_i x hx
  obtain⟨e1,rfl,rfl⟩:=pZ e
  obtain⟨c,hc,kr⟩:=cV hT hx
  obtain⟨r,hr,Oo⟩:=VE kr e1
  refine⟨rfl,rfl,r,?_,Oo⟩
  show(Option.rec Go.Ab.Ro.bad (fun a'=>Option.rec Go.Ab.Ro.bad (fun v=>Go.Ab.Ro.ok v h) (f.f a')) (cY a t):Go.Ab.Ro)=_
  rw[hc]
  simp only[hr]
 ·cases e)
theorem Pq(a:Od):jN (JF a) (fun _ _=>sO (cY a)):=iO (by
 intro E T t H h v T' H' hT hH e
 unfold JF at e
 split at e
 ·rename_i x hx
  obtain⟨c,hc,kr⟩:=cV hT hx
  split at e
  ·rename_i s hs
   obtain⟨rfl,rfl,rfl⟩:=cD e
   have:=sW kr hs;subst this
   exact⟨rfl,rfl,_,by unfold sO;rw[hc],.i⟩
  ·rename_i s hs
   obtain⟨rfl,rfl,rfl⟩:=cD e
   have:=sW kr hs;subst this
   exact⟨rfl,rfl,_,by unfold sO;rw[hc],ks⟩
  ·cases e
 ·cases e)
theorem VG(a b:Od){t:Tm}{h:Hp}{k:IntKind}{m n:Int}(h1:cY a t=some (.int k m))(h2:cY b t=some (.int k n)):Bx (cY a) (cY b) t h=.ok (.int k (bif oD n m then n else m)) h:=by
 unfold Bx sZ
 rw[h1,h2]
 have q:=kJ (f:=fun k a b=>some (.int k (bif oD b a then b else a))) k m n
 simp only[ju q]
theorem VH(a b:Od){t:Tm}{h:Hp}{k:IntKind}{m n:Int}(h1:cY a t=some (.int k m))(h2:cY b t=some (.int k n)):Bz (cY a) (cY b) t h=.ok (.int k (bif oD m n then n else m)) h:=by
 unfold Bz sZ
 rw[h1,h2]
 have q:=kJ (f:=fun k a b=>some (.int k (bif oD a b then b else a))) k m n
 simp only[ju q]
theorem agU(m n:Int):(bif oD n m then n else m)=min m n:=by
 rw[mr]
 by_cases q:n<m
 ·simp only[decide_eq_true q,cond_true];omega
 ·simp only[decide_eq_false q,cond_false];omega
theorem agV(m n:Int):(bif oD m n then n else m)=max m n:=by
 rw[mr]
 by_cases q:m<n
 ·simp only[decide_eq_true q,cond_true];omega
 ·simp only[decide_eq_false q,cond_false];omega
theorem JN{mx:Bool}{a b:Od}{E:En}{T T':Tq}{t:Tm}{H H':Hq}{v:Sv}(hT:TV E H.next T t)(e:(HN mx a b T H).val=some (v,T',H')):
 H'=H/\T'=T/\ ∃ k m n,cY a t=some (.int k m)/\cY b t=some (.int k n)/\V E H.next v (.int k (bif mx then(bif oD m n then n else m)else(bif oD n m then n else m))):=by
 unfold HN at e
 split at e
 ·rename_i x hx
  split at e
  ·rename_i y hy
   obtain⟨c,hc,kr⟩:=cV hT hx
   obtain⟨d,hd,TD⟩:=cV hT hy
   split at e
   ·rename_i k m k' n
    cases hk:mK k k' with
    |false=>rw[hk]at e;cases e
    |true=>
     rw[hk]at e
     obtain⟨rfl,rfl,rfl⟩:=cD e
     have:=jK.1 hk;subst this
     cases kr;cases TD
     exact⟨rfl,rfl,k,m,n,hc,hd,.i⟩
   ·split at e
    ·rename_i k m k' n h1 h2
     cases hk:mK k k' with
     |false=>rw[hk]at e;cases e
     |true=>
      rw[hk]at e
      obtain⟨rfl,rfl,rfl⟩:=cD e
      have:=jK.1 hk;subst this
      rw[kX kr h1]at hc
      rw[kX TD h2]at hd
      refine⟨rfl,rfl,k,m,n,hc,hd,?_⟩
      cases mx with
      |true=>simp only[cond_true,agV];exact ks
      |false=>simp only[cond_false,agU];exact ks
    ·cases e
  ·cases e
 ·cases e
theorem VI(a b:Od):jN (HN false a b) (fun _ _=>Bx (cY a) (cY b)):=iO (by
 intro E T t H h v T' H' hT hH e
 obtain⟨rfl,rfl,k,m,n,h1,h2,hv⟩:=JN hT e
 exact⟨rfl,rfl,_,VG a b h1 h2,hv⟩)
theorem VJ(a b:Od):jN (HN true a b) (fun _ _=>Bz (cY a) (cY b)):=iO (by
 intro E T t H h v T' H' hT hH e
 obtain⟨rfl,rfl,k,m,n,h1,h2,hv⟩:=JN hT e
 exact⟨rfl,rfl,_,VH a b h1 h2,hv⟩)
end Lf
end Go.Ab

noncomputable section
namespace Go.Ab
namespace Lf
theorem FN{agg:Bool}{row:Rw}{b k o sz:Nat}{L:List AV}{c:AV}(s:row.oV b k=some L)(sP:0<sz)(h:part agg L o sz=some c):uR agg row (b+o) sz=some c:=by
 unfold part at h
 split at h
 ·cases h
 ·rename_i q hq
  obtain⟨rfl,hl⟩:=oW hq
  obtain⟨s1,s2⟩:=jM.1 s
  have hL:L.length=k:=by rw[s2,List.length_take,List.length_drop,jJ];omega
  have hb:o+sz<=k:=by rw[List.length_take,List.length_drop]at hl;omega
  unfold uR
  rw[qL s hb]
  exact h
theorem Pr{agg:Bool}{l r:List AV}{sz:Nat}{c:AV}(h:part agg l 0 sz=some c):part agg (l++r) 0 sz=some c:=by
 unfold part at h
 split at h
 ·cases h
 ·rename_i q hq
  obtain⟨rfl,hl⟩:=oW hq
  rw[List.drop_zero]at h hl
  have:List.take sz (l++r)=List.take sz l:=List.take_append_of_le_length (by rw[List.length_take]at hl;omega)
  unfold part
  rw[vv (by rw[List.drop_zero,this,hl]),List.drop_zero,this]
  exact h
theorem xL{E:En}{H:Hq}{h:Hp}(S:SR E H h){r:Nat}{l:List Sv}(e:As H r=some l): ∃ id row,(E.K r).av=.ref id 0/\h.cw.get id=some row/\Vs E H.next l row.toL:=by
 unfold As at e
 split at e
 ·rename_i hr;cases e
  obtain⟨id,row,a,b,c,_⟩:=(S.row _ _ hr).2
  exact⟨id,row,a,b,c⟩
 ·rename_i hr;cases e
  obtain⟨id,row,a,b,c⟩:=(S.row _ _ hr).2
  exact⟨id,row,a,(S.g _ _ b).2.1,c⟩
 ·cases e
theorem wJ{E:En}{N:Nat}{t:Ty}{x:List (den t)}{base i:Nat}{row:Rw}{ls:List AV}(hi:i<x.length)(s:row.oV base (x.length*size t)=some ls)(e:nW (EV E.G t) x ls):
 EV E.G t (x.getD i (cr t)) ((ls.drop (i*size t)).take (size t))/\Vs E N (qI t (x.getD i (cr t))) ((ls.drop (i*size t)).take (size t))/\row.oV (base+i*size t) (size t)=some ((ls.drop (i*size t)).take (size t)):=by
 have h1:=e.get (EV.length t) hi (cr t)
 refine⟨h1,uv rfl t _ _ h1,qL s ?_⟩
 have:=Nat.mul_le_mul_right (size t) (Nat.succ_le_of_lt hi)
 rw[Nat.succ_mul]at this;exact this
theorem Pt{E:En}{H:Hq}{h:Hp}(S:SR E H h){r sz i id base n:Nat}{l:List Sv}(e:O1 H r sz i=some l)(hk:(E.K r).av=.jS id base n sz)(hi:i<n):
 ∃ row L,h.cw.get id=some row/\Vs E H.next l L/\row.oV (base+i*sz) sz=some L:=by
 have key: ∀ {t:Ty} {x:List (den t)} {S':Nat->Option Rw},(∀ row,S' id=some row->h.cw.get id=some row)->LR E.G t x (E.K r) S'->(bif Nat.beq sz (size t)then some (qI t (x.getD i (cr t)))else none)=some l-> ∃ row L,h.cw.get id=some row/\Vs E H.next l L/\row.oV (base+i*sz) sz=some L:=by
  intro t x S' hs q e
  obtain⟨hb,e⟩:=iu e
  cases e
  have hz:=beq_true hb
  rcases q.2 with⟨k,_⟩|⟨zQ,Pj,row,ls,k1,k2,k3,k4⟩
  ·rw[hk]at k;cases k
  ·rw[hk]at k1
   injection k1 with a1 a2 a3 a4
   subst a1;subst a2
   rw[<-q.1]at a3 k3
   rw[a3]at hi
   obtain⟨_,e2,e3⟩:=wJ (N:=H.next) hi k3 k4
   exact⟨row,_,hs _ k2,e2,by rw[hz];exact e3⟩
 unfold O1 at e
 split at e
 ·rename_i t x hr;exact key (fun _ e=>e) (S.row _ _ hr).2 e
 ·rename_i t x hr;exact key (fun _ e=>(S.g _ _ e).2.1) (S.row _ _ hr).2 e
 ·cases e
theorem AA{E:En}{H:Hq}{h:Hp}(S:SR E H h){sz:Nat}{agg:Bool}{p v:Sv}{a:AV}(hv:V E H.next p a)(e:Cn sz agg p H=some v): ∃ c,zI h sz agg a=some c/\V E H.next v c:=by
 unfold Cn at e
 have sP:=ic.1 (iu e).1
 replace e:=(iu e).2
 split at e
 ·rename_i r o
  split at e
  ·rename_i l hl
   obtain⟨id,row,k1,k2,k3⟩:=xL S hl
   cases hv with
   |rf h1 h2=>
    rw[k1]at h2;cases h2
    obtain⟨c,c1,c2⟩:=rm k3 e
    refine⟨c,?_,c2⟩
    show(match h.cw.get id with|some cs=>uR agg cs o sz|none=>none)=_
    rw[k2];exact Pd sP c1
  ·cases e
 ·rename_i r s i o
  split at e
  ·rename_i l hl
   cases hv with
   |re h1 h2 h3=>
    rename_i id base n
    obtain⟨row,L,k1,k2,k3⟩:=Pt S hl h2 h3
    obtain⟨c,c1,c2⟩:=rm k2 e
    refine⟨c,?_,c2⟩
    show(match h.cw.get id with|some cs=>uR agg cs (base+i*s+o) sz|none=>none)=_
    rw[k1];exact FN k3 sP c1
  ·cases e
 ·cases hv with
  |zp k=>
   obtain⟨c,c1,c2⟩:=rm k e
   exact⟨c,Pr c1,c2⟩
  |zr k g s=>
   rename_i l' id off row
   obtain⟨c,c1,c2⟩:=rm k e
   refine⟨c,?_,c2⟩
   show(match h.cw.get id with|some cs=>uR agg cs off sz|none=>none)=_
   rw[(S.g _ _ g).2.1]
   have:=FN s sP c1
   exact this
 ·cases e
theorem Pu(sz:Nat)(agg:Bool)(a:Od):jN (JD sz agg a) (fun _ _=>og sz agg (cY a)):=iO (by
 intro E T t H h v T' H' hT hH e
 unfold JD at e
 split at e
 ·rename_i p hp
  obtain⟨e1,rfl,rfl⟩:=pZ e
  obtain⟨c,hc,kr⟩:=cV hT hp
  obtain⟨r,h1,h2⟩:=AA hH kr e1
  refine⟨rfl,rfl,r,?_,h2⟩
  unfold og
  rw[hc]
  simp only[h1]
 ·cases e)
theorem DA{E:En}{H:Hq}{h:Hp}(S:SR E H h){r id:Nat}{R R':Row}{VK:Rw}(hr:H.cw.get r=some R)(lv:R.live=true)(Zj:R'.live=true)(mQ:oM (E.K r).av=some id)
 (hR:RV E H.next (mO h id (some VK)) (E.K r) R'):SR E (mG H r (some R')) (mO h id (some VK))/\Nx E E H (mG H r (some R')) h (mO h id (some VK)):=by
 have ow: ∀ q,own (mG H r (some R')) q->own H q:=by
  rintro q ⟨Q,a,b⟩
  rw[jX]at a
  split at a
  ·rename_i e;rw[e];exact⟨R,hr,lv⟩
  ·exact⟨Q,a,b⟩
 refine⟨⟨?_,?_,?_,?_⟩,⟨zj.refl _ _,Nat.le_refl _,Nat.le_refl _,fun q id o e=>.inl ⟨q,ow q o,e⟩,fun _ _ e=>.inl e,fun i hi hn=>?_⟩⟩
 ·intro q Q hq
  rw[jX]at hq
  split at hq
  ·rename_i e;subst e;cases hq;exact⟨(S.row _ _ hr).1,hR⟩
  ·rename_i ne
   refine⟨(S.row _ _ hq).1,(S.row _ _ hq).2.mono (zj.refl _ _) (Nat.le_refl _) fun lq i row e1 e2=>?_⟩
   rw[m0,if_neg fun ei=>ne (S.inj q r id ⟨Q,hq,lq⟩ ⟨R,hr,lv⟩ (by rw[e1,ei]) mQ)]
   exact e2
 ·exact fun a b i oa ob ea eb=>S.inj a b i (ow a oa) (ow b ob) ea eb
 ·exact fun a i oa ea=>S.lt a i (ow a oa) ea
 ·intro i row e
  obtain⟨a,b,c⟩:=S.g i row e
  refine⟨a,?_,fun q oq=>c q (ow q oq)⟩
  rw[m0,if_neg fun ei=>c r ⟨R,hr,lv⟩ (by rw[ei];exact mQ)]
  exact b
 ·rw[m0,if_neg fun ei=>hn r ⟨R,hr,lv⟩ (by rw[ei];exact mQ)]
theorem zk(L B v:List AV)(o:Nat)(h:o+v.length<=L.length): ∀ (A:List AV),put (A++(L++B)) (A.length+o) v=A++(put L o v++B)
 | []=>by
  simp only[List.nil_append,List.length_nil,Nat.zero_add]
  rw[put_eq,put_eq,List.take_append_of_le_length (by omega),List.drop_append_of_le_length h]
  simp
 |a::A=>by
  have:=zk L B v o h A
  rw[put_eq]at this ⊢
  rw[List.length_cons,show A.length+1+o=A.length+o+1 by omega,List.cons_append,List.take_succ_cons,show A.length+o+1+v.length=A.length+o+v.length+1 by omega,List.drop_succ_cons,List.cons_append,this]
  rfl
theorem zl(l:List AV)(o:Nat)(v:List AV)(h:o+v.length<=l.length):(put l o v).length=l.length:=by
 rw[put_eq,List.length_append,List.length_append,List.length_take,List.length_drop];omega
theorem LC{G:Nat->Option Rw}{t:Ty}{x:List (den t)}{ls:List AV}(e:nW (EV G t) x ls){i:Nat}(hi:i<x.length):ls=ls.take (i*size t)++((ls.drop (i*size t)).take (size t)++ls.drop (i*size t+size t)):=by
 rw[<-List.drop_drop,List.take_append_drop,List.take_append_drop]
theorem VL{G:Nat->Option Rw}{t:Ty}{x:List (den t)}{ls:List AV}(e:nW (EV G t) x ls){i:Nat}(hi:i<x.length){y:den t}{c:List AV}(hy:EV G t y c):nW (EV G t) (x.set i y) (ls.take (i*size t)++(c++ls.drop (i*size t+size t))):=by
 rw[List.set_eq_take_append_cons_drop,if_pos hi]
 have h1:=e.take (EV.length t) i
 have h2:=e.drop (EV.length t) (i+1)
 rw[Nat.succ_mul]at h2
 exact h1.app ⟨c,_,rfl,hy,h2⟩
theorem LD(sz:Nat)(a b:Od):jN (HK sz a b) (fun _ _=>pL sz (cY a) (cY b)):=by
 intro E T t H h v T' H' hT hH e
 unfold HK at e
 split at e
 ·rename_i w hw
  cases hb:(Nat.beq (len w.cells) sz&&iD FC w.cells)with
  |false=>rw[hb]at e;cases e
  |true=>
   rw[hb]at e
   simp only[cond_true]at e
   rw[Bool.and_eq_true]at hb
   obtain⟨d,hd,TD⟩:=cV hT hw
   have qY:=TD.cells
   have hlen:d.cells.length=w.cells.length:=qY.length.symm
   have sP:w.cells.length=sz:=by have:=beq_true hb.1;rwa [iq]at this
   have HT:iD ji d.cells=true:=by
    rw[kT,List.all_eq_true]
    refine qY.Hb fun q hq=>?_
    have:=hb.2;rw[kT,List.all_eq_true]at this;exact this q hq
   have zc: ∀ {id off:Nat} {row:Rw},cY a t=some (.ref id off)->h.cw.get id=some row->off+sz<=row.n->pL sz (cY a) (cY b) t h=.ok kN (mO h id (some (row.put off d.cells))):=by
    intro id off row h1 h2 h3
    unfold pL
    rw[h1,hd]
    simp only[h2]
    have q:(Nat.beq (len d.cells) sz&&(Nat.ble (Nat.add off (len d.cells)) row.n&&iD ji d.cells))=true:=by
     rw[iq,hlen,sP,HT,Nat.beq_refl,Bool.and_true,Bool.true_and]
     rw[Nat.ble_eq];exact h3
    rw[q];rfl
   split at e
   ·rename_i r o ha
    obtain⟨p,hp,oi⟩:=cV hT ha
    split at e
    ·rename_i l hr
     cases hq:Nat.ble (Nat.add o (len w.cells)) (len l)with
     |false=>rw[hq]at e;cases e
     |true=>
      rw[hq]at e
      obtain⟨rfl,rfl,rfl⟩:=cD e
      have hq:=Nat.le_of_ble_eq_true hq
      rw[iq,iq]at hq
      obtain⟨id,row,k1,k2,k3,k4⟩:=(hH.row _ _ hr).2
      cases oi with
      |rf h1 h2=>
       rw[k1]at h2;cases h2
       have hn:o+sz<=row.n:=by rw[<-jJ,<-k3.length,<-sP];exact hq
       have hR:RV E H.next (mO h id (some (row.put o d.cells))) (E.K r) (.o _ (pe l o w.cells)):=
        ⟨id,row.put o d.cells,k1,by rw[m0,if_pos rfl],by rw[vX (by rw[hlen,sP];exact hn)];exact k3.put qY o,k4⟩
       obtain⟨S,X⟩:=DA hH hr rfl rfl (by rw[k1];rfl) hR
       exact⟨_,_,E,Ev.const (zc hp k2 hn),X,S,.tu .nil,hT⟩
    ·cases e
   ·rename_i r s i o ha
    obtain⟨p,hp,oi⟩:=cV hT ha
    split at e
    ·rename_i ty x hr
     cases hq:(Nat.beq s (size ty)&&Nat.ble (Nat.add o (len w.cells)) s)with
     |false=>rw[hq]at e;cases e
     |true=>
      rw[hq]at e
      simp only[cond_true]at e
      rw[Bool.and_eq_true]at hq
      have hs:s=size ty:=beq_true hq.1
      have hos:=Nat.le_of_ble_eq_true hq.2
      rw[iq]at hos
      split at e
      ·rename_i y H1 hy
       split at e
       ·rename_i t2 x2 hr2
        obtain⟨rfl,rfl,rfl⟩:=cD e
        cases oi with
        |re h1 h2 h3=>
         rename_i id base n
         have q:=(hH.row _ _ hr).2
         rcases q.2 with⟨k,_⟩|⟨zQ,Pj,row,ls,k1,k2,k3,k4⟩
         ·rw[h2]at k;cases k
         ·rw[h2]at k1
          injection k1 with a1 a2 a3 a4
          subst a1;subst a2
          rw[<-q.1]at a3 k3
          rw[a3]at h3
          obtain⟨_,e2,e3⟩:=wJ (N:=H.next) h3 k3 k4
          obtain⟨E1,c,dd,F,hcd,hey,alP⟩:=vw ty E H h _ [] _ y H1 hH (e2.put qY o) hy
          have hdd:dd=[]:=by cases alP;rfl
          rw[hdd,List.append_nil]at hcd
          have hr1:H1.cw.get r=some (.l t2 x2):=hr2
          have q2:=(F.S.row _ _ hr1).2
          have hKr:(E1.K r).av=.jS id base n s:=by rw[F.K];exact h2
          have hL:((ls.drop (i*size ty)).take (size ty)).length=size ty:=(wJ (N:=H.next) h3 k3 k4).1 |> EV.length ty _ _
          have ar2:ls.length=x.length*size ty:=k4.length (EV.length ty)
          have hle:i*size ty+size ty<=x.length*size ty:=by
           have:=Nat.mul_le_mul_right (size ty) (Nat.succ_le_of_lt h3)
           rw[Nat.succ_mul]at this;exact this
          obtain⟨s1,s2⟩:=jM.1 k3
          have hn:base+i*s+o+sz<=row.n:=by rw[hs];rw[sP,hs]at hos;have e0:o+sz<=size ty:=hos;omega
          have alQ:(row.put (base+i*s+o) d.cells).oV base (x.length*size ty)=some (ls.take (i*size ty)++(c++ls.drop (i*size ty+size ty))):=by
           have hn':base+i*s+o+d.cells.length<=row.n:=by rw[hlen,sP];exact hn
           refine jM.2 ⟨by show base+_<=row.n;exact s1,?_⟩
           rw[vX hn',<-hcd]
           have vk:row.toL=row.toL.take base++(ls++row.toL.drop (base+x.length*size ty)):=by
            rw[s2,<-List.drop_drop,List.take_append_drop,List.take_append_drop]
           have Hk:(row.toL.take base).length=base:=by rw[List.length_take,jJ];omega
           have hls:=LC k4 h3
           have hA:(ls.take (i*size ty)).length=i*size ty:=by rw[List.length_take];omega
           have hod:o+d.cells.length<=size ty:=by rw[hlen,<-hs];exact hos
           have e1:put row.toL (base+i*s+o) d.cells=row.toL.take base++(put ls (i*size ty+o) d.cells++row.toL.drop (base+x.length*size ty)):=by
            have:=zk ls (row.toL.drop (base+x.length*size ty)) d.cells (i*size ty+o) (by omega) (row.toL.take base)
            rw[<-vk,Hk]at this
            rw[hs,Nat.add_assoc];exact this
           have e2:put ls (i*size ty+o) d.cells=ls.take (i*size ty)++(put ((ls.drop (i*size ty)).take (size ty)) o d.cells++ls.drop (i*size ty+size ty)):=by
            have:=zk ((ls.drop (i*size ty)).take (size ty)) (ls.drop (i*size ty+size ty)) d.cells o (by rw[hL];exact hod) (ls.take (i*size ty))
            rw[<-hls,hA]at this
            exact this
           rw[e1,List.drop_append_of_le_length (by rw[Hk];exact Nat.le_refl _)]
           rw[show List.drop base (row.toL.take base)=[]from by rw[List.drop_eq_nil_iff,Hk];exact Nat.le_refl _,List.nil_append]
           rw[List.take_append_of_le_length (by rw[zl _ _ _ (by omega)];omega)]
           rw[show List.take (x.length*size ty) (put ls (i*size ty+o) d.cells)=put ls (i*size ty+o) d.cells from by rw[List.take_of_length_le];rw[zl _ _ _ (by omega)];omega]
           exact e2.symm
          have hR:RV E1 H1.next (mO h id (some (row.put (base+i*s+o) d.cells))) (E1.K r) (.l ty (x.set i y)):=by
           refine⟨by rw[List.length_set,F.K];exact q.1,.inr ⟨id,base,row.put (base+i*s+o) d.cells,_,?_,by rw[m0,if_pos rfl],?_,VL (k4.mono (EV.mono F.g ty)) h3 hey⟩⟩
           ·rw[hKr,F.K,<-q.1,hs,a3]
           ·rw[F.K,<-q.1];exact alQ
          obtain⟨S,X⟩:=DA F.S hr1 rfl rfl (by rw[hKr];rfl) hR
          exact⟨_,_,E1,Ev.const (zc hp k2 hn),F.X.trans X,S,.tu .nil,hT.mono (F.X.trans X).e (F.X.trans X).le⟩
       ·cases e
      ·cases e
    ·cases e
   ·cases e
 ·cases e
end Lf
end Go.Ab

noncomputable section
namespace Go.Ab
namespace Lf
theorem lI{i n:Int}:ij i n=true↔0<=i/\i<n:=by unfold ij;simp
theorem VM(size:Nat)(a i:Od):jN (Vo size a i) (fun _ _=>vT size (cY a) (cY i)):=iO (by
 intro E T t H h v T' H' hT hH e
 unfold Vo at e
 split at e
 ·rename_i iv hiv
  split at e
  ·rename_i k n hn
   obtain⟨c,hc,kr⟩:=cV hT hiv
   have:=kX kr hn;subst this
   have kH: ∀ {id off m sz:Nat} {j:Nat},n=(j:Int)->cY a t=some (.jS id off m sz)->j<m->sz=size->vT size (cY a) (cY i) t h=.ok (.ref id (off+j*size)) h:=by
    intro id off m sz j hj h1 h2 h3
    subst hj
    unfold vT
    rw[hc]
    show(match cY a t with
     |some (.jS id off n sz)=>bif Nat.blt j n&&Nat.beq sz size then Go.Ab.Ro.ok (.ref id (Nat.add off (Nat.mul j size))) h else .bad
     |some (.qT n cs)=>bif Nat.blt j n then .ok (.mN (dp (Nat.mul j size) cs)) h else .bad
     | _=>.bad)=_
    rw[h1]
    simp only[ic.2 h2,h3,Nat.beq_refl]
    rfl
   have conv: ∀ {m:Nat},ij n (Int.ofNat m)=true-> ∃ j:Nat,n=(j:Int)/\n.toNat=j/\j<m:=by
    intro m q
    obtain⟨q1,q2⟩:=lI.1 q
    exact⟨n.toNat,by omega,rfl,by have:(Int.ofNat m)=(m:Int):=rfl;omega⟩
   split at e
   ·rename_i r s ha
    obtain⟨p,hp,oi⟩:=cV hT ha
    have key: ∀ {t':Ty} {x:List (den t')} {S':Nat->Option Rw},LR E.G t' x (E.K r) S'->(bif Nat.beq s size then Lf.T.ck (ij n (Int.ofNat x.length)) (okV (.re r s n.toNat 0) T H)else Lf.T.bad).val=some (v,T',H')->H'=H/\T'=T/\ ∃ c,vT size (cY a) (cY i) t h=.ok c h/\V E H.next v c:=by
     intro t' x S' q e
     cases hs:Nat.beq s size with
     |false=>rw[hs]at e;cases e
     |true=>
      rw[hs]at e
      have hs:=beq_true hs
      obtain⟨q1,e⟩:=Lf.T.cy e
      obtain⟨rfl,rfl,rfl⟩:=cD e
      obtain⟨j,hj,NM,kC⟩:=conv q1
      have q2:=FM oi q
      cases oi with
      |os h1 h2=>
       rcases h2 with⟨h2,h3⟩|⟨id,base,h2⟩
       ·rw[q.1,h3]at kC;omega
       ·rw[h2]at hp
        rw[q.1]at kC
        refine⟨rfl,rfl,_,kH hj hp kC hs,?_⟩
        rw[NM]
        have:=V.re (i:=j) (o:=0) h1 h2 kC
        rw[Nat.add_zero,hs]at this
        rw[hs];exact this
    split at e
    ·rename_i t' x hr;exact key (hH.row _ _ hr).2 e
    ·rename_i t' x hr;exact key (hH.row _ _ hr).2 e
    ·cases e
   ·rename_i r s off m ha
    obtain⟨p,hp,oi⟩:=cV hT ha
    cases hs:Nat.beq s size with
    |false=>rw[hs]at e;cases e
    |true=>
     rw[hs]at e
     have hs:=beq_true hs
     obtain⟨q1,e⟩:=Lf.T.cy e
     obtain⟨rfl,rfl,rfl⟩:=cD e
     obtain⟨j,hj,NM,kC⟩:=conv q1
     cases oi with
     |se _ _ _ _=>omega
     |ss h1 h2 h3=>
      rename_i id base
      refine⟨rfl,rfl,_,kH hj hp kC hs,?_⟩
      rw[NM]
      have:=V.re (i:=off+j) (o:=0) h1 h2 (by omega)
      rw[Nat.add_zero,Nat.add_mul,<-Nat.add_assoc,hs]at this
      rw[hs];exact this
   ·rename_i r s off m ha
    obtain⟨p,hp,oi⟩:=cV hT ha
    split at e
    ·rename_i k0 j
     cases hs:(Nat.beq s size&&Nat.blt j m)with
     |false=>rw[hs]at e;cases e
     |true=>
      rw[hs]at e
      rw[Bool.and_eq_true]at hs
      obtain⟨rfl,rfl,rfl⟩:=cD e
      cases hn
      cases oi with
      |xo h1 h2=>
       have BD:=beq_true hs.1
       refine⟨rfl,rfl,_,kH rfl hp (ic.1 hs.2) BD,?_⟩
       have:=V.rf (o:=off+j*s) h1 h2
       rw[BD]at this
       rw[BD];exact this
    ·cases hs:Nat.beq s size with
     |false=>rw[hs]at e;cases e
     |true=>
      rw[hs]at e
      obtain⟨i0,Tz,kC,e⟩:=xH e
      obtain⟨rfl,rfl,rfl⟩:=cD e
      cases oi with
      |xo h1 h2=>
       have BD:=beq_true hs
       refine⟨rfl,rfl,_,kH Tz hp (by omega) BD,?_⟩
       have:=V.rf (o:=off+i0*s) h1 h2
       rw[BD]at this
       rw[BD];exact this
   ·rename_i m ty x ha
    obtain⟨p,hp,oi⟩:=cV hT ha
    cases hs:Nat.beq size (Lf.size ty)with
    |false=>rw[hs]at e;cases e
    |true=>
     rw[hs]at e
     have hs:=beq_true hs
     obtain⟨q1,e⟩:=Lf.T.cy e
     obtain⟨rfl,rfl,rfl⟩:=cD e
     obtain⟨j,hj,NM,kC⟩:=conv q1
     rw[NM]
     cases oi with
     |c k _=>
      obtain⟨b,hb,k⟩:=k
      cases hb
      rcases k with⟨_,k⟩|⟨ls,k1,k2|⟨id,base,row,k2,k3,k4⟩⟩
      ·subst k;simp at kC
      ·subst k2
       refine⟨rfl,rfl,.mN (ls.drop (j*size)),?_,?_⟩
       ·unfold vT
        rw[hc,hp,hj]
        show(bif Nat.blt j x.length then Go.Ab.Ro.ok (.mN (dp (Nat.mul j size) ls)) h else .bad)=_
        rw[ic.2 kC,nr];rfl
       ·have h1:=k1.get (EV.length ty) kC (cr ty)
        have:=V.zp (r:=(ls.drop (j*size)).drop size) (uv (E:=E) (N:=H'.next) rfl ty _ _ h1)
        rw[hs,List.take_append_drop]at this
        rw[hs];exact this
      ·subst k2
       refine⟨rfl,rfl,_,kH hj hp kC hs.symm,?_⟩
       obtain⟨_,e2,e3⟩:=wJ (N:=H'.next) kC k4 k1
       have hl:(qI ty (x.getD j (cr ty))).length=Lf.size ty:=by
        rw[e2.length,(wJ (N:=H'.next) kC k4 k1).1 |> EV.length ty _ _]
       refine .zr e2 k3 ?_
       rw[hl,hs];exact e3
   ·cases e
  ·cases e
 ·cases e)
theorem VN(n size:Nat)(a i:Od):jN (Vp n size a i) (fun _ _=>yx n size (cY a) (cY i)):=iO (by
 intro E T t H h v T' H' hT hH e
 unfold Vp at e
 split at e
 ·rename_i k j hiv
  obtain⟨c,hc,kr⟩:=cV hT hiv
  cases kr
  cases hj:Nat.blt j n with
  |false=>rw[hj]at e;cases e
  |true=>
   rw[hj]at e
   simp only[cond_true]at e
   have hk:yx n size (cY a) (cY i) t h=(match cY a t with
    |some (.ref id off)=>bif Nat.blt j n then Go.Ab.Ro.ok (.ref id (Nat.add off (Nat.mul j size))) h else .bad
    |some (.mN cs)=>bif Nat.blt j n then .ok (.mN (dp (Nat.mul j size) cs)) h else .bad
    | _=>.bad):=by unfold yx;rw[hc];rfl
   rw[hk,hj]
   split at e
   ·rename_i r o ha
    obtain⟨rfl,rfl,rfl⟩:=cD e
    obtain⟨p,hp,oi⟩:=cV hT ha
    rw[hp]
    cases oi with
    |rf h1 h2=>exact⟨rfl,rfl,_,rfl,.rf h1 h2⟩
   ·rename_i l ha
    obtain⟨p,hp,oi⟩:=cV hT ha
    rw[hp]
    cases hb:Nat.ble (Nat.mul j size) (len l)with
    |false=>rw[hb]at e;cases e
    |true=>
     rw[hb]at e
     obtain⟨rfl,rfl,rfl⟩:=cD e
     have hle:j*size<=l.length:=by have:=Nat.le_of_ble_eq_true hb;rwa [iq]at this
     rw[nr]
     cases oi with
     |zp k=>
      rename_i l' r
      refine⟨rfl,rfl,_,rfl,?_⟩
      rw[nr,List.drop_append_of_le_length (by rw[<-k.length];exact hle)]
      exact .zp (k.drop _)
     |zr k g s=>
      rename_i l' id o row
      refine⟨rfl,rfl,_,rfl,?_⟩
      refine .zr (k.drop _) g ?_
      obtain⟨s1,s2⟩:=jM.1 s
      rw[List.length_drop]
      refine jM.2 ⟨by have e1:Nat.add o (Nat.mul j size)=o+j*size:=rfl;have e2:Nat.mul j size=j*size:=rfl;omega,?_⟩
      rw[s2,List.drop_take,List.drop_drop]
      rfl
   ·cases e
 ·cases e)
theorem Cu{E:En}{N:Nat}{k:IntKind}: ∀ {l:List Sv} {l':List AV} {r:List Int},Vs E N l l'->HL k l=some r->l'=r.map fun n=>.int k n
 | [],_,_,.nil,e=>by cases e;rfl
 |v::l,_,r,.cons hv h,e=>by
  change (match toN v with|some (k',n)=>(bif mK k k' then(match HL k l with|some r=>some (n::r)|none=>none)else none)|none=>none)=some r at e
  split at e
  ·rename_i k' n hn
   obtain⟨hk,e⟩:=iu e
   split at e
   ·rename_i r' hr
    cases e
    have:=jK.1 hk;subst this
    rw[kX hv hn,Cu h hr];rfl
   ·cases e
  ·cases e
theorem LF(n size:Nat)(agg:Bool)(a i:Od):jN (Ds n size agg a i) (fun _ _=>oI n size agg (cY a) (cY i)):=iO (by
 intro E T t H h v T' H' hT hH e
 unfold Ds at e
 split at e
 ·rename_i cs ha
  obtain⟨p,hp,oi⟩:=cV hT ha
  cases oi with
  |ag qY=>
   rename_i l'
   split at e
   ·rename_i k j hi
    obtain⟨c,hc,kr⟩:=cV hT hi
    cases kr
    cases hb:Nat.blt j n with
    |false=>rw[hb]at e;cases e
    |true=>
     rw[hb]at e
     obtain⟨e1,rfl,rfl⟩:=pZ e
     obtain⟨r,h1,h2⟩:=rm qY e1
     refine⟨rfl,rfl,r,?_,h2⟩
     unfold oI
     rw[hp,hc]
     show(bif Nat.blt j n then(match part agg l' (Nat.mul j size) size with|some v=>Go.Ab.Ro.ok v h|none=>.bad)else .bad)=_
     rw[hb,h1];rfl
   ·rename_i m k0 x hi
    obtain⟨c,hc,kr⟩:=cV hT hi
    have:=kX kr rfl;subst this
    cases hag:(agg|| !(Nat.beq size 1))with
    |true=>rw[hag]at e;cases e
    |false=>
     rw[hag]at e
     rw[Bool.or_eq_false_iff]at hag
     simp only[cond_false]at e
     split at e
     ·rename_i w l
      split at e
      ·rename_i k y hk
       split at e
       ·rename_i nl hnl
        cases hlen:Nat.beq (len nl) n with
        |false=>rw[hlen]at e;cases e
        |true=>
         rw[hlen]at e
         obtain⟨q1,e⟩:=Lf.T.cy e
         obtain⟨rfl,rfl,rfl⟩:=cD e
         obtain⟨x1,x2⟩:=lI.1 q1
         obtain⟨j,rfl⟩:=Int.eq_ofNat_of_zero_le x1
         have hj:j<n:=by have:(Int.ofNat n)=(n:Int):=rfl;omega
         have hl:=Cu qY hnl
         have ar5:nl.length=n:=by have:=beq_true hlen;rwa [iq]at this
         have sP:size=1:=by cases hq:Nat.beq size 1 with
          |true=>exact beq_true hq
          |false=>rw[hq]at hag;cases hag.2
         refine⟨rfl,rfl,.int k (nl.getD j 0),?_,ks⟩
         unfold oI
         rw[hp,hc]
         show(bif Nat.blt j n then(match part agg l' (Nat.mul j size) size with|some v=>Go.Ab.Ro.ok v h|none=>.bad)else .bad)=_
         have hpt:part agg l' (Nat.mul j size) size=some (.int k (nl.getD j 0)):=by
          rw[hag.1,sP,hl,show Nat.mul j 1=j from Nat.mul_one j]
          have NM:j<nl.length:=by omega
          have ht:((nl.map fun n=>AV.int k n).drop j).take 1=[AV.int k (nl.getD j 0)]:=by
           rw[List.drop_eq_getElem_cons (by simpa using NM)]
           simp[List.getD_eq_getElem?_getD,List.getElem?_eq_getElem NM]
          unfold part
          rw[vv (by rw[ht];rfl),ht];rfl
         rw[ic.2 hj,hpt];rfl
       ·cases e
      ·cases e
     ·cases e
   ·cases e
 ·cases e)
theorem HU(a i:Od):jN (zi a i) (fun _ _=>nU (cY a) (cY i)):=iO (by
 intro E T t H h v T' H' hT hH e
 unfold zi at e
 split at e
 ·rename_i w hw
  split at e
  ·rename_i b s hs
   split at e
   ·rename_i iv hiv
    split at e
    ·rename_i k n hn
     obtain⟨q1,e⟩:=Lf.T.cy e
     obtain⟨rfl,rfl,rfl⟩:=cD e
     obtain⟨c,hc,kr⟩:=cV hT hw
     obtain⟨d,hd,TD⟩:=cV hT hiv
     have:=sW kr hs;subst this
     have:=kX TD hn;subst this
     obtain⟨x1,x2⟩:=lI.1 q1
     obtain⟨j,rfl⟩:=Int.eq_ofNat_of_zero_le x1
     have hj:j<s.data.toList.length:=by have:(Int.ofNat s.size)=(s.size:Int):=rfl;have e2:s.data.toList.length=s.size:=Array.length_toList
                                        omega
     refine⟨rfl,rfl,_,?_,ks⟩
     unfold nU
     rw[hc,hd]
     show(match oH s.data.toList j with|some b=>Go.Ab.Ro.ok (.int .u8 b.toNat) h|none=>.bad)=_
     rw[kG,List.getElem?_eq_getElem hj]
     simp[List.getD_eq_getElem?_getD,List.getElem?_eq_getElem hj]
    ·cases e
   ·cases e
  ·cases e
 ·cases e)
theorem JO{E:En}{N:Nat}{T:Tq}{t:Tm}(hT:TV E N T t){o:Option Od}{d:Sv}{l:Bool}{n:Int}{m:Nat}(hd:toN d=some (.i64,(m:Int)))(e:BK o T d=some (l,n))(h0:0<=n):qD (o.map cY) t m=some n.toNat:=by
 unfold BK at e
 cases o with
 |none=>
  simp only at e
  rw[hd]at e
  cases e
  simp[qD]
 |some o=>
  simp only at e
  split at e
  ·rename_i w hw
   split at e
   ·rename_i k n' hn
    cases e
    obtain⟨c,hc,kr⟩:=cV hT hw
    have:=kX kr hn;subst this
    obtain⟨j,rfl⟩:=Int.eq_ofNat_of_zero_le h0
    show(match cY o t with|some (.int _ (.ofNat n))=>some n| _=>none)=_
    rw[hc];rfl
   ·cases e
  ·cases e
theorem xM{l u n:Int}:jy l u n=true↔0<=l/\l<=u/\u<=n:=by unfold jy;simp
theorem xN{E:En}{N:Nat}{T:Tq}{t:Tm}(hT:TV E N T t){lo hi:Option Od}{d:Sv}{l1 l2:Bool}{l u n:Int}{m:Nat}(hd:toN d=some (.i64,(m:Int)))(hn:n=m)(e1:BK lo T (.i .i64 0)=some (l1,l))(e2:BK hi T d=some (l2,u))(hc:jy l u n=true):
 bounds (lo.map cY) (hi.map cY) t m=some (l.toNat,u.toNat)/\l.toNat<=u.toNat/\u.toNat<=m:=by
 obtain⟨h1,h2,h3⟩:=xM.1 hc
 have a1:=JO hT (m:=0) rfl e1 h1
 have a2:=JO hT hd e2 (by omega)
 unfold bounds
 rw[a1,a2]
 have b1:Nat.ble l.toNat u.toNat=true:=by rw[Nat.ble_eq];omega
 have b2:Nat.ble u.toNat m=true:=by rw[Nat.ble_eq];omega
 simp only[b1,b2]
 exact⟨rfl,by omega,by omega⟩
theorem Cv{a:AV}(h:vh a=true):jf a=true:=by cases a<;>first|exact h|rfl
theorem vy{size:Nat}{x:jF}{lo hi:Option jF}{t:Tm}{h:Hp}{a:AV}(hx:x t=some a)(he:vh a=false):j9 size x lo hi t h=qE size x lo hi t h:=by
 unfold j9;rw[hx];simp only[he];rfl
theorem ux{size:Nat}{x:jF}{lo hi:Option jF}{t:Tm}{h:Hp}{a:AV}{l u:Nat}(hx:x t=some a)(he:jf a=true)(hb:bounds lo hi t 0=some (l,u)):j9 size x lo hi t h=.ok a h:=by
 cases xm:vh a with
 |true=>unfold j9;rw[hx];simp only[xm,hb];rfl
 |false=>
  have:a=.mB:=by cases a<;>first|rfl|(cases xm;done)|(cases he;done)|(rename_i v0;have k:vh (.sc v0)=true:=he;rw[k]at xm;cases xm)
  subst this
  rw[vy hx xm]
  unfold qE
  rw[hx]
  simp only[hb]
theorem tH{size:Nat}{x:jF}{lo hi:Option jF}{t:Tm}{h:Hp}{id off n sz l u:Nat}(hx:x t=some (.jS id off n sz))(hb:bounds lo hi t n=some (l,u))(hs:sz=size):j9 size x lo hi t h=.ok (.jS id (off+l*size) (u - l) sz) h:=by
 rw[vy hx rfl]
 unfold qE
 rw[hx]
 simp only[hb,hs,Nat.beq_refl]
 rfl
theorem FO(size:Nat)(a:Od)(lo hi:Option Od): ∀ (E:En) (T:Tq) (t:Tm) (H:Hq) (h:Hp) (v:Sv) (T':Tq) (H':Hq),TV E H.next T t->SR E H h->(wC size a lo hi T H).val=some (v,T',H')->H'=H/\T'=T/\ ∃ c,j9 size (cY a) (lo.map cY) (hi.map cY) t h=.ok c h/\V E H.next v c:=by
 intro E T t H h v T' H' hT hH e
 unfold wC at e
 split at e
 ·rename_i w hw
  split at e
  ·rename_i m hm
   split at e
   ·rename_i k n hn
    split at e
    ·rename_i ll l hl
     split at e
     ·rename_i lu u hu
      obtain⟨p,hp,oi⟩:=cV hT hw
      obtain⟨q,q1,_,q3,q4⟩:=JK hH oi hm
      rw[q1]at hn;cases hn
      have bd:=fun hc=>xN (n:=(q:Int)) hT q1 rfl hl hu hc
      split at e
      ·rename_i z
       cases hz:vh z with
       |false=>rw[hz]at e;cases e
       |true=>
        rw[hz]at e
        obtain⟨c1,e⟩:=Lf.T.cy e
        obtain⟨rfl,rfl,rfl⟩:=cD e
        obtain⟨b1,_,_⟩:=bd c1
        cases oi with
        |a hlf=>
         have hem:=Cv hz
         have:q=0:=q4 hem
         subst this
         exact⟨rfl,rfl,p,ux hp hem b1,.a hlf⟩
      ·rename_i r s
       cases hs:Nat.beq s size with
       |false=>rw[hs]at e;cases e
       |true=>
        rw[hs]at e
        have hs:=beq_true hs
        obtain⟨c1,e⟩:=Lf.T.cy e
        obtain⟨rfl,rfl,rfl⟩:=cD e
        obtain⟨b1,b2,b3⟩:=bd c1
        cases oi with
        |os h1 h2=>
         rcases h2 with⟨h2,h3⟩|⟨id,base,h2⟩
         ·have:q=0:=q4 h2
          subst this
          have e1:l.toNat=0:=by omega
          have e2:u.toNat - l.toNat=0:=by omega
          rw[e2,e1]
          exact⟨rfl,rfl,_,ux hp h2 b1,.se h1 h2 h3 rfl⟩
         ·rw[h2]at hp q3
          have:(E.K r).n=q:=by cases q3;rfl
          refine⟨rfl,rfl,_,tH hp (by rw[this];exact b1) hs,?_⟩
          rw[<-hs]
          exact .ss h1 h2 (by omega)
      ·rename_i r s off m'
       cases hs:Nat.beq s size with
       |false=>rw[hs]at e;cases e
       |true=>
        rw[hs]at e
        have hs:=beq_true hs
        obtain⟨c1,e⟩:=Lf.T.cy e
        obtain⟨rfl,rfl,rfl⟩:=cD e
        obtain⟨b1,b2,b3⟩:=bd c1
        cases oi with
        |se h1 h2 h3 h4=>
         have:q=0:=q4 h2
         subst this
         have e1:l.toNat=0:=by omega
         have e2:u.toNat - l.toNat=0:=by omega
         rw[e2,e1,h4]
         exact⟨rfl,rfl,_,ux hp h2 b1,.se h1 h2 h3 rfl⟩
        |ss h1 h2 h3=>
         rename_i id base
         have:m'=q:=by cases q3;rfl
         subst this
         refine⟨rfl,rfl,_,tH hp b1 hs,?_⟩
         rw[<-hs]
         have:=V.ss (off:=off+l.toNat) (n:=u.toNat - l.toNat) h1 h2 (by omega)
         rw[Nat.add_mul,<-Nat.add_assoc]at this
         exact this
      ·rename_i r s off m'
       cases hlu:(ll&&lu)with
       |true=>
        rw[hlu,cond_true,<-hlu]at e
        cases hs:((ll&&lu)&&(Nat.beq s size&&jy l u (q:Int)))with
        |false=>rw[hs]at e;cases e
        |true=>
         rw[hs]at e
         rw[Bool.and_eq_true,Bool.and_eq_true,Bool.and_eq_true]at hs
         obtain⟨rfl,rfl,rfl⟩:=cD e
         obtain⟨b1,b2,b3⟩:=bd hs.2.2
         have BD:=beq_true hs.2.1
         cases oi with
         |xo h1 h2=>
          rename_i id
          have:m'=q:=by cases q3;rfl
          subst this
          refine⟨rfl,rfl,_,tH hp b1 BD,?_⟩
          rw[<-BD]
          exact .xo h1 h2
       |false=>
        rw[hlu,cond_false]at e
        cases hs:Nat.beq s size with
        |false=>rw[hs]at e;cases e
        |true=>
         rw[hs,cond_true]at e
         obtain⟨i,UY,KJ,e⟩:=At e
         obtain⟨j,hj1,NM,e⟩:=At e
         cases hb:Nat.ble i j with
         |false=>rw[hb]at e;cases e
         |true=>
          rw[hb,cond_true]at e
          have U':=Nat.le_of_ble_eq_true hb
          obtain⟨rfl,rfl,rfl⟩:=cD e
          subst UY;subst hj1
          cases oi with
          |xo h1 h2=>
           rename_i id
           have:m'=q:=by cases q3;rfl
           subst this
           obtain⟨b1,b2,b3⟩:=bd (xM.2 ⟨by omega,by omega,by omega⟩)
           have BD:=beq_true hs
           refine⟨rfl,rfl,_,tH hp b1 BD,?_⟩
           rw[<-BD]
           exact .xo h1 h2
      ·rename_i m' ty x
       cases hs:Nat.beq size (Lf.size ty)with
       |false=>rw[hs]at e;cases e
       |true=>
        rw[hs]at e
        have hs:=beq_true hs
        obtain⟨c1,e⟩:=Lf.T.cy e
        obtain⟨rfl,rfl,rfl⟩:=cD e
        obtain⟨b1,b2,b3⟩:=bd c1
        cases oi with
        |c k _=>
         obtain⟨b,hb,k⟩:=k
         cases hb
         rcases k with⟨k,kx⟩|⟨ls,k1,k2|⟨id,base,row,k2,k3,k4⟩⟩
         ·have:q=0:=q4 k
          subst this
          subst kx
          exact⟨rfl,rfl,_,ux hp k b1,.c ⟨_,rfl,.inl ⟨k,by simp⟩⟩ fun h=>(h rfl).elim⟩
         ·subst k2
          have:x.length=q:=by cases q3;rfl
          have hle:((x.drop l.toNat).take (u.toNat - l.toNat)).length=u.toNat - l.toNat:=by rw[List.length_take,List.length_drop];omega
          refine⟨rfl,rfl,.qT (u.toNat - l.toNat) (tk (Nat.mul (u.toNat - l.toNat) size) (dp (Nat.mul l.toNat size) ls)),?_,?_⟩
          ·rw[vy hp rfl]
           unfold qE
           rw[hp]
           simp only[this,b1]
           rfl
          ·refine .c ⟨_,rfl,.inr ⟨_,(k1.drop (EV.length ty) l.toNat).take (EV.length ty) (u.toNat - l.toNat),.inl ?_⟩⟩ fun h=>(h rfl).elim
           rw[hle,tl,nr,hs];rfl
         ·subst k2
          have:x.length=q:=by cases q3;rfl
          obtain⟨a1,a2,a3⟩:=Dy (id:=0) rfl k4 k1 (off:=l.toNat) (m:=u.toNat - l.toNat) (by omega)
          refine⟨rfl,rfl,_,tH hp (by rw[this];exact b1) hs.symm,?_⟩
          refine .c ⟨_,rfl,wH (id:=id) (base:=base+l.toNat*Lf.size ty) ?_ k3 ?_ a3⟩ fun h=>(h rfl).elim
          ·rw[a1,hs]
          ·rw[a1];exact a2
      ·cases e
     ·cases e
    ·cases e
   ·cases e
  ·cases e
 ·cases e
theorem HV(size:Nat)(a:Od)(lo hi:Option Od):jN (wC size a lo hi) (fun _ _=>j9 size (cY a) (lo.map cY) (hi.map cY)):=iO (FO size a lo hi)
theorem FP(n size:Nat)(a:Od)(lo hi:Option Od): ∀ (E:En) (T:Tq) (t:Tm) (H:Hq) (h:Hp) (v:Sv) (T':Tq) (H':Hq),TV E H.next T t->SR E H h->(wD n size a lo hi T H).val=some (v,T',H')->H'=H/\T'=T/\ ∃ c,lQ n size (cY a) (lo.map cY) (hi.map cY) t h=.ok c h/\V E H.next v c:=by
 intro E T t H h v T' H' hT hH e
 unfold wD at e
 split at e
 ·rename_i r o ha
  split at e
  ·rename_i l hl
   split at e
   ·rename_i u hu
    split at e
    ·rename_i cs qY
     cases hs:(Nat.ble (Nat.add o (Nat.mul n size)) (len cs)&&(jy l u (Int.ofNat n)&&Nat.blt 0 size))with
     |false=>rw[hs]at e;cases e
     |true=>
      rw[hs]at e
      rw[Bool.and_eq_true,Bool.and_eq_true]at hs
      obtain⟨rfl,rfl,rfl⟩:=cD e
      obtain⟨b1,b2,b3⟩:=xN (n:=(n:Int)) (m:=n) hT rfl rfl hl hu hs.2.1
      obtain⟨p,hp,oi⟩:=cV hT ha
      obtain⟨id,row,k1,k2,k3⟩:=xL hH qY
      cases oi with
      |rf h1 h2=>
       rw[k1]at h2;cases h2
       refine⟨rfl,rfl,_,?_,.xo (id:=id) h1 k1⟩
       unfold lQ
       rw[hp]
       have q:=hs.1
       rw[iq,k3.length,jJ]at q
       simp only[b1,k2,q]
       rfl
    ·cases e
   ·cases e
  ·cases e
 ·cases e
theorem HW(n size:Nat)(a:Od)(lo hi:Option Od):jN (wD n size a lo hi) (fun _ _=>lQ n size (cY a) (lo.map cY) (hi.map cY)):=iO (FP n size a lo hi)
theorem HX(a:Od)(lo hi:Option Od):jN (Dt a lo hi) (fun _ _=>nT (cY a) (lo.map cY) (hi.map cY)):=iO (by
 intro E T t H h v T' H' hT hH e
 unfold Dt at e
 split at e
 ·rename_i w hw
  split at e
  ·rename_i s hs
   split at e
   ·rename_i l hl
    split at e
    ·rename_i u hu
     cases hc:jy l u (Int.ofNat s.size)with
     |false=>rw[hc]at e;cases e
     |true=>
      rw[hc]at e
      obtain⟨rfl,rfl,rfl⟩:=cD e
      obtain⟨b1,b2,b3⟩:=xN (n:=(s.size:Int)) (m:=s.size) hT rfl rfl hl hu hc
      obtain⟨p,hp,oi⟩:=cV hT hw
      have:=sW oi hs;subst this
      refine⟨rfl,rfl,_,?_,.a rfl⟩
      unfold nT
      rw[hp]
      simp only[b1]
    ·cases e
   ·cases e
  ·cases e
 ·cases e)
theorem VO(x y z:Od):jN (aba x y z) (fun _ _=>zP (cY x) (cY y) (cY z)):=iO (by
 intro E T t H h v T' H' hT hH e
 unfold aba at e
 split at e
 ·rename_i k hy
  split at e
  ·rename_i k' hz
   obtain⟨c,hc,kr⟩:=cV hT hy
   obtain⟨d,hd,TD⟩:=cV hT hz
   cases kr;cases TD
   have key: ∀ {w:Sv} {p:AV},cY x t=some (xg p)->V E H.next w p->(jf p=true∨(∃ id o n s,p=.jS id o n s)∨ ∃ n cs,p=.qT n cs)->zP (cY x) (cY y) (cY z) t h=.ok .mB h:=by
    intro w p h1 h2 h3
    unfold zP
    rw[hc,hd,h1]
    rcases h3 with h3|⟨_,_,_,_,rfl⟩|⟨_,_,rfl⟩
    ·rw[ke h3];rfl
    ·rfl
    ·rfl
   split at e
   ·rename_i w hx
    cases hw:jf w with
    |false=>rw[hw]at e;cases e
    |true=>
     rw[hw]at e
     obtain⟨rfl,rfl,rfl⟩:=cD e
     obtain⟨p,hp,oi⟩:=qK hT hx
     refine⟨rfl,rfl,_,key hp oi ?_,.a rfl⟩
     cases oi;exact .inl hw
   ·rename_i hx
    obtain⟨rfl,rfl,rfl⟩:=cD e
    obtain⟨p,hp,oi⟩:=qK hT hx
    refine⟨rfl,rfl,_,key hp oi ?_,.a rfl⟩
    cases oi with
    |os _ h2=>rcases h2 with⟨h2,_⟩|⟨_,_,h2⟩
              ·exact .inl h2
              ·exact .inr (.inl ⟨_,_,_,_,h2⟩)
   ·rename_i hx
    obtain⟨rfl,rfl,rfl⟩:=cD e
    obtain⟨p,hp,oi⟩:=qK hT hx
    refine⟨rfl,rfl,_,key hp oi ?_,.a rfl⟩
    cases oi with
    |se _ h2 _ _=>exact .inl h2
    |ss _ _ _=>exact .inr (.inl ⟨_,_,_,_,rfl⟩)
   ·rename_i hx
    obtain⟨rfl,rfl,rfl⟩:=cD e
    obtain⟨p,hp,oi⟩:=qK hT hx
    refine⟨rfl,rfl,_,key hp oi ?_,.a rfl⟩
    cases oi
    exact .inr (.inl ⟨_,_,_,_,rfl⟩)
   ·rename_i hx
    obtain⟨rfl,rfl,rfl⟩:=cD e
    obtain⟨p,hp,oi⟩:=qK hT hx
    refine⟨rfl,rfl,_,key hp oi ?_,.a rfl⟩
    cases oi with
    |c k _=>
     obtain⟨b,hb,k⟩:=k
     cases hb
     rcases k with⟨k,_⟩|⟨_,_,k|⟨_,_,_,k,_⟩⟩
     ·exact .inl k
     ·exact .inr (.inr ⟨_,_,k⟩)
     ·exact .inr (.inl ⟨_,_,_,_,k⟩)
   ·cases e
  ·cases e
 ·cases e)
theorem VP(x:Od):jN (jx x) (fun _ _=>zM (cY x)):=iO (by
 intro E T t H h v T' H' hT hH e
 unfold jx at e
 split at e
 ·rename_i w hx
  cases hw:jf w with
  |false=>rw[hw]at e;cases e
  |true=>
   rw[hw]at e
   obtain⟨rfl,rfl,rfl⟩:=cD e
   obtain⟨p,hp,oi⟩:=qK hT hx
   cases oi
   rw[ke hw]at hp
   refine⟨rfl,rfl,_,?_,.i⟩
   unfold zM
   rw[hp]
 ·cases e)
end Lf
end Go.Ab
