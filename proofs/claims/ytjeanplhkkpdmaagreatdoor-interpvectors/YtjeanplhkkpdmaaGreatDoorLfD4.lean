import Derived.Test.YtjeanplhkkpdmaaGreatDoorLfC
noncomputable section
namespace Go.Ab
namespace Lf
theorem FQ(k:IntKind):qf k k=true:=l8.2 rfl
theorem lz{f s:AV->AV->Option AV}{x y r:AV}(h:f x y=some r):DP f s x y=some r:=by unfold DP;rw[h]
theorem nS{f:IntKind->Int->Int->Option AV}(k:IntKind)(a b:Int):uG f (.int k a) (.int k b)=f k a b:=by show(bif qf k k then _ else _)=_;rw[FQ];rfl
theorem Jr(op:BinOp)(hop:op=.and∨op=.or∨op=.xor)(f:Nat->Nat->Nat)(k:IntKind)(a b:Int): ∃ r,HA op f (.int k a) (.int k b)=some (.int k r):=by
 unfold HA;rw[nS]
 have hr: ∃ r,EK (rO (Op.intBits op k a b))=some (.int k r):=by rcases hop with rfl|rfl|rfl<;>exact⟨_,rfl⟩
 split
 ·rename_i a b
  cases hc:(Nat.blt a (zh k)&&Nat.blt b (zh k))with
  |true=>exact⟨_,rfl⟩
  |false=>exact hr
 ·exact hr
theorem BJ{o:Option AV}{k:IntKind}(h: ∃ r,o=some (.int k r)):o=some (.int k (intOf o)):=by obtain⟨r,h⟩:=h;rw[h];rfl
theorem asm{f:BF}{g:IntKind->Int->Int->Int}(h:V2 f=.ar g)(k:IntKind)(a b:Int):f.f (.int k a) (.int k b)=some (.int k (g k a b)):=by
 cases f<;>first|(cases h;done)|skip
 case add=>cases h;exact lz (nS k a b)
 case sub=>cases h;exact lz (nS k a b)
 case mul=>cases h;exact lz (nS k a b)
 case and=>cases h;exact lz (BJ (Jr .and (.inl rfl) Nat.land k a b))
 case or=>cases h;exact lz (BJ (Jr .or (.inr (.inl rfl)) Nat.lor k a b))
 case xor=>cases h;exact lz (BJ (Jr .xor (.inr (.inr rfl)) Nat.xor k a b))
 case andNot=>
  cases h
  have hr: ∃ r,EK (rO (Op.intBits .andNot k a b))=some (.int k r):=⟨_,rfl⟩
  refine BJ (o:=sR (.int k a) (.int k b)) ?_;unfold sR;rw[nS];exact hr
theorem asn{f:BF}{g:IntKind->Int->Int->Int}(h:V2 f=.dv g)(k:IntKind)(a b:Int)(hb: ¬ b=0):f.f (.int k a) (.int k b)=some (.int k (g k a b)):=by
 have hz:eqI b 0=false:=by cases e:eqI b 0 with
  |false=>rfl
  |true=>exact(hb (nu.1 e)).elim
 cases f<;>first|(cases h;done)|skip
 case quo=>cases h;exact lz (by unfold aa6;rw[nS,hz];rfl)
 case rem=>cases h;exact lz (by unfold aa7;rw[nS,hz];rfl)
theorem aso{f:BF}{g:IntKind->Int->Int->Int}(h:V2 f=.sh g)(k k':IntKind)(a b:Int)(hb:0<=b):f.f (.int k a) (.int k' b)=some (.int k (g k a b)):=by
 obtain⟨n,rfl⟩:=Int.eq_ofNat_of_zero_le hb
 cases f<;>first|(cases h;done)|skip
 case shl=>cases h;have q:ND (.int k a) (.int k' (Int.ofNat n))=some (.int k (FD k a (Int.ofNat n))):=rfl;show DP ND KK (.int k a) (.int k' (Int.ofNat n))=_;exact lz q
 case shr=>cases h;have q:NF (.int k a) (.int k' (Int.ofNat n))=some (.int k (qR k a (Int.ofNat n))):=rfl;show DP NF KK (.int k a) (.int k' (Int.ofNat n))=_;exact lz q
theorem asp{f:BF}{g:Int->Int->Bool}(h:V2 f=.cm g)(k:IntKind)(a b:Int):f.f (.int k a) (.int k b)=some (.bool (g a b)):=by
 cases f<;>first|(cases h;done)|skip
 case lss=>cases h;refine lz ?_;unfold ajQ;rw[nS,pL]
 case leq=>cases h;refine lz ?_;unfold ajR;rw[nS,pL];simp[<-Int.not_lt]
 case gtr=>cases h;refine lz ?_;unfold ajS;rw[nS,pL]
 case geq=>cases h;refine lz ?_;unfold ajT;rw[nS,pL];simp[<-Int.not_lt]
 case eqI neg=>
  have he:eqI a b=decide (a=b):=by
   cases e:eqI a b with
   |true=>exact(decide_eq_true (nu.1 e)).symm
   |false=>refine(decide_eq_false fun q=>?_).symm;rw[nu.2 q]at e;cases e
  cases neg with
  |false=>cases h;refine lz ?_;unfold Uo;rw[nS,he];rfl
  |true=>cases h;refine lz ?_;unfold Uo;rw[nS,he];rfl
section
variable {E:En}{N:Nat}
theorem acI{i:Bool}{x y:Sv}{c d:AV}{r:LB}(hx:V E N x c)(hy:V E N y d)(h:acs i x y=some r):eq1 i c d=some r.v:=by
 unfold acs at h;split at h
 ·split at h
  ·obtain⟨hk,h⟩:=jI h;cases h;cases hx;cases hy;show(bif qf _ _ then some (eqI _ _)else none)=_;rw[hk];rfl
  ·split at h
   ·rename_i k a k' b h1 h2
    obtain⟨hk,h⟩:=jI h;cases h;rw[oA hx h1,oA hy h2];show(bif qf k k' then some (eqI a b)else none)=_;rw[hk];show some (eqI a b)=some (decide (a=b));congr 1;cases e:eqI a b with
    |true=>exact(decide_eq_true (nu.1 e)).symm
    |false=>refine(decide_eq_false fun q=>?_).symm;rw[nu.2 q]at e;cases e
   ·cases h
 ·split at h
  ·rename_i h1 h2;cases h;rw[oS hx h1,oS hy h2];rfl
  ·rename_i a b h1 h2;cases h;rw[oS hx h1,oS hy h2];rfl
  ·cases h
theorem LB.Wy(a b:LB):(a.and b).v=(a.v&&b.v):=by
 cases a with
 |l a=>cases a<;>cases b<;>rfl
 |t a=>cases b with
  |l b=>cases b<;>simp[LB.and,LB.v]
  |t b=>rfl
theorem Qm: ∀ {l:List Bool} {xs ys:List Sv} {cs ds:List AV} {r:LB},Vs E N xs cs->Vs E N ys ds->aks l xs ys=some r->GX l cs ds=some r.v
 | [],_,_,_,_,_,_,_,h=>by cases h;rfl
 |i::l,[],_,_,_,_,_,_,h=>by cases h
 |i::l,_::_,[],_,_,_,_,_,h=>by cases h
 |i::l,x::xs,y::ys,c'::l1,d'::l2,r,.cons hx hxs,.cons hy hys,h=>by
  change (match acs i x y with|some c=>(match aks l xs ys with|some d=>some (c.and d)|none=>none)|none=>none)=some r at h
  split at h
  ·rename_i c hc
   split at h
   ·rename_i d hd
    cases h;have h1:=acI hx hy hc;have h2:=Qm hxs hys hd;show(match eq1 i c' d' with|none=>none|some c=>Bool.rec (some false) (GX l l1 l2) c)=_;rw[h1,LB.Wy];simp only;cases c.v with
    |true=>simp[h2]
    |false=>rfl
   ·cases h
  ·cases h
theorem akN(neg:Bool)(c:LB):(akt neg c).v=bif neg then !c.v else c.v:=by cases neg<;>cases c<;>rfl
theorem Qn{y:Sv}{d:AV}(hy:V E N y d)(h:V4 y=true):(∃ i o,d=.ref i o)∨ ∃ l,d=.qi l:=by
 cases hy<;>first|(cases h;done)|exact .inl ⟨_,_,rfl⟩|exact .inr ⟨_,rfl⟩
theorem acJ{f:BF}{x y v:Sv}{c d:AV}(hx:V E N x c)(hy:V E N y d)(h:(aku f x y).val=some v): ∃ r,f.f c d=some r/\V E N v r:=by
 unfold aku at h;split at h
 ·split at h
  ·rename_i hr;cases h;cases hx;cases hy;exact⟨_,hr,.i⟩
  ·rename_i hr;cases h;cases hx;cases hy;exact⟨_,hr,.b⟩
  ·cases h
 ·split at h
  ·rename_i k a k' b h1 h2
   rw[oA hx h1,oA hy h2];split at h
   ·rename_i g hg
    cases hk:qf k k' with
    |false=>rw[hk]at h;cases h
    |true=>
     rw[hk]at h;cases h;have:=l8.1 hk;subst this;exact⟨_,asm hg k a b,m0⟩
   ·rename_i g hg
    cases hk:qf k k' with
    |false=>rw[hk]at h;cases h
    |true=>
     rw[hk]at h;have:=l8.1 hk;subst this;simp only[cond_true]at h;have key: ¬ b=0/\v=.c 0 (.int k) (g k a b):=by
      cases hl:V3 y with
      |true=>
       rw[hl]at h;simp only[cond_true]at h;cases hz:eqI b 0 with
       |true=>rw[hz]at h;cases h
       |false=>rw[hz]at h;cases h;exact⟨(fun q=>by rw[nu.2 q]at hz;cases hz),rfl⟩
      |false=>
       rw[hl]at h;obtain⟨h1,h2⟩:=T.cw h;cases h2;exact⟨by simpa using h1,rfl⟩
     rw[key.2];exact⟨_,asn hg k a b key.1,m0⟩
   ·rename_i g hg
    have key:0<=b/\v=.c 0 (.int k) (g k a b):=by
     cases hl:V3 y with
     |true=>
      rw[hl]at h;simp only[cond_true]at h;cases hz:sB b 0 with
      |true=>rw[hz]at h;cases h
      |false=>rw[hz]at h;cases h;exact⟨abP.1 hz,rfl⟩
     |false=>
      rw[hl]at h;obtain⟨h1,h2⟩:=T.cw h;cases h2;exact⟨by simpa using h1,rfl⟩
    rw[key.2];exact⟨_,aso hg k k' a b key.1,m0⟩
   ·rename_i g hg
    cases hk:qf k k' with
    |false=>rw[hk]at h;cases h
    |true=>
     rw[hk]at h;cases h;have:=l8.1 hk;subst this;exact⟨_,asp hg k a b,s5⟩
   ·cases h
  ·cases h
theorem akO{f:BF}{x y v:Sv}{c d:AV}(hx:V E N x c)(hy:V E N y d)(h:(sBn f x y).val=some v): ∃ r,f.f c d=some r/\V E N v r:=by
 cases f with
 |eqB neg=>
  simp only[sBn]at h;split at h
  ·rename_i h1 h2;cases h;rw[oS hx h1,oS hy h2];exact⟨_,rfl,.b⟩
  ·rename_i h1 h2;cases h;rw[oS hx h1,oS hy h2];cases neg<;>exact⟨_,rfl,s5⟩
  ·cases h
 |eqS neg=>
  simp only[sBn]at h;split at h
  ·rename_i h1 h2;cases h;rw[xB hx h1,xB hy h2];exact⟨_,rfl,.b⟩
  ·rename_i h1 h2;cases h;rw[xB hx h1,xB hy h2];cases neg<;>exact⟨_,rfl,s5⟩
  ·cases h
 |eqP neg=>
  simp only[sBn]at h;split at h
  ·cases h;cases hx;cases hy;exact⟨_,rfl,.b⟩
  ·cases hp:V4 y with
   |false=>rw[hp]at h;cases h
   |true=>
    rw[hp]at h;cases h;cases hx
    rcases Qn hy hp with⟨_,_,rfl⟩|⟨_,rfl⟩<;>exact⟨_,rfl,.b⟩
  ·cases hp:V4 x with
   |false=>rw[hp]at h;cases h
   |true=>
    rw[hp]at h;cases h;cases hy
    rcases Qn hx hp with⟨_,_,rfl⟩|⟨_,rfl⟩<;>exact⟨_,rfl,.b⟩
  ·cases h
 |eqN neg=>
  simp only[sBn]at h;split at h
  ·rename_i v' w
   cases hn:isNil w with
   |false=>rw[hn]at h;cases h
   |true=>
    rw[hn]at h;simp only[cond_true]at h;split at h
    ·rename_i b hb
     cases h;cases hx;cases hy;refine⟨.bool (bif neg then !b else b),?_,.b⟩;show(bif isNil _ then Option.rec none (fun b=>some (.bool (bif neg then !b else b))) (IF _)else none:Option AV)=_;rw[hn,hb];rfl
    ·cases h
  ·rename_i w
   cases hn:isNil w with
   |false=>rw[hn]at h;cases h
   |true=>
    rw[hn]at h;cases h;cases hx;cases hy;refine⟨.bool neg,?_,.b⟩;simp only[BF.f,EM,hn,cond_true];cases neg<;>rfl
  ·rename_i t x w
   cases hn:isNil w with
   |false=>rw[hn]at h;cases h
   |true=>
    rw[hn]at h;obtain⟨hl,h⟩:=Lf.T.cw h;cases h;cases hy;refine⟨.bool neg,?_,.b⟩;simp only[BF.f,EM,hn,cond_true];cases hx with
    |c k _=>
     obtain⟨a,ea,k⟩:=k;cases ea
     have hx0: ¬ x.length=0:=fun e=>by rw[e]at hl;cases hl
     rcases k with⟨_,k⟩|⟨ls,_,k|⟨id,base,row,k,_⟩⟩
     ·subst k;exact(hx0 rfl).elim
     ·subst k
      have hb:Nat.beq x.length 0=false:=by revert hl;cases Nat.beq x.length 0<;>simp
      simp only[IF,isNil,cond_false,hb];cases neg<;>rfl
     ·subst k;simp only[IF,isNil,cond_false];cases neg<;>rfl
  ·cases h
 |uE neg l=>
  simp only[sBn]at h;split at h
  ·rename_i xs ys
   split at h
   ·rename_i r hr
    cases h;cases hx with
    |ag hx=>cases hy with
     |ag hy=>
      refine⟨.bool (bif neg then !r.v else r.v),?_,by have:=akJ (E:=E) (N:=N) (c:=akt neg r);rw[akN]at this;exact this⟩;show(match GX l _ _ with|some c=>some (AV.bool (bif neg then !c else c))|none=>none)=_;rw[Qm hx hy hr]
   ·cases h
  ·cases h
 | _=>exact acJ hx hy h
theorem acK{f:UF}{x v:Sv}{c:AV}(hx:V E N x c)(h:akw f x=some v): ∃ r,f.f c=some r/\V E N v r:=by
 unfold akw at h;split at h
 ·split at h
  ·rename_i h1;cases h;rw[oS hx h1];exact⟨_,rfl,.b⟩
  ·rename_i h1;cases h;rw[oS hx h1];exact⟨_,rfl,s5⟩
  ·cases h
 ·split at h
  ·cases h;cases hx;exact⟨_,rfl,.i⟩
  ·cases h;rw[oA hx rfl];exact⟨_,rfl,m0⟩
  ·cases h
 ·split at h
  ·cases h;cases hx;exact⟨_,rfl,.i⟩
  ·cases h;rw[oA hx rfl];exact⟨_,rfl,m0⟩
  ·cases h
 ·split at h
  ·cases h;cases hx;exact⟨_,rfl,.i⟩
  ·cases h;rw[oA hx rfl];exact⟨_,rfl,m0⟩
  ·cases h
end
theorem acL(f:BF)(a b:Od):lV (acu f a b) (fun _ _=>xF f.f (cY a) (cY b)):=ke (by
 intro E T t H h v T' H' hT hH e;unfold acu at e;split at e
 ·rename_i x hx
  split at e
  ·rename_i y hy
   obtain⟨w,e1,e2⟩:=Lf.T.kj e;obtain⟨rfl,rfl,rfl⟩:=cE e2;obtain⟨c,hc,nd⟩:=cU hT hx;obtain⟨d,hd,hdv⟩:=cU hT hy;obtain⟨r,hr,Vu⟩:=akO nd hdv e1;refine⟨rfl,rfl,r,?_,Vu⟩;show(Option.rec Go.Ab.Ro.bad (fun a'=>Option.rec Go.Ab.Ro.bad (fun b'=>Option.rec Go.Ab.Ro.bad (fun v=>Go.Ab.Ro.ok v h) (f.f a' b')) (cY b t)) (cY a t):Go.Ab.Ro)=_;rw[hc,hd];simp only[hr]
  ·cases e
 ·cases e)
theorem akP(f:UF)(a:Od):lV (sUn f a) (fun _ _=>KV f.f (cY a)):=ke (by
 intro E T t H h v T' H' hT hH e;unfold sUn at e;split at e
 ·rename_i x hx
  obtain⟨e1,rfl,rfl⟩:=tW e;obtain⟨c,hc,nd⟩:=cU hT hx;obtain⟨r,hr,Vu⟩:=acK nd e1;refine⟨rfl,rfl,r,?_,Vu⟩;show(Option.rec Go.Ab.Ro.bad (fun a'=>Option.rec Go.Ab.Ro.bad (fun v=>Go.Ab.Ro.ok v h) (f.f a')) (cY a t):Go.Ab.Ro)=_;rw[hc];simp only[hr]
 ·cases e)
theorem Wz(a:Od):lV (Qg a) (fun _ _=>xu (cY a)):=ke (by
 intro E T t H h v T' H' hT hH e;unfold Qg at e;split at e
 ·rename_i x hx
  obtain⟨c,hc,nd⟩:=cU hT hx;split at e
  ·rename_i s hs
   obtain⟨rfl,rfl,rfl⟩:=cE e;have:=xB nd hs;subst this;exact⟨rfl,rfl,_,by unfold xu;rw[hc],.i⟩
  ·rename_i s hs
   obtain⟨rfl,rfl,rfl⟩:=cE e;have:=xB nd hs;subst this;exact⟨rfl,rfl,_,by unfold xu;rw[hc],m0⟩
  ·cases e
 ·cases e)
theorem acM(a b:Od){t:Tm}{h:Hp}{k:IntKind}{m n:Int}(h1:cY a t=some (.int k m))(h2:cY b t=some (.int k n)):G2 (cY a) (cY b) t h=.ok (.int k (bif sB n m then n else m)) h:=by
 unfold G2 xF;rw[h1,h2];have q:=nS (f:=fun k a b=>some (.int k (bif sB b a then b else a))) k m n;simp only[lz q]
theorem acN(a b:Od){t:Tm}{h:Hp}{k:IntKind}{m n:Int}(h1:cY a t=some (.int k m))(h2:cY b t=some (.int k n)):G3 (cY a) (cY b) t h=.ok (.int k (bif sB m n then n else m)) h:=by
 unfold G3 xF;rw[h1,h2];have q:=nS (f:=fun k a b=>some (.int k (bif sB a b then b else a))) k m n;simp only[lz q]
theorem asq(m n:Int):(bif sB n m then n else m)=min m n:=by
 rw[pL];by_cases q:n<m
 ·simp only[decide_eq_true q,cond_true];omega
 ·simp only[decide_eq_false q,cond_false];omega
theorem asr(m n:Int):(bif sB m n then n else m)=max m n:=by
 rw[pL];by_cases q:m<n
 ·simp only[decide_eq_true q,cond_true];omega
 ·simp only[decide_eq_false q,cond_false];omega
theorem Qo{mx:Bool}{a b:Od}{E:En}{T T':Tq}{t:Tm}{H H':Hq}{v:Sv}(hT:TV E H.next T t)(e:(Om mx a b T H).val=some (v,T',H')):
 H'=H/\T'=T/\ ∃ k m n,cY a t=some (.int k m)/\cY b t=some (.int k n)/\V E H.next v (.int k (bif mx then(bif sB m n then n else m)else(bif sB n m then n else m))):=by
 unfold Om at e;split at e
 ·rename_i x hx
  split at e
  ·rename_i y hy
   obtain⟨c,hc,nd⟩:=cU hT hx;obtain⟨d,hd,hdv⟩:=cU hT hy;split at e
   ·rename_i k m k' n
    cases hk:qf k k' with
    |false=>rw[hk]at e;cases e
    |true=>
     rw[hk]at e;obtain⟨rfl,rfl,rfl⟩:=cE e;have:=l8.1 hk;subst this;cases nd;cases hdv;exact⟨rfl,rfl,k,m,n,hc,hd,.i⟩
   ·split at e
    ·rename_i k m k' n h1 h2
     cases hk:qf k k' with
     |false=>rw[hk]at e;cases e
     |true=>
      rw[hk]at e;obtain⟨rfl,rfl,rfl⟩:=cE e;have:=l8.1 hk;subst this;rw[oA nd h1]at hc;rw[oA hdv h2]at hd;refine⟨rfl,rfl,k,m,n,hc,hd,?_⟩;cases mx with
      |true=>simp only[cond_true,asr];exact m0
      |false=>simp only[cond_false,asq];exact m0
    ·cases e
  ·cases e
 ·cases e
theorem acO(a b:Od):lV (Om false a b) (fun _ _=>G2 (cY a) (cY b)):=ke (by
 intro E T t H h v T' H' hT hH e;obtain⟨rfl,rfl,k,m,n,h1,h2,hv⟩:=Qo hT e
 exact⟨rfl,rfl,_,acM a b h1 h2,hv⟩)
theorem acP(a b:Od):lV (Om true a b) (fun _ _=>G3 (cY a) (cY b)):=ke (by
 intro E T t H h v T' H' hT hH e;obtain⟨rfl,rfl,k,m,n,h1,h2,hv⟩:=Qo hT e
 exact⟨rfl,rfl,_,acN a b h1 h2,hv⟩)
end Lf
end Go.Ab
noncomputable section
namespace Go.Ab
namespace Lf
theorem LY{agg:Bool}{row:Rw}{b k o sz:Nat}{L:List AV}{c:AV}(s:row.sQ b k=some L)(wH:0<sz)(h:part agg L o sz=some c):zA agg row (b+o) sz=some c:=by
 unfold part at h;split at h
 ·cases h
 ·rename_i q hq
  obtain⟨rfl,hl⟩:=sU hq;obtain⟨s1,s2⟩:=lM.1 s
  have hL:L.length=k:=by rw[s2,List.length_take,List.length_drop,lI];omega
  have hb:o+sz<=k:=by rw[List.length_take,List.length_drop]at hl;omega
  unfold zA;rw[vt s hb];exact h
theorem WA{agg:Bool}{l r:List AV}{sz:Nat}{c:AV}(h:part agg l 0 sz=some c):part agg (l++r) 0 sz=some c:=by
 unfold part at h;split at h
 ·cases h
 ·rename_i q hq
  obtain⟨rfl,hl⟩:=sU hq;rw[List.drop_zero]at h hl;have:List.take sz (l++r)=List.take sz l:=List.take_append_of_le_length (by rw[List.length_take]at hl;omega);unfold part;rw[Al (by rw[List.drop_zero,this,hl]),List.drop_zero,this];exact h
theorem CW{E:En}{H:Hq}{h:Hp}(S:SR E H h){r:Nat}{l:List Sv}(e:FI H r=some l): ∃ id row,(E.K r).av=.ref id 0/\h.cz.get id=some row/\Vs E H.next l row.toL:=by
 unfold FI at e;split at e
 ·rename_i hr;cases e
  obtain⟨id,row,a,b,c,_⟩:=(S.row _ _ hr).2;exact⟨id,row,a,b,c⟩
 ·rename_i hr;cases e
  obtain⟨id,row,a,b,c⟩:=(S.row _ _ hr).2;exact⟨id,row,a,(S.g _ _ b).2.1,c⟩
 ·cases e
theorem BK{E:En}{N:Nat}{t:Ty}{x:List (den t)}{base i:Nat}{row:Rw}{ls:List AV}(hi:i<x.length)(s:row.sQ base (x.length*size t)=some ls)(e:rQ (EV E.G t) x ls):
 EV E.G t (x.getD i (cr t)) ((ls.drop (i*size t)).take (size t))/\Vs E N (vp t (x.getD i (cr t))) ((ls.drop (i*size t)).take (size t))/\row.sQ (base+i*size t) (size t)=some ((ls.drop (i*size t)).take (size t)):=by
 have h1:=e.get (EV.length t) hi (cr t);refine⟨h1,yP rfl t _ _ h1,vt s ?_⟩;have:=Nat.mul_le_mul_right (size t) (Nat.succ_le_of_lt hi);rw[Nat.succ_mul]at this;exact this
theorem WB{E:En}{H:Hq}{h:Hp}(S:SR E H h){r sz i id base n:Nat}{l:List Sv}(e:V5 H r sz i=some l)(hk:(E.K r).av=.my id base n sz)(hi:i<n):
 ∃ row L,h.cz.get id=some row/\Vs E H.next l L/\row.sQ (base+i*sz) sz=some L:=by
 have key: ∀ {t:Ty} {x:List (den t)} {S':Nat->Option Rw},(∀ row,S' id=some row->h.cz.get id=some row)->LR E.G t x (E.K r) S'->(bif Nat.beq sz (size t)then some (vp t (x.getD i (cr t)))else none)=some l-> ∃ row L,h.cz.get id=some row/\Vs E H.next l L/\row.sQ (base+i*sz) sz=some L:=by
  intro t x S' hs q e;obtain⟨hb,e⟩:=jI e;cases e;have hz:=beq_true hb
  rcases q.2 with⟨k,_⟩|⟨Eg,Ws,row,ls,k1,k2,k3,k4⟩
  ·rw[hk]at k;cases k
  ·rw[hk]at k1;injection k1 with a1 a2 a3 a4;subst a1;subst a2;rw[<-q.1]at a3 k3;rw[a3]at hi;obtain⟨_,e2,e3⟩:=BK (N:=H.next) hi k3 k4;exact⟨row,_,hs _ k2,e2,by rw[hz];exact e3⟩
 unfold V5 at e;split at e
 ·rename_i t x hr;exact key (fun _ e=>e) (S.row _ _ hr).2 e
 ·rename_i t x hr;exact key (fun _ e=>(S.g _ _ e).2.1) (S.row _ _ hr).2 e
 ·cases e
theorem FR{E:En}{H:Hq}{h:Hp}(S:SR E H h){sz:Nat}{agg:Bool}{p v:Sv}{a:AV}(hv:V E H.next p a)(e:HX sz agg p H=some v): ∃ c,ET h sz agg a=some c/\V E H.next v c:=by
 unfold HX at e;have wH:=jn.1 (jI e).1
 replace e:=(jI e).2
 split at e
 ·rename_i r o
  split at e
  ·rename_i l hl
   obtain⟨id,row,k1,k2,k3⟩:=CW S hl;cases hv with
   |rf h1 h2=>
    rw[k1]at h2;cases h2;obtain⟨c,c1,c2⟩:=vW k3 e;refine⟨c,?_,c2⟩;show(match h.cz.get id with|some cs=>zA agg cs o sz|none=>none)=_;rw[k2];exact Wk wH c1
  ·cases e
 ·rename_i r s i o
  split at e
  ·rename_i l hl
   cases hv with
   |re h1 h2 h3=>
    rename_i id base n
    obtain⟨row,L,k1,k2,k3⟩:=WB S hl h2 h3;obtain⟨c,c1,c2⟩:=vW k2 e;refine⟨c,?_,c2⟩;show(match h.cz.get id with|some cs=>zA agg cs (base+i*s+o) sz|none=>none)=_;rw[k1];exact LY k3 wH c1
  ·cases e
 ·cases hv with
  |zp k=>
   obtain⟨c,c1,c2⟩:=vW k e;exact⟨c,WA c1,c2⟩
  |zr k g s=>
   rename_i l' id off row
   obtain⟨c,c1,c2⟩:=vW k e;refine⟨c,?_,c2⟩;show(match h.cz.get id with|some cs=>zA agg cs off sz|none=>none)=_;rw[(S.g _ _ g).2.1];have:=LY s wH c1;exact this
 ·cases e
theorem WC(sz:Nat)(agg:Bool)(a:Od):lV (Qe sz agg a) (fun _ _=>r7 sz agg (cY a)):=ke (by
 intro E T t H h v T' H' hT hH e;unfold Qe at e;split at e
 ·rename_i p hp
  obtain⟨e1,rfl,rfl⟩:=tW e;obtain⟨c,hc,nd⟩:=cU hT hp;obtain⟨r,h1,h2⟩:=FR hH nd e1;refine⟨rfl,rfl,r,?_,h2⟩;unfold r7;rw[hc];simp only[h1]
 ·cases e)
theorem Js{E:En}{H:Hq}{h:Hp}(S:SR E H h){r id:Nat}{R R':Row}{acQ:Rw}(hr:H.cz.get r=some R)(lv:R.live=true)(lv':R'.live=true)(qk:sI (E.K r).av=some id)
 (hR:RV E H.next (qj h id (some acQ)) (E.K r) R'):SR E (qa H r (some R')) (qj h id (some acQ))/\Nx E E H (qa H r (some R')) h (qj h id (some acQ)):=by
 have ow: ∀ q,own (qa H r (some R')) q->own H q:=by
  rintro q ⟨Q,a,b⟩;rw[mE]at a;split at a
  ·rename_i e;rw[e];exact⟨R,hr,lv⟩
  ·exact⟨Q,a,b⟩
 refine⟨⟨?_,?_,?_,?_⟩,⟨Et.refl _ _,Nat.le_refl _,Nat.le_refl _,fun q id o e=>.inl ⟨q,ow q o,e⟩,fun _ _ e=>.inl e,fun i hi hn=>?_⟩⟩
 ·intro q Q hq;rw[mE]at hq;split at hq
  ·rename_i e;subst e;cases hq;exact⟨(S.row _ _ hr).1,hR⟩
  ·rename_i ne
   refine⟨(S.row _ _ hq).1,(S.row _ _ hq).2.mono (Et.refl _ _) (Nat.le_refl _) fun lq i row e1 e2=>?_⟩;rw[qy,if_neg fun ei=>ne (S.inj q r id ⟨Q,hq,lq⟩ ⟨R,hr,lv⟩ (by rw[e1,ei]) qk)];exact e2
 ·exact fun a b i oa ob ea eb=>S.inj a b i (ow a oa) (ow b ob) ea eb
 ·exact fun a i oa ea=>S.lt a i (ow a oa) ea
 ·intro i row e;obtain⟨a,b,c⟩:=S.g i row e;refine⟨a,?_,fun q oq=>c q (ow q oq)⟩;rw[qy,if_neg fun ei=>c r ⟨R,hr,lv⟩ (by rw[ei];exact qk)];exact b
 ·rw[qy,if_neg fun ei=>hn r ⟨R,hr,lv⟩ (by rw[ei];exact qk)]
theorem Eu(L B v:List AV)(o:Nat)(h:o+v.length<=L.length): ∀ (A:List AV),put (A++(L++B)) (A.length+o) v=A++(put L o v++B)
 | []=>by
  simp only[List.nil_append,List.length_nil,Nat.zero_add];rw[put_eq,put_eq,List.take_append_of_le_length (by omega),List.drop_append_of_le_length h];simp
 |a::A=>by
  have:=Eu L B v o h A;rw[put_eq]at this ⊢;rw[List.length_cons,show A.length+1+o=A.length+o+1 by omega,List.cons_append,List.take_succ_cons,show A.length+o+1+v.length=A.length+o+v.length+1 by omega,List.drop_succ_cons,List.cons_append,this];rfl
theorem Ew(l:List AV)(o:Nat)(v:List AV)(h:o+v.length<=l.length):(put l o v).length=l.length:=by
 rw[put_eq,List.length_append,List.length_append,List.length_take,List.length_drop];omega
theorem Sz{G:Nat->Option Rw}{t:Ty}{x:List (den t)}{ls:List AV}(e:rQ (EV G t) x ls){i:Nat}(hi:i<x.length):ls=ls.take (i*size t)++((ls.drop (i*size t)).take (size t)++ls.drop (i*size t+size t)):=by
 rw[<-List.drop_drop,List.take_append_drop,List.take_append_drop]
theorem acR{G:Nat->Option Rw}{t:Ty}{x:List (den t)}{ls:List AV}(e:rQ (EV G t) x ls){i:Nat}(hi:i<x.length){y:den t}{c:List AV}(hy:EV G t y c):rQ (EV G t) (x.set i y) (ls.take (i*size t)++(c++ls.drop (i*size t+size t))):=by
 rw[List.set_eq_take_append_cons_drop,if_pos hi];have h1:=e.take (EV.length t) i;have h2:=e.drop (EV.length t) (i+1);rw[Nat.succ_mul]at h2;exact h1.app ⟨c,_,rfl,hy,h2⟩
theorem SA(sz:Nat)(a b:Od):lV (Oj sz a b) (fun _ _=>tH sz (cY a) (cY b)):=by
 intro E T t H h v T' H' hT hH e;unfold Oj at e;split at e
 ·rename_i w hw
  cases hb:(Nat.beq (len w.cells) sz&&jC LL w.cells)with
  |false=>rw[hb]at e;cases e
  |true=>
   rw[hb]at e;simp only[cond_true]at e;rw[Bool.and_eq_true]at hb;obtain⟨d,hd,hdv⟩:=cU hT hw;have vL:=hdv.cells;have hlen:d.cells.length=w.cells.length:=vL.length.symm
   have wH:w.cells.length=sz:=by have:=beq_true hb.1;rwa [jH]at this
   have Ow:jC kN d.cells=true:=by
    rw[ou,List.all_eq_true]
    refine vL.NK fun q hq=>?_
    have:=hb.2;rw[ou,List.all_eq_true]at this;exact this q hq
   have Ek: ∀ {id off:Nat} {row:Rw},cY a t=some (.ref id off)->h.cz.get id=some row->off+sz<=row.n->tH sz (cY a) (cY b) t h=.ok n7 (qj h id (some (row.put off d.cells))):=by
    intro id off row h1 h2 h3;unfold tH;rw[h1,hd];simp only[h2];have q:(Nat.beq (len d.cells) sz&&(Nat.ble (Nat.add off (len d.cells)) row.n&&jC kN d.cells))=true:=by
     rw[jH,hlen,wH,Ow,Nat.beq_refl,Bool.and_true,Bool.true_and];rw[Nat.ble_eq];exact h3
    rw[q];rfl
   split at e
   ·rename_i r o ha
    obtain⟨p,hp,rJ⟩:=cU hT ha;split at e
    ·rename_i l hr
     cases hq:Nat.ble (Nat.add o (len w.cells)) (len l)with
     |false=>rw[hq]at e;cases e
     |true=>
      rw[hq]at e;obtain⟨rfl,rfl,rfl⟩:=cE e;have hq:=Nat.le_of_ble_eq_true hq;rw[jH,jH]at hq;obtain⟨id,row,k1,k2,k3,k4⟩:=(hH.row _ _ hr).2;cases rJ with
      |rf h1 h2=>
       rw[k1]at h2;cases h2
       have hn:o+sz<=row.n:=by rw[<-lI,<-k3.length,<-wH];exact hq
       have hR:RV E H.next (qj h id (some (row.put o d.cells))) (E.K r) (.o _ (sZ l o w.cells)):=
        ⟨id,row.put o d.cells,k1,by rw[qy,if_pos rfl],by rw[Be (by rw[hlen,wH];exact hn)];exact k3.put vL o,k4⟩
       obtain⟨S,X⟩:=Js hH hr rfl rfl (by rw[k1];rfl) hR;exact⟨_,_,E,Ev.const (Ek hp k2 hn),X,S,.tu .nil,hT⟩
    ·cases e
   ·rename_i r s i o ha
    obtain⟨p,hp,rJ⟩:=cU hT ha;split at e
    ·rename_i ty x hr
     cases hq:(Nat.beq s (size ty)&&Nat.ble (Nat.add o (len w.cells)) s)with
     |false=>rw[hq]at e;cases e
     |true=>
      rw[hq]at e;simp only[cond_true]at e;rw[Bool.and_eq_true]at hq;have hs:s=size ty:=beq_true hq.1;have hos:=Nat.le_of_ble_eq_true hq.2;rw[jH]at hos;split at e
      ·rename_i y H1 hy
       split at e
       ·rename_i t2 x2 hr2
        obtain⟨rfl,rfl,rfl⟩:=cE e;cases rJ with
        |re h1 h2 h3=>
         rename_i id base n
         have q:=(hH.row _ _ hr).2
         rcases q.2 with⟨k,_⟩|⟨Eg,Ws,row,ls,k1,k2,k3,k4⟩
         ·rw[h2]at k;cases k
         ·rw[h2]at k1;injection k1 with a1 a2 a3 a4;subst a1;subst a2;rw[<-q.1]at a3 k3;rw[a3]at h3;obtain⟨_,e2,e3⟩:=BK (N:=H.next) h3 k3 k4;obtain⟨E1,c,dd,F,hcd,hey,ayW⟩:=Am ty E H h _ [] _ y H1 hH (e2.put vL o) hy
          have hdd:dd=[]:=by cases ayW;rfl
          rw[hdd,List.append_nil]at hcd;have hr1:H1.cz.get r=some (.l t2 x2):=hr2;have q2:=(F.S.row _ _ hr1).2
          have hKr:(E1.K r).av=.my id base n s:=by rw[F.K];exact h2
          have hL:((ls.drop (i*size ty)).take (size ty)).length=size ty:=(BK (N:=H.next) h3 k3 k4).1 |> EV.length ty _ _
          have aFQ:ls.length=x.length*size ty:=k4.length (EV.length ty);have hle:i*size ty+size ty<=x.length*size ty:=by
           have:=Nat.mul_le_mul_right (size ty) (Nat.succ_le_of_lt h3);rw[Nat.succ_mul]at this;exact this
          obtain⟨s1,s2⟩:=lM.1 k3
          have hn:base+i*s+o+sz<=row.n:=by rw[hs];rw[wH,hs]at hos;have e0:o+sz<=size ty:=hos;omega
          have ayX:(row.put (base+i*s+o) d.cells).sQ base (x.length*size ty)=some (ls.take (i*size ty)++(c++ls.drop (i*size ty+size ty))):=by
           have hn':base+i*s+o+d.cells.length<=row.n:=by rw[hlen,wH];exact hn
           refine lM.2 ⟨by show base+_<=row.n;exact s1,?_⟩;rw[Be hn',<-hcd];have Ad:row.toL=row.toL.take base++(ls++row.toL.drop (base+x.length*size ty)):=by
            rw[s2,<-List.drop_drop,List.take_append_drop,List.take_append_drop]
           have NS:(row.toL.take base).length=base:=by rw[List.length_take,lI];omega
           have hls:=Sz k4 h3
           have hA:(ls.take (i*size ty)).length=i*size ty:=by rw[List.length_take];omega
           have hod:o+d.cells.length<=size ty:=by rw[hlen,<-hs];exact hos
           have e1:put row.toL (base+i*s+o) d.cells=row.toL.take base++(put ls (i*size ty+o) d.cells++row.toL.drop (base+x.length*size ty)):=by
            have:=Eu ls (row.toL.drop (base+x.length*size ty)) d.cells (i*size ty+o) (by omega) (row.toL.take base);rw[<-Ad,NS]at this;rw[hs,Nat.add_assoc];exact this
           have e2:put ls (i*size ty+o) d.cells=ls.take (i*size ty)++(put ((ls.drop (i*size ty)).take (size ty)) o d.cells++ls.drop (i*size ty+size ty)):=by
            have:=Eu ((ls.drop (i*size ty)).take (size ty)) (ls.drop (i*size ty+size ty)) d.cells o (by rw[hL];exact hod) (ls.take (i*size ty));rw[<-hls,hA]at this;exact this
           rw[e1,List.drop_append_of_le_length (by rw[NS];exact Nat.le_refl _)];rw[show List.drop base (row.toL.take base)=[]from by rw[List.drop_eq_nil_iff,NS];exact Nat.le_refl _,List.nil_append];rw[List.take_append_of_le_length (by rw[Ew _ _ _ (by omega)];omega)];rw[show List.take (x.length*size ty) (put ls (i*size ty+o) d.cells)=put ls (i*size ty+o) d.cells from by rw[List.take_of_length_le];rw[Ew _ _ _ (by omega)];omega];exact e2.symm
          have hR:RV E1 H1.next (qj h id (some (row.put (base+i*s+o) d.cells))) (E1.K r) (.l ty (x.set i y)):=by
           refine⟨by rw[List.length_set,F.K];exact q.1,.inr ⟨id,base,row.put (base+i*s+o) d.cells,_,?_,by rw[qy,if_pos rfl],?_,acR (k4.mono (EV.mono F.g ty)) h3 hey⟩⟩
           ·rw[hKr,F.K,<-q.1,hs,a3]
           ·rw[F.K,<-q.1];exact ayX
          obtain⟨S,X⟩:=Js F.S hr1 rfl rfl (by rw[hKr];rfl) hR;exact⟨_,_,E1,Ev.const (Ek hp k2 hn),F.X.trans X,S,.tu .nil,hT.mono (F.X.trans X).e (F.X.trans X).le⟩
       ·cases e
      ·cases e
    ·cases e
   ·cases e
 ·cases e
end Lf
end Go.Ab
noncomputable section
namespace Go.Ab
namespace Lf
theorem nZ{i n:Int}:jA i n=true↔0<=i/\i<n:=by unfold jA;simp
theorem acS(size:Nat)(a i:Od):lV (acv size a i) (fun _ _=>A' size (cY a) (cY i)):=ke (by
 intro E T t H h v T' H' hT hH e;unfold acv at e;split at e
 ·rename_i iv hiv
  split at e
  ·rename_i k n hn
   obtain⟨c,hc,nd⟩:=cU hT hiv;have:=oA nd hn;subst this;have kH: ∀ {id off m sz:Nat} {j:Nat},n=(j:Int)->cY a t=some (.my id off m sz)->j<m->sz=size->A' size (cY a) (cY i) t h=.ok (.ref id (off+j*size)) h:=by
    intro id off m sz j hj h1 h2 h3;subst hj;unfold A';rw[hc];show(match cY a t with
     |some (.my id off n sz)=>bif Nat.blt j n&&Nat.beq sz size then Go.Ab.Ro.ok (.ref id (Nat.add off (Nat.mul j size))) h else .bad
     |some (.vG n cs)=>bif Nat.blt j n then .ok (.qi (dp (Nat.mul j size) cs)) h else .bad
     | _=>.bad)=_
    rw[h1];simp only[jn.2 h2,h3,Nat.beq_refl];rfl
   have conv: ∀ {m:Nat},jA n (Int.ofNat m)=true-> ∃ j:Nat,n=(j:Int)/\n.toNat=j/\j<m:=by
    intro m q;obtain⟨q1,q2⟩:=nZ.1 q;exact⟨n.toNat,by omega,rfl,by have:(Int.ofNat m)=(m:Int):=rfl;omega⟩
   split at e
   ·rename_i r s ha
    obtain⟨p,hp,rJ⟩:=cU hT ha;have key: ∀ {t':Ty} {x:List (den t')} {S':Nat->Option Rw},LR E.G t' x (E.K r) S'->(bif Nat.beq s size then Lf.T.ck (jA n (Int.ofNat x.length)) (okV (.re r s n.toNat 0) T H)else Lf.T.bad).val=some (v,T',H')->H'=H/\T'=T/\ ∃ c,A' size (cY a) (cY i) t h=.ok c h/\V E H.next v c:=by
     intro t' x S' q e;cases hs:Nat.beq s size with
     |false=>rw[hs]at e;cases e
     |true=>
      rw[hs]at e;have hs:=beq_true hs;obtain⟨q1,e⟩:=Lf.T.cw e;obtain⟨rfl,rfl,rfl⟩:=cE e
      obtain⟨j,hj,PL,nM⟩:=conv q1
      have q2:=LX rJ q;cases rJ with
      |os h1 h2=>
       rcases h2 with⟨h2,h3⟩|⟨id,base,h2⟩
       ·rw[q.1,h3]at nM;omega
       ·rw[h2]at hp;rw[q.1]at nM;refine⟨rfl,rfl,_,kH hj hp nM hs,?_⟩;rw[PL];have:=V.re (i:=j) (o:=0) h1 h2 nM;rw[Nat.add_zero,hs]at this;rw[hs];exact this
    split at e
    ·rename_i t' x hr;exact key (hH.row _ _ hr).2 e
    ·rename_i t' x hr;exact key (hH.row _ _ hr).2 e
    ·cases e
   ·rename_i r s off m ha
    obtain⟨p,hp,rJ⟩:=cU hT ha;cases hs:Nat.beq s size with
    |false=>rw[hs]at e;cases e
    |true=>
     rw[hs]at e;have hs:=beq_true hs;obtain⟨q1,e⟩:=Lf.T.cw e;obtain⟨rfl,rfl,rfl⟩:=cE e
     obtain⟨j,hj,PL,nM⟩:=conv q1
     cases rJ with
     |se _ _ _ _=>omega
     |ss h1 h2 h3=>
      rename_i id base
      refine⟨rfl,rfl,_,kH hj hp nM hs,?_⟩;rw[PL];have:=V.re (i:=off+j) (o:=0) h1 h2 (by omega);rw[Nat.add_zero,Nat.add_mul,<-Nat.add_assoc,hs]at this;rw[hs];exact this
   ·rename_i r s off m ha
    obtain⟨p,hp,rJ⟩:=cU hT ha;split at e
    ·rename_i k0 j
     cases hs:(Nat.beq s size&&Nat.blt j m)with
     |false=>rw[hs]at e;cases e
     |true=>
      rw[hs]at e;rw[Bool.and_eq_true]at hs;obtain⟨rfl,rfl,rfl⟩:=cE e;cases hn;cases rJ with
      |xo h1 h2=>
       have G7:=beq_true hs.1;refine⟨rfl,rfl,_,kH rfl hp (jn.1 hs.2) G7,?_⟩;have:=V.rf (o:=off+j*s) h1 h2;rw[G7]at this;rw[G7];exact this
    ·cases hs:Nat.beq s size with
     |false=>rw[hs]at e;cases e
     |true=>
      rw[hs]at e;obtain⟨i0,hn0,nM,e⟩:=yO e;obtain⟨rfl,rfl,rfl⟩:=cE e;cases rJ with
      |xo h1 h2=>
       have G7:=beq_true hs;refine⟨rfl,rfl,_,kH hn0 hp (by omega) G7,?_⟩;have:=V.rf (o:=off+i0*s) h1 h2;rw[G7]at this;rw[G7];exact this
   ·rename_i m ty x ha
    obtain⟨p,hp,rJ⟩:=cU hT ha;cases hs:Nat.beq size (Lf.size ty)with
    |false=>rw[hs]at e;cases e
    |true=>
     rw[hs]at e;have hs:=beq_true hs;obtain⟨q1,e⟩:=Lf.T.cw e;obtain⟨rfl,rfl,rfl⟩:=cE e
     obtain⟨j,hj,PL,nM⟩:=conv q1
     rw[PL];cases rJ with
     |c k _=>
      obtain⟨b,hb,k⟩:=k;cases hb
      rcases k with⟨_,k⟩|⟨ls,k1,k2|⟨id,base,row,k2,k3,k4⟩⟩
      ·subst k;simp at nM
      ·subst k2;refine⟨rfl,rfl,.qi (ls.drop (j*size)),?_,?_⟩
       ·unfold A';rw[hc,hp,hj];show(bif Nat.blt j x.length then Go.Ab.Ro.ok (.qi (dp (Nat.mul j size) ls)) h else .bad)=_;rw[jn.2 nM,qP];rfl
       ·have h1:=k1.get (EV.length ty) nM (cr ty);have:=V.zp (r:=(ls.drop (j*size)).drop size) (yP (E:=E) (N:=H'.next) rfl ty _ _ h1);rw[hs,List.take_append_drop]at this;rw[hs];exact this
      ·subst k2;refine⟨rfl,rfl,_,kH hj hp nM hs.symm,?_⟩;obtain⟨_,e2,e3⟩:=BK (N:=H'.next) nM k4 k1;have hl:(vp ty (x.getD j (cr ty))).length=Lf.size ty:=by
        rw[e2.length,(BK (N:=H'.next) nM k4 k1).1 |> EV.length ty _ _]
       refine .zr e2 k3 ?_;rw[hl,hs];exact e3
   ·cases e
  ·cases e
 ·cases e)
theorem WD(n size:Nat)(a i:Od):lV (V7 n size a i) (fun _ _=>zi n size (cY a) (cY i)):=ke (by
 intro E T t H h v T' H' hT hH e;unfold V7 at e;split at e
 ·rename_i k j hiv
  obtain⟨c,hc,nd⟩:=cU hT hiv;cases nd;cases hj:Nat.blt j n with
  |false=>rw[hj]at e;cases e
  |true=>
   rw[hj]at e;simp only[cond_true]at e;have hk:zi n size (cY a) (cY i) t h=(match cY a t with
    |some (.ref id off)=>bif Nat.blt j n then Go.Ab.Ro.ok (.ref id (Nat.add off (Nat.mul j size))) h else .bad
    |some (.qi cs)=>bif Nat.blt j n then .ok (.qi (dp (Nat.mul j size) cs)) h else .bad
    | _=>.bad):=by unfold zi;rw[hc];rfl
   rw[hk,hj];split at e
   ·rename_i r o ha
    obtain⟨rfl,rfl,rfl⟩:=cE e;obtain⟨p,hp,rJ⟩:=cU hT ha;rw[hp];cases rJ with
    |rf h1 h2=>exact⟨rfl,rfl,_,rfl,.rf h1 h2⟩
   ·rename_i l ha
    obtain⟨p,hp,rJ⟩:=cU hT ha;rw[hp];cases hb:Nat.ble (Nat.mul j size) (len l)with
    |false=>rw[hb]at e;cases e
    |true=>
     rw[hb]at e;obtain⟨rfl,rfl,rfl⟩:=cE e
     have hle:j*size<=l.length:=by have:=Nat.le_of_ble_eq_true hb;rwa [jH]at this
     rw[qP];cases rJ with
     |zp k=>
      rename_i l' r
      refine⟨rfl,rfl,_,rfl,?_⟩;rw[qP,List.drop_append_of_le_length (by rw[<-k.length];exact hle)];exact .zp (k.drop _)
     |zr k g s=>
      rename_i l' id o row
      refine⟨rfl,rfl,_,rfl,?_⟩;refine .zr (k.drop _) g ?_;obtain⟨s1,s2⟩:=lM.1 s;rw[List.length_drop];refine lM.2 ⟨by have e1:Nat.add o (Nat.mul j size)=o+j*size:=rfl;have e2:Nat.mul j size=j*size:=rfl;omega,?_⟩;rw[s2,List.drop_take,List.drop_drop];rfl
   ·cases e
 ·cases e)
theorem CX{E:En}{N:Nat}{k:IntKind}: ∀ {l:List Sv} {l':List AV} {r:List Int},Vs E N l l'->Jk k l=some r->l'=r.map fun n=>.int k n
 | [],_,_,.nil,e=>by cases e;rfl
 |v::l,_,r,.cons hv h,e=>by
  change (match toN v with|some (k',n)=>(bif qf k k' then(match Jk k l with|some r=>some (n::r)|none=>none)else none)|none=>none)=some r at e
  split at e
  ·rename_i k' n hn
   obtain⟨hk,e⟩:=jI e;split at e
   ·rename_i r' hr
    cases e;have:=l8.1 hk;subst this;rw[oA hv hn,CX h hr];rfl
   ·cases e
  ·cases e
theorem akS{E E1:En}{T:Tq}{t:Tm}{H H1:Hq}{h:Hp}{n o:Nat}{x:Int}{l:List Sv}{id:Nat}{row:Rw}{v:Sv}{T':Tq}{H':Hq}(F:Fz E E1 H H1 h)(hT:TV E H.next T t)(hg:E1.G id=some row)(hl:Vs E1 H1.next l row.toL)(e:(ixZ n o x l T H1).val=some (v,T',H')):
 ∃ j:Nat,x=j/\j<n/\Nx E E1 H H' h h/\SR E1 H' h/\V E1 H'.next v (.ref id (o+j))/\TV E1 H'.next T' t:=by
 have hd:=(hl.drop o).take n;unfold ixZ at e;split at e
 ·rename_i u w hu
  rw[hu]at hd;split at e
  ·rename_i k y hk
   split at e
   ·rename_i nl hnl
    cases hlen:Nat.beq (len nl) n with
    |false=>rw[hlen]at e;cases e
    |true=>
     rw[hlen]at e;obtain⟨q1,e⟩:=Lf.T.cw e;obtain⟨rfl,rfl,rfl⟩:=cE e;obtain⟨x1,x2⟩:=nZ.1 q1;obtain⟨j,rfl⟩:=Int.eq_ofNat_of_zero_le x1
     have hj:j<n:=by have:(Int.ofNat n)=(n:Int):=rfl;omega
     have hc:=CX hd hnl
     have ast:nl.length=n:=by have:=beq_true hlen;rwa [jH]at this
     have asu:((row.toL.drop o).take n).length=n:=by rw[hc,List.length_map,ast]
     have PL:j<nl.length:=by omega
     refine⟨j,rfl,hj,F.X,F.S,.zr (l':=[.int k (nl.getD j 0)]) (row:=row) (.cons m0 .nil) hg (lM.2 ⟨?_,?_⟩),hT.mono F.X.e F.X.le⟩
     ·have:o+n<=row.toL.length∨n=0:=by
       rw[List.length_take,List.length_drop]at asu;omega
      rw[<-lI];show o+j+1<=_;omega
     ·have h1:(row.toL.drop (o+j)).take 1=(((row.toL.drop o).take n).drop j).take 1:=by
       rw[List.drop_take,List.drop_drop,List.take_take,Nat.min_eq_left (by omega)]
      show [AV.int k (nl.getD j 0)]=(row.toL.drop (o+j)).take 1;rw[h1,hc,List.drop_eq_getElem_cons (by simpa using PL)];simp[List.getD_eq_getElem?_getD,List.getElem?_eq_getElem PL]
   ·cases e
  ·cases e
 ·cases e
theorem acT(n size:Nat)(a i:Od):lV (acw n size a i) (fun _ _=>zi n size (cY a) (cY i)):=by
 intro E T t H h v T' H' hT hH e;unfold acw at e;split at e
 ·rename_i m k0 x hi
  cases akT:Nat.beq size 1 with
  |false=>rw[akT]at e;cases e
  |true=>
  rw[akT]at e;simp only[cond_true]at e;have wH:size=1:=beq_true akT;obtain⟨c,hc,nd⟩:=cU hT hi;have:=oA nd rfl;subst this;split at e
  ·rename_i r o ha
   obtain⟨p,hp,rJ⟩:=cU hT ha;cases rJ with
   |rf h1 h2=>
    rename_i id
    have fin: ∀ {E1:En} {H1:Hq} {l:List Sv} {row:Rw},Fz E E1 H H1 h->E1.G id=some row->Vs E1 H1.next l row.toL->(ixZ n o x l T H1).val=some (v,T',H')-> ∃ c h' E',Ev (fun _ _=>zi n size (cY a) (cY i) t h) (.ok c h')/\Nx E E' H H' h h'/\SR E' H' h'/\V E' H'.next v c/\TV E' H'.next T' t:=fun F hg hl e=>by
     obtain⟨j,rfl,hj,X,S,w,Ua⟩:=akS F hT hg hl e;refine⟨_,h,_,Ev.const ?_,X,S,w,Ua⟩;unfold zi;rw[hp,hc];show(bif Nat.blt j n then Go.Ab.Ro.ok (.ref id (Nat.add o (Nat.mul j size))) h else .bad)=_;rw[jn.2 hj,wH,show Nat.mul j 1=j from Nat.mul_one j];rfl
    split at e
    ·obtain⟨j,rfl,hj,e2⟩:=yO e;obtain⟨rfl,rfl,rfl⟩:=cE e2;refine⟨.ref id (Nat.add o (Nat.mul j size)),h,E,Ev.const ?_,Nx.refl _ _ _,hH,.rf h1 h2,hT⟩;unfold zi;rw[hp,hc];show(bif Nat.blt j n then Go.Ab.Ro.ok (.ref id (Nat.add o (Nat.mul j size))) h else .bad)=_;rw[jn.2 (show j<n by omega)];rfl
    ·rename_i l hr
     obtain⟨Eg,row,k1,k2,k3⟩:=(hH.row _ _ hr).2;rw[h2]at k1;cases k1;exact fin (Fz.refl hH) k2 k3 e
    ·cases e
  ·cases e
 ·exact WD n size a i E T t H h v T' H' hT hH e
theorem SB(n size:Nat)(agg:Bool)(a i:Od):lV (Jl n size agg a i) (fun _ _=>sE n size agg (cY a) (cY i)):=ke (by
 intro E T t H h v T' H' hT hH e;unfold Jl at e;split at e
 ·rename_i cs ha
  obtain⟨p,hp,rJ⟩:=cU hT ha;cases rJ with
  |ag vL=>
   rename_i l'
   split at e
   ·rename_i k j hi
    obtain⟨c,hc,nd⟩:=cU hT hi;cases nd;cases hb:Nat.blt j n with
    |false=>rw[hb]at e;cases e
    |true=>
     rw[hb]at e;obtain⟨e1,rfl,rfl⟩:=tW e;obtain⟨r,h1,h2⟩:=vW vL e1;refine⟨rfl,rfl,r,?_,h2⟩;unfold sE;rw[hp,hc];show(bif Nat.blt j n then(match part agg l' (Nat.mul j size) size with|some v=>Go.Ab.Ro.ok v h|none=>.bad)else .bad)=_;rw[hb,h1];rfl
   ·rename_i m k0 x hi
    obtain⟨c,hc,nd⟩:=cU hT hi;have:=oA nd rfl;subst this;cases hag:(agg|| !(Nat.beq size 1))with
    |true=>rw[hag]at e;cases e
    |false=>
     rw[hag]at e;rw[Bool.or_eq_false_iff]at hag;simp only[cond_false]at e;split at e
     ·rename_i w l
      split at e
      ·rename_i k y hk
       split at e
       ·rename_i nl hnl
        cases hlen:Nat.beq (len nl) n with
        |false=>rw[hlen]at e;cases e
        |true=>
         rw[hlen]at e;obtain⟨q1,e⟩:=Lf.T.cw e;obtain⟨rfl,rfl,rfl⟩:=cE e;obtain⟨x1,x2⟩:=nZ.1 q1;obtain⟨j,rfl⟩:=Int.eq_ofNat_of_zero_le x1
         have hj:j<n:=by have:(Int.ofNat n)=(n:Int):=rfl;omega
         have hl:=CX vL hnl
         have ast:nl.length=n:=by have:=beq_true hlen;rwa [jH]at this
         have wH:size=1:=by cases hq:Nat.beq size 1 with
          |true=>exact beq_true hq
          |false=>rw[hq]at hag;cases hag.2
         refine⟨rfl,rfl,.int k (nl.getD j 0),?_,m0⟩;unfold sE;rw[hp,hc];show(bif Nat.blt j n then(match part agg l' (Nat.mul j size) size with|some v=>Go.Ab.Ro.ok v h|none=>.bad)else .bad)=_;have hpt:part agg l' (Nat.mul j size) size=some (.int k (nl.getD j 0)):=by
          rw[hag.1,wH,hl,show Nat.mul j 1=j from Nat.mul_one j]
          have PL:j<nl.length:=by omega
          have ht:((nl.map fun n=>AV.int k n).drop j).take 1=[AV.int k (nl.getD j 0)]:=by
           rw[List.drop_eq_getElem_cons (by simpa using PL)];simp[List.getD_eq_getElem?_getD,List.getElem?_eq_getElem PL]
          unfold part;rw[Al (by rw[ht];rfl),ht];rfl
         rw[jn.2 hj,hpt];rfl
       ·cases e
      ·cases e
     ·cases e
   ·cases e
 ·cases e)
theorem Oy(a i:Od):lV (Es a i) (fun _ _=>qL (cY a) (cY i)):=ke (by
 intro E T t H h v T' H' hT hH e;unfold Es at e;split at e
 ·rename_i w hw
  split at e
  ·rename_i b s hs
   split at e
   ·rename_i iv hiv
    split at e
    ·rename_i k n hn
     obtain⟨q1,e⟩:=Lf.T.cw e;obtain⟨rfl,rfl,rfl⟩:=cE e;obtain⟨c,hc,nd⟩:=cU hT hw;obtain⟨d,hd,hdv⟩:=cU hT hiv;have:=xB nd hs;subst this;have:=oA hdv hn;subst this;obtain⟨x1,x2⟩:=nZ.1 q1;obtain⟨j,rfl⟩:=Int.eq_ofNat_of_zero_le x1
     have hj:j<s.data.toList.length:=by have:(Int.ofNat s.size)=(s.size:Int):=rfl;have e2:s.data.toList.length=s.size:=Array.length_toList
                                        omega
     refine⟨rfl,rfl,_,?_,m0⟩;unfold qL;rw[hc,hd];show(match sD s.data.toList j with|some b=>Go.Ab.Ro.ok (.int .u8 b.toNat) h|none=>.bad)=_;rw[nQ,List.getElem?_eq_getElem hj];simp[List.getD_eq_getElem?_getD,List.getElem?_eq_getElem hj]
    ·cases e
   ·cases e
  ·cases e
 ·cases e)
theorem Qp{E:En}{N:Nat}{T:Tq}{t:Tm}(hT:TV E N T t){o:Option Od}{d:Sv}{l:Bool}{n:Int}{m:Nat}(hd:toN d=some (.i64,(m:Int)))(e:Hc o T d=some (l,n))(h0:0<=n):vj (o.map cY) t m=some n.toNat:=by
 unfold Hc at e;cases o with
 |none=>
  simp only at e;rw[hd]at e;cases e;simp[vj]
 |some o=>
  simp only at e;split at e
  ·rename_i w hw
   split at e
   ·rename_i k n' hn
    cases e;obtain⟨c,hc,nd⟩:=cU hT hw;have:=oA nd hn;subst this;obtain⟨j,rfl⟩:=Int.eq_ofNat_of_zero_le h0;show(match cY o t with|some (.int _ (.ofNat n))=>some n| _=>none)=_;rw[hc];rfl
   ·cases e
  ·cases e
theorem CY{l u n:Int}:mS l u n=true↔0<=l/\l<=u/\u<=n:=by unfold mS;simp
theorem CZ{E:En}{N:Nat}{T:Tq}{t:Tm}(hT:TV E N T t){lo hi:Option Od}{d:Sv}{l1 l2:Bool}{l u n:Int}{m:Nat}(hd:toN d=some (.i64,(m:Int)))(hn:n=m)(e1:Hc lo T (.i .i64 0)=some (l1,l))(e2:Hc hi T d=some (l2,u))(hc:mS l u n=true):
 bounds (lo.map cY) (hi.map cY) t m=some (l.toNat,u.toNat)/\l.toNat<=u.toNat/\u.toNat<=m:=by
 obtain⟨h1,h2,h3⟩:=CY.1 hc;have a1:=Qp hT (m:=0) rfl e1 h1;have a2:=Qp hT hd e2 (by omega);unfold bounds;rw[a1,a2]
 have b1:Nat.ble l.toNat u.toNat=true:=by rw[Nat.ble_eq];omega
 have b2:Nat.ble u.toNat m=true:=by rw[Nat.ble_eq];omega
 simp only[b1,b2];exact⟨rfl,by omega,by omega⟩
theorem H9{a:AV}(h:z9 a=true):kJ a=true:=by cases a<;>first|exact h|rfl
theorem Ao{size:Nat}{x:lT}{lo hi:Option lT}{t:Tm}{h:Hp}{a:AV}(hx:x t=some a)(he:z9 a=false):mQ size x lo hi t h=vk size x lo hi t h:=by
 unfold mQ;rw[hx];simp only[he];rfl
theorem yR{size:Nat}{x:lT}{lo hi:Option lT}{t:Tm}{h:Hp}{a:AV}{l u:Nat}(hx:x t=some a)(he:kJ a=true)(hb:bounds lo hi t 0=some (l,u)):mQ size x lo hi t h=.ok a h:=by
 cases A7:z9 a with
 |true=>unfold mQ;rw[hx];simp only[A7,hb];rfl
 |false=>
  have:a=.pR:=by cases a<;>first|rfl|(cases A7;done)|(cases he;done)|(rename_i v0;have k:z9 (.sc v0)=true:=he;rw[k]at A7;cases A7)
  subst this;rw[Ao hx A7];unfold vk;rw[hx];simp only[hb]
theorem yc{size:Nat}{x:lT}{lo hi:Option lT}{t:Tm}{h:Hp}{id off n sz l u:Nat}(hx:x t=some (.my id off n sz))(hb:bounds lo hi t n=some (l,u))(hs:sz=size):mQ size x lo hi t h=.ok (.my id (off+l*size) (u - l) sz) h:=by
 rw[Ao hx rfl];unfold vk;rw[hx];simp only[hb,hs,Nat.beq_refl];rfl
theorem LZ(size:Nat)(a:Od)(lo hi:Option Od): ∀ (E:En) (T:Tq) (t:Tm) (H:Hq) (h:Hp) (v:Sv) (T':Tq) (H':Hq),TV E H.next T t->SR E H h->(BC size a lo hi T H).val=some (v,T',H')->H'=H/\T'=T/\ ∃ c,mQ size (cY a) (lo.map cY) (hi.map cY) t h=.ok c h/\V E H.next v c:=by
 intro E T t H h v T' H' hT hH e;unfold BC at e;split at e
 ·rename_i w hw
  split at e
  ·rename_i m hm
   split at e
   ·rename_i k n hn
    split at e
    ·rename_i ll l hl
     split at e
     ·rename_i lu u hu
      obtain⟨p,hp,rJ⟩:=cU hT hw;obtain⟨q,q1,_,q3,q4⟩:=Ql hH rJ hm;rw[q1]at hn;cases hn
      have bd:=fun hc=>CZ (n:=(q:Int)) hT q1 rfl hl hu hc
      split at e
      ·rename_i z
       cases hz:z9 z with
       |false=>rw[hz]at e;cases e
       |true=>
        rw[hz]at e;obtain⟨c1,e⟩:=Lf.T.cw e;obtain⟨rfl,rfl,rfl⟩:=cE e;obtain⟨b1,_,_⟩:=bd c1;cases rJ with
        |a hlf=>
         have hem:=H9 hz;have:q=0:=q4 hem;subst this;exact⟨rfl,rfl,p,yR hp hem b1,.a hlf⟩
      ·rename_i r s
       cases hs:Nat.beq s size with
       |false=>rw[hs]at e;cases e
       |true=>
        rw[hs]at e;have hs:=beq_true hs;obtain⟨c1,e⟩:=Lf.T.cw e;obtain⟨rfl,rfl,rfl⟩:=cE e;obtain⟨b1,b2,b3⟩:=bd c1;cases rJ with
        |os h1 h2=>
         rcases h2 with⟨h2,h3⟩|⟨id,base,h2⟩
         ·have:q=0:=q4 h2;subst this
          have e1:l.toNat=0:=by omega
          have e2:u.toNat - l.toNat=0:=by omega
          rw[e2,e1];exact⟨rfl,rfl,_,yR hp h2 b1,.se h1 h2 h3 rfl⟩
         ·rw[h2]at hp q3
          have:(E.K r).n=q:=by cases q3;rfl
          refine⟨rfl,rfl,_,yc hp (by rw[this];exact b1) hs,?_⟩;rw[<-hs];exact .ss h1 h2 (by omega)
      ·rename_i r s off m'
       cases hs:Nat.beq s size with
       |false=>rw[hs]at e;cases e
       |true=>
        rw[hs]at e;have hs:=beq_true hs;obtain⟨c1,e⟩:=Lf.T.cw e;obtain⟨rfl,rfl,rfl⟩:=cE e;obtain⟨b1,b2,b3⟩:=bd c1;cases rJ with
        |se h1 h2 h3 h4=>
         have:q=0:=q4 h2;subst this
         have e1:l.toNat=0:=by omega
         have e2:u.toNat - l.toNat=0:=by omega
         rw[e2,e1,h4];exact⟨rfl,rfl,_,yR hp h2 b1,.se h1 h2 h3 rfl⟩
        |ss h1 h2 h3=>
         rename_i id base
         have:m'=q:=by cases q3;rfl
         subst this;refine⟨rfl,rfl,_,yc hp b1 hs,?_⟩;rw[<-hs];have:=V.ss (off:=off+l.toNat) (n:=u.toNat - l.toNat) h1 h2 (by omega);rw[Nat.add_mul,<-Nat.add_assoc]at this;exact this
      ·rename_i r s off m'
       cases hlu:(ll&&lu)with
       |true=>
        rw[hlu,cond_true,<-hlu]at e;cases hs:((ll&&lu)&&(Nat.beq s size&&mS l u (q:Int)))with
        |false=>rw[hs]at e;cases e
        |true=>
         rw[hs]at e;rw[Bool.and_eq_true,Bool.and_eq_true,Bool.and_eq_true]at hs;obtain⟨rfl,rfl,rfl⟩:=cE e;obtain⟨b1,b2,b3⟩:=bd hs.2.2;have G7:=beq_true hs.2.1;cases rJ with
         |xo h1 h2=>
          rename_i id
          have:m'=q:=by cases q3;rfl
          subst this;refine⟨rfl,rfl,_,yc hp b1 G7,?_⟩;rw[<-G7];exact .xo h1 h2
       |false=>
        rw[hlu,cond_false]at e;cases hs:Nat.beq s size with
        |false=>rw[hs]at e;cases e
        |true=>
         rw[hs,cond_true]at e;obtain⟨i,hi1,RD,e⟩:=FJ e;obtain⟨j,hj1,PL,e⟩:=FJ e;cases hb:Nat.ble i j with
         |false=>rw[hb]at e;cases e
         |true=>
          rw[hb,cond_true]at e;have hij:=Nat.le_of_ble_eq_true hb;obtain⟨rfl,rfl,rfl⟩:=cE e;subst hi1;subst hj1;cases rJ with
          |xo h1 h2=>
           rename_i id
           have:m'=q:=by cases q3;rfl
           subst this;obtain⟨b1,b2,b3⟩:=bd (CY.2 ⟨by omega,by omega,by omega⟩);have G7:=beq_true hs;refine⟨rfl,rfl,_,yc hp b1 G7,?_⟩;rw[<-G7];exact .xo h1 h2
      ·rename_i m' ty x
       cases hs:Nat.beq size (Lf.size ty)with
       |false=>rw[hs]at e;cases e
       |true=>
        rw[hs]at e;have hs:=beq_true hs;obtain⟨c1,e⟩:=Lf.T.cw e;obtain⟨rfl,rfl,rfl⟩:=cE e;obtain⟨b1,b2,b3⟩:=bd c1;cases rJ with
        |c k _=>
         obtain⟨b,hb,k⟩:=k;cases hb
         rcases k with⟨k,kx⟩|⟨ls,k1,k2|⟨id,base,row,k2,k3,k4⟩⟩
         ·have:q=0:=q4 k;subst this;subst kx;exact⟨rfl,rfl,_,yR hp k b1,.c ⟨_,rfl,.inl ⟨k,by simp⟩⟩ fun h=>(h rfl).elim⟩
         ·subst k2
          have:x.length=q:=by cases q3;rfl
          have hle:((x.drop l.toNat).take (u.toNat - l.toNat)).length=u.toNat - l.toNat:=by rw[List.length_take,List.length_drop];omega
          refine⟨rfl,rfl,.vG (u.toNat - l.toNat) (tk (Nat.mul (u.toNat - l.toNat) size) (dp (Nat.mul l.toNat size) ls)),?_,?_⟩
          ·rw[Ao hp rfl];unfold vk;rw[hp];simp only[this,b1];rfl
          ·refine .c ⟨_,rfl,.inr ⟨_,(k1.drop (EV.length ty) l.toNat).take (EV.length ty) (u.toNat - l.toNat),.inl ?_⟩⟩ fun h=>(h rfl).elim
           rw[hle,xM,qP,hs];rfl
         ·subst k2
          have:x.length=q:=by cases q3;rfl
          obtain⟨a1,a2,a3⟩:=Jq (id:=0) rfl k4 k1 (off:=l.toNat) (m:=u.toNat - l.toNat) (by omega);refine⟨rfl,rfl,_,yc hp (by rw[this];exact b1) hs.symm,?_⟩
          refine .c ⟨_,rfl,BI (id:=id) (base:=base+l.toNat*Lf.size ty) ?_ k3 ?_ a3⟩ fun h=>(h rfl).elim
          ·rw[a1,hs]
          ·rw[a1];exact a2
      ·cases e
     ·cases e
    ·cases e
   ·cases e
  ·cases e
 ·cases e
theorem Oz(size:Nat)(a:Od)(lo hi:Option Od):lV (BC size a lo hi) (fun _ _=>mQ size (cY a) (lo.map cY) (hi.map cY)):=ke (LZ size a lo hi)
theorem L1(n size:Nat)(a:Od)(lo hi:Option Od): ∀ (E:En) (T:Tq) (t:Tm) (H:Hq) (h:Hp) (v:Sv) (T':Tq) (H':Hq),TV E H.next T t->SR E H h->(BD n size a lo hi T H).val=some (v,T',H')->H'=H/\T'=T/\ ∃ c,ph n size (cY a) (lo.map cY) (hi.map cY) t h=.ok c h/\V E H.next v c:=by
 intro E T t H h v T' H' hT hH e;unfold BD at e;split at e
 ·rename_i r o ha
  split at e
  ·rename_i l hl
   split at e
   ·rename_i u hu
    split at e
    ·rename_i cs vL
     cases hs:(Nat.ble (Nat.add o (Nat.mul n size)) (len cs)&&(mS l u (Int.ofNat n)&&Nat.blt 0 size))with
     |false=>rw[hs]at e;cases e
     |true=>
      rw[hs]at e;rw[Bool.and_eq_true,Bool.and_eq_true]at hs;obtain⟨rfl,rfl,rfl⟩:=cE e;obtain⟨b1,b2,b3⟩:=CZ (n:=(n:Int)) (m:=n) hT rfl rfl hl hu hs.2.1;obtain⟨p,hp,rJ⟩:=cU hT ha;obtain⟨id,row,k1,k2,k3⟩:=CW hH vL;cases rJ with
      |rf h1 h2=>
       rw[k1]at h2;cases h2;refine⟨rfl,rfl,_,?_,.xo (id:=id) h1 k1⟩;unfold ph;rw[hp];have q:=hs.1;rw[jH,k3.length,lI]at q;simp only[b1,k2,q];rfl
    ·cases e
   ·cases e
  ·cases e
 ·cases e
theorem OA(n size:Nat)(a:Od)(lo hi:Option Od):lV (BD n size a lo hi) (fun _ _=>ph n size (cY a) (lo.map cY) (hi.map cY)):=ke (L1 n size a lo hi)
theorem OB(a:Od)(lo hi:Option Od):lV (Jm a lo hi) (fun _ _=>qK (cY a) (lo.map cY) (hi.map cY)):=ke (by
 intro E T t H h v T' H' hT hH e;unfold Jm at e;split at e
 ·rename_i w hw
  split at e
  ·rename_i s hs
   split at e
   ·rename_i l hl
    split at e
    ·rename_i u hu
     cases hc:mS l u (Int.ofNat s.size)with
     |false=>rw[hc]at e;cases e
     |true=>
      rw[hc]at e;obtain⟨rfl,rfl,rfl⟩:=cE e;obtain⟨b1,b2,b3⟩:=CZ (n:=(s.size:Int)) (m:=s.size) hT rfl rfl hl hu hc;obtain⟨p,hp,rJ⟩:=cU hT hw;have:=xB rJ hs;subst this;refine⟨rfl,rfl,_,?_,.a rfl⟩;unfold qK;rw[hp];simp only[b1]
    ·cases e
   ·cases e
  ·cases e
 ·cases e)
theorem acU(x y z:Od):lV (akE x y z) (fun _ _=>G1 (cY x) (cY y) (cY z)):=ke (by
 intro E T t H h v T' H' hT hH e;unfold akE at e;split at e
 ·rename_i k hy
  split at e
  ·rename_i k' hz
   obtain⟨c,hc,nd⟩:=cU hT hy;obtain⟨d,hd,hdv⟩:=cU hT hz;cases nd;cases hdv;have key: ∀ {w:Sv} {p:AV},cY x t=some (Ct p)->V E H.next w p->(kJ p=true∨(∃ id o n s,p=.my id o n s)∨ ∃ n cs,p=.vG n cs)->G1 (cY x) (cY y) (cY z) t h=.ok .pR h:=by
    intro w p h1 h2 h3;unfold G1;rw[hc,hd,h1]
    rcases h3 with h3|⟨_,_,_,_,rfl⟩|⟨_,_,rfl⟩
    ·rw[mU h3];rfl
    ·rfl
    ·rfl
   split at e
   ·rename_i w hx
    cases hw:kJ w with
    |false=>rw[hw]at e;cases e
    |true=>
     rw[hw]at e;obtain⟨rfl,rfl,rfl⟩:=cE e;obtain⟨p,hp,rJ⟩:=vr hT hx;refine⟨rfl,rfl,_,key hp rJ ?_,.a rfl⟩;cases rJ;exact .inl hw
   ·rename_i hx
    obtain⟨rfl,rfl,rfl⟩:=cE e;obtain⟨p,hp,rJ⟩:=vr hT hx;refine⟨rfl,rfl,_,key hp rJ ?_,.a rfl⟩;cases rJ with
    |os _ h2=>rcases h2 with⟨h2,_⟩|⟨_,_,h2⟩
              ·exact .inl h2
              ·exact .inr (.inl ⟨_,_,_,_,h2⟩)
   ·rename_i hx
    obtain⟨rfl,rfl,rfl⟩:=cE e;obtain⟨p,hp,rJ⟩:=vr hT hx;refine⟨rfl,rfl,_,key hp rJ ?_,.a rfl⟩;cases rJ with
    |se _ h2 _ _=>exact .inl h2
    |ss _ _ _=>exact .inr (.inl ⟨_,_,_,_,rfl⟩)
   ·rename_i hx
    obtain⟨rfl,rfl,rfl⟩:=cE e;obtain⟨p,hp,rJ⟩:=vr hT hx;refine⟨rfl,rfl,_,key hp rJ ?_,.a rfl⟩;cases rJ;exact .inr (.inl ⟨_,_,_,_,rfl⟩)
   ·rename_i hx
    obtain⟨rfl,rfl,rfl⟩:=cE e;obtain⟨p,hp,rJ⟩:=vr hT hx;refine⟨rfl,rfl,_,key hp rJ ?_,.a rfl⟩;cases rJ with
    |c k _=>
     obtain⟨b,hb,k⟩:=k;cases hb
     rcases k with⟨k,_⟩|⟨_,_,k|⟨_,_,_,k,_⟩⟩
     ·exact .inl k
     ·exact .inr (.inr ⟨_,_,k⟩)
     ·exact .inr (.inl ⟨_,_,_,_,k⟩)
   ·cases e
  ·cases e
 ·cases e)
theorem acV(x:Od):lV (lG x) (fun _ _=>EY (cY x)):=ke (by
 intro E T t H h v T' H' hT hH e;unfold lG at e;split at e
 ·rename_i w hx
  cases hw:kJ w with
  |false=>rw[hw]at e;cases e
  |true=>
   rw[hw]at e;obtain⟨rfl,rfl,rfl⟩:=cE e;obtain⟨p,hp,rJ⟩:=vr hT hx;cases rJ;rw[mU hw]at hp;refine⟨rfl,rfl,_,?_,.i⟩;unfold EY;rw[hp]
 ·cases e)
end Lf
end Go.Ab
