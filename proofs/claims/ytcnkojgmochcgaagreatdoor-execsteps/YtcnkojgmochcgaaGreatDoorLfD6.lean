import Derived.Test.YtcnkojgmochcgaaGreatDoorLfD2
noncomputable section
namespace Go.Ab
namespace Lf
theorem kO{i n:Int}:cu i n=true↔0<=i/\i<n:=by unfold cu;simp
theorem Jl(size:Nat)(a i:Od):du (IZ size a i) (fun _ _=>bq size (bC a) (bC i)):=cr (by
 intro E T t H h v T' H' hT hH e
 unfold IZ at e
 split at e
 ·rename_i iv R4
  split at e
  ·rename_i k n hn
   obtain⟨c,hc,dV⟩:=bw hT R4
   have:=eF dV hn;subst this
   have kH: ∀ {id off m sz:Nat} {j:Nat},n=(j:Int)->bC a t=some (.dj id off m sz)->j<m->sz=size->bq size (bC a) (bC i) t h=.ok (.ref id (off+j*size)) h:=by
    intro id off m sz j hj h1 h2 h3
    subst hj
    unfold bq
    rw[hc]
    show(match bC a t with
     |some (.dj id off n sz)=>bif Nat.blt j n&&Nat.beq sz size then Go.Ab.Ro.ok (.ref id (Nat.add off (Nat.mul j size))) h else .bad
     |some (.fc n cs)=>bif Nat.blt j n then .ok (.eh (dp (Nat.mul j size) cs)) h else .bad
     | _=>.bad)=_
    rw[h1]
    simp only[bt.2 h2,h3,Nat.beq_refl]
    rfl
   have conv: ∀ {m:Nat},cu n (Int.ofNat m)=true-> ∃ j:Nat,n=(j:Int)/\n.toNat=j/\j<m:=by
    intro m q
    obtain⟨q1,q2⟩:=kO.1 q
    exact⟨n.toNat,by omega,rfl,by have:(Int.ofNat m)=(m:Int):=rfl;omega⟩
   split at e
   ·rename_i r s ha
    obtain⟨p,hp,gL⟩:=bw hT ha
    have key: ∀ {t':Ty} {x:List (den t')} {S':Nat->Option Rw},LR E.G t' x (E.K r) S'->(bif Nat.beq s size then Lf.T.ck (cu n (Int.ofNat x.length)) (okV (.re r s n.toNat 0) T H)else Lf.T.bad).val=some (v,T',H')->H'=H/\T'=T/\ ∃ c,bq size (bC a) (bC i) t h=.ok c h/\V E H.next v c:=by
     intro t' x S' q e
     cases hs:Nat.beq s size with
     |false=>rw[hs]at e;cases e
     |true=>
      rw[hs]at e
      have hs:=beq_true hs
      obtain⟨q1,e⟩:=Lf.T.bY e
      obtain⟨rfl,rfl,rfl⟩:=bc e
      obtain⟨j,hj,xx,eg⟩:=conv q1
      have q2:=wm gL q
      cases gL with
      |os h1 h2=>
       rcases h2 with⟨h2,h3⟩|⟨id,base,h2⟩
       ·rw[q.1,h3]at eg;omega
       ·rw[h2]at hp
        rw[q.1]at eg
        refine⟨rfl,rfl,_,kH hj hp eg hs,?_⟩
        rw[xx]
        have:=V.re (i:=j) (o:=0) h1 h2 eg
        rw[Nat.add_zero,hs]at this
        rw[hs];exact this
    split at e
    ·rename_i t' x hr;exact key (hH.row _ _ hr).2 e
    ·rename_i t' x hr;exact key (hH.row _ _ hr).2 e
    ·cases e
   ·rename_i r s off m ha
    obtain⟨p,hp,gL⟩:=bw hT ha
    cases hs:Nat.beq s size with
    |false=>rw[hs]at e;cases e
    |true=>
     rw[hs]at e
     have hs:=beq_true hs
     obtain⟨q1,e⟩:=Lf.T.bY e
     obtain⟨rfl,rfl,rfl⟩:=bc e
     obtain⟨j,hj,xx,eg⟩:=conv q1
     cases gL with
     |se _ _ _ _=>omega
     |ss h1 h2 h3=>
      rename_i id base
      refine⟨rfl,rfl,_,kH hj hp eg hs,?_⟩
      rw[xx]
      have:=V.re (i:=off+j) (o:=0) h1 h2 (by omega)
      rw[Nat.add_zero,Nat.add_mul,<-Nat.add_assoc,hs]at this
      rw[hs];exact this
   ·rename_i r s off m ha
    obtain⟨p,hp,gL⟩:=bw hT ha
    split at e
    ·rename_i k0 j
     cases hs:(Nat.beq s size&&Nat.blt j m)with
     |false=>rw[hs]at e;cases e
     |true=>
      rw[hs]at e
      rw[Bool.and_eq_true]at hs
      obtain⟨rfl,rfl,rfl⟩:=bc e
      cases hn
      cases gL with
      |xo h1 h2=>
       have xy:=beq_true hs.1
       refine⟨rfl,rfl,_,kH rfl hp (bt.1 hs.2) xy,?_⟩
       have:=V.rf (o:=off+j*s) h1 h2
       rw[xy]at this
       rw[xy];exact this
    ·cases e
   ·rename_i m ty x ha
    obtain⟨p,hp,gL⟩:=bw hT ha
    cases hs:Nat.beq size (Lf.size ty)with
    |false=>rw[hs]at e;cases e
    |true=>
     rw[hs]at e
     have hs:=beq_true hs
     obtain⟨q1,e⟩:=Lf.T.bY e
     obtain⟨rfl,rfl,rfl⟩:=bc e
     obtain⟨j,hj,xx,eg⟩:=conv q1
     rw[xx]
     cases gL with
     |c k _=>
      obtain⟨b,hb,k⟩:=k
      cases hb
      rcases k with⟨_,k⟩|⟨ls,k1,k2|⟨id,base,row,k2,k3,k4⟩⟩
      ·subst k;simp at eg
      ·subst k2
       refine⟨rfl,rfl,.eh (ls.drop (j*size)),?_,?_⟩
       ·unfold bq
        rw[hc,hp,hj]
        show(bif Nat.blt j x.length then Go.Ab.Ro.ok (.eh (dp (Nat.mul j size) ls)) h else .bad)=_
        rw[bt.2 eg,fB];rfl
       ·have h1:=k1.get (EV.length ty) eg (aS ty)
        have:=V.zp (r:=(ls.drop (j*size)).drop size) (lC (E:=E) (N:=H'.next) rfl ty _ _ h1)
        rw[hs,List.take_append_drop]at this
        rw[hs];exact this
      ·subst k2
       refine⟨rfl,rfl,_,kH hj hp eg hs.symm,?_⟩
       obtain⟨_,e2,e3⟩:=np (N:=H'.next) eg k4 k1
       have hl:(jb ty (x.getD j (aS ty))).length=Lf.size ty:=by
        rw[e2.length,(np (N:=H'.next) eg k4 k1).1 |> EV.length ty _ _]
       refine .zr e2 k3 ?_
       rw[hl,hs];exact e3
   ·cases e
  ·cases e
 ·cases e)
theorem Jm(n size:Nat)(a i:Od):du (I0 n size a i) (fun _ _=>j9 n size (bC a) (bC i)):=cr (by
 intro E T t H h v T' H' hT hH e
 unfold I0 at e
 split at e
 ·rename_i k j R4
  obtain⟨c,hc,dV⟩:=bw hT R4
  cases dV
  cases hj:Nat.blt j n with
  |false=>rw[hj]at e;cases e
  |true=>
   rw[hj]at e
   simp only[cond_true]at e
   have hk:j9 n size (bC a) (bC i) t h=(match bC a t with
    |some (.ref id off)=>bif Nat.blt j n then Go.Ab.Ro.ok (.ref id (Nat.add off (Nat.mul j size))) h else .bad
    |some (.eh cs)=>bif Nat.blt j n then .ok (.eh (dp (Nat.mul j size) cs)) h else .bad
    | _=>.bad):=by unfold j9;rw[hc];rfl
   rw[hk,hj]
   split at e
   ·rename_i r o ha
    obtain⟨rfl,rfl,rfl⟩:=bc e
    obtain⟨p,hp,gL⟩:=bw hT ha
    rw[hp]
    cases gL with
    |rf h1 h2=>exact⟨rfl,rfl,_,rfl,.rf h1 h2⟩
   ·rename_i l ha
    obtain⟨p,hp,gL⟩:=bw hT ha
    rw[hp]
    cases hb:Nat.ble (Nat.mul j size) (len l)with
    |false=>rw[hb]at e;cases e
    |true=>
     rw[hb]at e
     obtain⟨rfl,rfl,rfl⟩:=bc e
     have hle:j*size<=l.length:=by have:=Nat.le_of_ble_eq_true hb;rwa [bJ]at this
     rw[fB]
     cases gL with
     |zp k=>
      rename_i l' r
      refine⟨rfl,rfl,_,rfl,?_⟩
      rw[fB,List.drop_append_of_le_length (by rw[<-k.length];exact hle)]
      exact .zp (k.drop _)
     |zr k g s=>
      rename_i l' id o row
      refine⟨rfl,rfl,_,rfl,?_⟩
      refine .zr (k.drop _) g ?_
      obtain⟨s1,s2⟩:=dn.1 s
      rw[List.length_drop]
      refine dn.2 ⟨by have e1:Nat.add o (Nat.mul j size)=o+j*size:=rfl;have e2:Nat.mul j size=j*size:=rfl;omega,?_⟩
      rw[s2,List.drop_take,List.drop_drop]
      rfl
   ·cases e
 ·cases e)
theorem sP{E:En}{N:Nat}{k:IntKind}: ∀ {l:List Sv} {l':List AV} {r:List Int},Vs E N l l'->ym k l=some r->l'=r.map fun n=>.int k n
 | [],_,_,.nil,e=>by cases e;rfl
 |v::l,_,r,.cons hv h,e=>by
  change (match toN v with|some (k',n)=>(bif eI k k' then(match ym k l with|some r=>some (n::r)|none=>none)else none)|none=>none)=some r at e
  split at e
  ·rename_i k' n hn
   obtain⟨hk,e⟩:=bg e
   split at e
   ·rename_i r' hr
    cases e
    have:=bH.1 hk;subst this
    rw[eF hv hn,sP h hr];rfl
   ·cases e
  ·cases e
theorem B5(n size:Nat)(agg:Bool)(a i:Od):du (uh n size agg a i) (fun _ _=>gH n size agg (bC a) (bC i)):=cr (by
 intro E T t H h v T' H' hT hH e
 unfold uh at e
 split at e
 ·rename_i cs ha
  obtain⟨p,hp,gL⟩:=bw hT ha
  cases gL with
  |ag fO=>
   rename_i l'
   split at e
   ·rename_i k j hi
    obtain⟨c,hc,dV⟩:=bw hT hi
    cases dV
    cases hb:Nat.blt j n with
    |false=>rw[hb]at e;cases e
    |true=>
     rw[hb]at e
     obtain⟨e1,rfl,rfl⟩:=iH e
     obtain⟨r,h1,h2⟩:=jA fO e1
     refine⟨rfl,rfl,r,?_,h2⟩
     unfold gH
     rw[hp,hc]
     show(bif Nat.blt j n then(match part agg l' (Nat.mul j size) size with|some v=>Go.Ab.Ro.ok v h|none=>.bad)else .bad)=_
     rw[hb,h1];rfl
   ·rename_i m k0 x hi
    obtain⟨c,hc,dV⟩:=bw hT hi
    have:=eF dV rfl;subst this
    cases LM:(agg|| !(Nat.beq size 1))with
    |true=>rw[LM]at e;cases e
    |false=>
     rw[LM]at e
     rw[Bool.or_eq_false_iff]at LM
     simp only[cond_false]at e
     split at e
     ·rename_i w l
      split at e
      ·rename_i k y hk
       split at e
       ·rename_i nl hnl
        cases hlen:Nat.beq (len nl) n with
        |false=>rw[hlen]at e;cases e
        |true=>
         rw[hlen]at e
         obtain⟨q1,e⟩:=Lf.T.bY e
         obtain⟨rfl,rfl,rfl⟩:=bc e
         obtain⟨x1,x2⟩:=kO.1 q1
         obtain⟨j,rfl⟩:=Int.eq_ofNat_of_zero_le x1
         have hj:j<n:=by have:(Int.ofNat n)=(n:Int):=rfl;omega
         have hl:=sP fO hnl
         have aeb:nl.length=n:=by have:=beq_true hlen;rwa [bJ]at this
         have lM:size=1:=by cases hq:Nat.beq size 1 with
          |true=>exact beq_true hq
          |false=>rw[hq]at LM;cases LM.2
         refine⟨rfl,rfl,.int k (nl.getD j 0),?_,dR⟩
         unfold gH
         rw[hp,hc]
         show(bif Nat.blt j n then(match part agg l' (Nat.mul j size) size with|some v=>Go.Ab.Ro.ok v h|none=>.bad)else .bad)=_
         have Q9:part agg l' (Nat.mul j size) size=some (.int k (nl.getD j 0)):=by
          rw[LM.1,lM,hl,show Nat.mul j 1=j from Nat.mul_one j]
          have xx:j<nl.length:=by omega
          have ht:((nl.map fun n=>AV.int k n).drop j).take 1=[AV.int k (nl.getD j 0)]:=by
           rw[List.drop_eq_getElem_cons (by simpa using xx)]
           simp[List.getD_eq_getElem?_getD,List.getElem?_eq_getElem xx]
          unfold part
          rw[me (by rw[ht];rfl),ht];rfl
         rw[bt.2 hj,Q9];rfl
       ·cases e
      ·cases e
     ·cases e
   ·cases e
 ·cases e)
theorem yw(a i:Od):du (pP a i) (fun _ _=>bK (bC a) (bC i)):=cr (by
 intro E T t H h v T' H' hT hH e
 unfold pP at e
 split at e
 ·rename_i w hw
  split at e
  ·rename_i b s hs
   split at e
   ·rename_i iv R4
    split at e
    ·rename_i k n hn
     obtain⟨q1,e⟩:=Lf.T.bY e
     obtain⟨rfl,rfl,rfl⟩:=bc e
     obtain⟨c,hc,dV⟩:=bw hT hw
     obtain⟨d,hd,GY⟩:=bw hT R4
     have:=j8 dV hs;subst this
     have:=eF GY hn;subst this
     obtain⟨x1,x2⟩:=kO.1 q1
     obtain⟨j,rfl⟩:=Int.eq_ofNat_of_zero_le x1
     have hj:j<s.data.toList.length:=by have:(Int.ofNat s.size)=(s.size:Int):=rfl;have e2:s.data.toList.length=s.size:=Array.length_toList
                                        omega
     refine⟨rfl,rfl,_,?_,dR⟩
     unfold bK
     rw[hc,hd]
     show(match gG s.data.toList j with|some b=>Go.Ab.Ro.ok (.int .u8 b.toNat) h|none=>.bad)=_
     rw[ec,List.getElem?_eq_getElem hj]
     simp[List.getD_eq_getElem?_getD,List.getElem?_eq_getElem hj]
    ·cases e
   ·cases e
  ·cases e
 ·cases e)
theorem z7{E:En}{N:Nat}{T:Tq}{t:Tm}(hT:TV E N T t){o:Option Od}{d:Sv}{l:Bool}{n:Int}{m:Nat}(hd:toN d=some (.i64,(m:Int)))(e:rT o T d=some (l,n))(h0:0<=n):iY (o.map bC) t m=some n.toNat:=by
 unfold rT at e
 cases o with
 |none=>
  simp only at e
  rw[hd]at e
  cases e
  simp[iY]
 |some o=>
  simp only at e
  split at e
  ·rename_i w hw
   split at e
   ·rename_i k n' hn
    cases e
    obtain⟨c,hc,dV⟩:=bw hT hw
    have:=eF dV hn;subst this
    obtain⟨j,rfl⟩:=Int.eq_ofNat_of_zero_le h0
    show(match bC o t with|some (.int _ (.ofNat n))=>some n| _=>none)=_
    rw[hc];rfl
   ·cases e
  ·cases e
theorem B6{l u n:Int}:dZ l u n=true↔0<=l/\l<=u/\u<=n:=by unfold dZ;simp
theorem ou{E:En}{N:Nat}{T:Tq}{t:Tm}(hT:TV E N T t){lo hi:Option Od}{d:Sv}{l1 l2:Bool}{l u n:Int}{m:Nat}(hd:toN d=some (.i64,(m:Int)))(hn:n=m)(e1:rT lo T (.i .i64 0)=some (l1,l))(e2:rT hi T d=some (l2,u))(hc:dZ l u n=true):
 bounds (lo.map bC) (hi.map bC) t m=some (l.toNat,u.toNat)/\l.toNat<=u.toNat/\u.toNat<=m:=by
 obtain⟨h1,h2,h3⟩:=B6.1 hc
 have a1:=z7 hT (m:=0) rfl e1 h1
 have a2:=z7 hT hd e2 (by omega)
 unfold bounds
 rw[a1,a2]
 have b1:Nat.ble l.toNat u.toNat=true:=by rw[Nat.ble_eq];omega
 have b2:Nat.ble u.toNat m=true:=by rw[Nat.ble_eq];omega
 simp only[b1,b2]
 exact⟨rfl,by omega,by omega⟩
theorem sQ{a:AV}(h:lX a=true):cD a=true:=by cases a<;>first|exact h|rfl
theorem mg{size:Nat}{x:dk}{lo hi:Option dk}{t:Tm}{h:Hp}{a:AV}(hx:x t=some a)(he:lX a=false):bM size x lo hi t h=iZ size x lo hi t h:=by
 unfold bM;rw[hx];simp only[he];rfl
theorem lF{size:Nat}{x:dk}{lo hi:Option dk}{t:Tm}{h:Hp}{a:AV}{l u:Nat}(hx:x t=some a)(he:cD a=true)(hb:bounds lo hi t 0=some (l,u)):bM size x lo hi t h=.ok a h:=by
 cases nR:lX a with
 |true=>unfold bM;rw[hx];simp only[nR,hb];rfl
 |false=>
  have:a=.cW:=by cases a<;>first|rfl|(cases nR;done)|(cases he;done)|(rename_i v0;have k:lX (.sc v0)=true:=he;rw[k]at nR;cases nR)
  subst this
  rw[mg hx nR]
  unfold iZ
  rw[hx]
  simp only[hb]
theorem nq{size:Nat}{x:dk}{lo hi:Option dk}{t:Tm}{h:Hp}{id off n sz l u:Nat}(hx:x t=some (.dj id off n sz))(hb:bounds lo hi t n=some (l,u))(hs:sz=size):bM size x lo hi t h=.ok (.dj id (off+l*size) (u - l) sz) h:=by
 rw[mg hx rfl]
 unfold iZ
 rw[hx]
 simp only[hb,hs,Nat.beq_refl]
 rfl
theorem wq(size:Nat)(a:Od)(lo hi:Option Od): ∀ (E:En) (T:Tq) (t:Tm) (H:Hq) (h:Hp) (v:Sv) (T':Tq) (H':Hq),TV E H.next T t->SR E H h->(nf size a lo hi T H).val=some (v,T',H')->H'=H/\T'=T/\ ∃ c,bM size (bC a) (lo.map bC) (hi.map bC) t h=.ok c h/\V E H.next v c:=by
 intro E T t H h v T' H' hT hH e
 unfold nf at e
 split at e
 ·rename_i w hw
  split at e
  ·rename_i m hm
   split at e
   ·rename_i k n hn
    split at e
    ·rename_i ll l hl
     split at e
     ·rename_i lu u hu
      obtain⟨p,hp,gL⟩:=bw hT hw
      obtain⟨q,q1,_,q3,q4⟩:=zY hH gL hm
      rw[q1]at hn;cases hn
      have bd:=fun hc=>ou (n:=(q:Int)) hT q1 rfl hl hu hc
      split at e
      ·rename_i z
       cases hz:lX z with
       |false=>rw[hz]at e;cases e
       |true=>
        rw[hz]at e
        obtain⟨c1,e⟩:=Lf.T.bY e
        obtain⟨rfl,rfl,rfl⟩:=bc e
        obtain⟨b1,_,_⟩:=bd c1
        cases gL with
        |a Y7=>
         have hem:=sQ hz
         have:q=0:=q4 hem
         subst this
         exact⟨rfl,rfl,p,lF hp hem b1,.a Y7⟩
      ·rename_i r s
       cases hs:Nat.beq s size with
       |false=>rw[hs]at e;cases e
       |true=>
        rw[hs]at e
        have hs:=beq_true hs
        obtain⟨c1,e⟩:=Lf.T.bY e
        obtain⟨rfl,rfl,rfl⟩:=bc e
        obtain⟨b1,b2,b3⟩:=bd c1
        cases gL with
        |os h1 h2=>
         rcases h2 with⟨h2,h3⟩|⟨id,base,h2⟩
         ·have:q=0:=q4 h2
          subst this
          have e1:l.toNat=0:=by omega
          have e2:u.toNat - l.toNat=0:=by omega
          rw[e2,e1]
          exact⟨rfl,rfl,_,lF hp h2 b1,.se h1 h2 h3 rfl⟩
         ·rw[h2]at hp q3
          have:(E.K r).n=q:=by cases q3;rfl
          refine⟨rfl,rfl,_,nq hp (by rw[this];exact b1) hs,?_⟩
          rw[<-hs]
          exact .ss h1 h2 (by omega)
      ·rename_i r s off m'
       cases hs:Nat.beq s size with
       |false=>rw[hs]at e;cases e
       |true=>
        rw[hs]at e
        have hs:=beq_true hs
        obtain⟨c1,e⟩:=Lf.T.bY e
        obtain⟨rfl,rfl,rfl⟩:=bc e
        obtain⟨b1,b2,b3⟩:=bd c1
        cases gL with
        |se h1 h2 h3 h4=>
         have:q=0:=q4 h2
         subst this
         have e1:l.toNat=0:=by omega
         have e2:u.toNat - l.toNat=0:=by omega
         rw[e2,e1,h4]
         exact⟨rfl,rfl,_,lF hp h2 b1,.se h1 h2 h3 rfl⟩
        |ss h1 h2 h3=>
         rename_i id base
         have:m'=q:=by cases q3;rfl
         subst this
         refine⟨rfl,rfl,_,nq hp b1 hs,?_⟩
         rw[<-hs]
         have:=V.ss (off:=off+l.toNat) (n:=u.toNat - l.toNat) h1 h2 (by omega)
         rw[Nat.add_mul,<-Nat.add_assoc]at this
         exact this
      ·rename_i r s off m'
       cases hs:((ll&&lu)&&(Nat.beq s size&&dZ l u (q:Int)))with
       |false=>rw[hs]at e;cases e
       |true=>
        rw[hs]at e
        rw[Bool.and_eq_true,Bool.and_eq_true,Bool.and_eq_true]at hs
        obtain⟨rfl,rfl,rfl⟩:=bc e
        obtain⟨b1,b2,b3⟩:=bd hs.2.2
        have xy:=beq_true hs.2.1
        cases gL with
        |xo h1 h2=>
         rename_i id
         have:m'=q:=by cases q3;rfl
         subst this
         refine⟨rfl,rfl,_,nq hp b1 xy,?_⟩
         rw[<-xy]
         exact .xo h1 h2
      ·rename_i m' ty x
       cases hs:Nat.beq size (Lf.size ty)with
       |false=>rw[hs]at e;cases e
       |true=>
        rw[hs]at e
        have hs:=beq_true hs
        obtain⟨c1,e⟩:=Lf.T.bY e
        obtain⟨rfl,rfl,rfl⟩:=bc e
        obtain⟨b1,b2,b3⟩:=bd c1
        cases gL with
        |c k _=>
         obtain⟨b,hb,k⟩:=k
         cases hb
         rcases k with⟨k,kx⟩|⟨ls,k1,k2|⟨id,base,row,k2,k3,k4⟩⟩
         ·have:q=0:=q4 k
          subst this
          subst kx
          exact⟨rfl,rfl,_,lF hp k b1,.c ⟨_,rfl,.inl ⟨k,by simp⟩⟩ fun h=>(h rfl).elim⟩
         ·subst k2
          have:x.length=q:=by cases q3;rfl
          have hle:((x.drop l.toNat).take (u.toNat - l.toNat)).length=u.toNat - l.toNat:=by rw[List.length_take,List.length_drop];omega
          refine⟨rfl,rfl,.fc (u.toNat - l.toNat) (tk (Nat.mul (u.toNat - l.toNat) size) (dp (Nat.mul l.toNat size) ls)),?_,?_⟩
          ·rw[mg hp rfl]
           unfold iZ
           rw[hp]
           simp only[this,b1]
           rfl
          ·refine .c ⟨_,rfl,.inr ⟨_,(k1.drop (EV.length ty) l.toNat).take (EV.length ty) (u.toNat - l.toNat),.inl ?_⟩⟩ fun h=>(h rfl).elim
           rw[hle,ki,fB,hs];rfl
         ·subst k2
          have:x.length=q:=by cases q3;rfl
          obtain⟨a1,a2,a3⟩:=uu (id:=0) rfl k4 k1 (off:=l.toNat) (m:=u.toNat - l.toNat) (by omega)
          refine⟨rfl,rfl,_,nq hp (by rw[this];exact b1) hs.symm,?_⟩
          refine .c ⟨_,rfl,nm (id:=id) (base:=base+l.toNat*Lf.size ty) ?_ k3 ?_ a3⟩ fun h=>(h rfl).elim
          ·rw[a1,hs]
          ·rw[a1];exact a2
      ·cases e
     ·cases e
    ·cases e
   ·cases e
  ·cases e
 ·cases e
theorem yx(size:Nat)(a:Od)(lo hi:Option Od):du (nf size a lo hi) (fun _ _=>bM size (bC a) (lo.map bC) (hi.map bC)):=cr (wq size a lo hi)
theorem yy(n size:Nat)(a:Od)(lo hi:Option Od):du (ui n size a lo hi) (fun _ _=>en n size (bC a) (lo.map bC) (hi.map bC)):=cr (by
 intro E T t H h v T' H' hT hH e
 unfold ui at e
 split at e
 ·rename_i r o ha
  split at e
  ·rename_i l hl
   split at e
   ·rename_i u hu
    split at e
    ·rename_i cs fO
     cases hs:(Nat.ble (Nat.add o (Nat.mul n size)) (len cs)&&(dZ l u (Int.ofNat n)&&Nat.blt 0 size))with
     |false=>rw[hs]at e;cases e
     |true=>
      rw[hs]at e
      rw[Bool.and_eq_true,Bool.and_eq_true]at hs
      obtain⟨rfl,rfl,rfl⟩:=bc e
      obtain⟨b1,b2,b3⟩:=ou (n:=(n:Int)) (m:=n) hT rfl rfl hl hu hs.2.1
      obtain⟨p,hp,gL⟩:=bw hT ha
      obtain⟨id,row,k1,k2,k3⟩:=ot hH fO
      cases gL with
      |rf h1 h2=>
       rw[k1]at h2;cases h2
       refine⟨rfl,rfl,_,?_,.xo (id:=id) h1 k1⟩
       unfold en
       rw[hp]
       have q:=hs.1
       rw[bJ,k3.length,dm]at q
       simp only[b1,k2,q]
       rfl
    ·cases e
   ·cases e
  ·cases e
 ·cases e)
theorem yz(a:Od)(lo hi:Option Od):du (uj a lo hi) (fun _ _=>ct (bC a) (lo.map bC) (hi.map bC)):=cr (by
 intro E T t H h v T' H' hT hH e
 unfold uj at e
 split at e
 ·rename_i w hw
  split at e
  ·rename_i s hs
   split at e
   ·rename_i l hl
    split at e
    ·rename_i u hu
     cases hc:dZ l u (Int.ofNat s.size)with
     |false=>rw[hc]at e;cases e
     |true=>
      rw[hc]at e
      obtain⟨rfl,rfl,rfl⟩:=bc e
      obtain⟨b1,b2,b3⟩:=ou (n:=(s.size:Int)) (m:=s.size) hT rfl rfl hl hu hc
      obtain⟨p,hp,gL⟩:=bw hT hw
      have:=j8 gL hs;subst this
      refine⟨rfl,rfl,_,?_,.a rfl⟩
      unfold ct
      rw[hp]
      simp only[b1]
    ·cases e
   ·cases e
  ·cases e
 ·cases e)
theorem Jn(x y z:Od):du (NV x y z) (fun _ _=>qa (bC x) (bC y) (bC z)):=cr (by
 intro E T t H h v T' H' hT hH e
 unfold NV at e
 split at e
 ·rename_i k hy
  split at e
  ·rename_i k' hz
   obtain⟨c,hc,dV⟩:=bw hT hy
   obtain⟨d,hd,GY⟩:=bw hT hz
   cases dV;cases GY
   have key: ∀ {w:Sv} {p:AV},bC x t=some (nO p)->V E H.next w p->(cD p=true∨(∃ id o n s,p=.dj id o n s)∨ ∃ n cs,p=.fc n cs)->qa (bC x) (bC y) (bC z) t h=.ok .cW h:=by
    intro w p h1 h2 h3
    unfold qa
    rw[hc,hd,h1]
    rcases h3 with h3|⟨_,_,_,_,rfl⟩|⟨_,_,rfl⟩
    ·rw[dC h3];rfl
    ·rfl
    ·rfl
   split at e
   ·rename_i w hx
    cases hw:cD w with
    |false=>rw[hw]at e;cases e
    |true=>
     rw[hw]at e
     obtain⟨rfl,rfl,rfl⟩:=bc e
     obtain⟨p,hp,gL⟩:=je hT hx
     refine⟨rfl,rfl,_,key hp gL ?_,.a rfl⟩
     cases gL;exact .inl hw
   ·rename_i hx
    obtain⟨rfl,rfl,rfl⟩:=bc e
    obtain⟨p,hp,gL⟩:=je hT hx
    refine⟨rfl,rfl,_,key hp gL ?_,.a rfl⟩
    cases gL with
    |os _ h2=>rcases h2 with⟨h2,_⟩|⟨_,_,h2⟩
              ·exact .inl h2
              ·exact .inr (.inl ⟨_,_,_,_,h2⟩)
   ·rename_i hx
    obtain⟨rfl,rfl,rfl⟩:=bc e
    obtain⟨p,hp,gL⟩:=je hT hx
    refine⟨rfl,rfl,_,key hp gL ?_,.a rfl⟩
    cases gL with
    |se _ h2 _ _=>exact .inl h2
    |ss _ _ _=>exact .inr (.inl ⟨_,_,_,_,rfl⟩)
   ·rename_i hx
    obtain⟨rfl,rfl,rfl⟩:=bc e
    obtain⟨p,hp,gL⟩:=je hT hx
    refine⟨rfl,rfl,_,key hp gL ?_,.a rfl⟩
    cases gL
    exact .inr (.inl ⟨_,_,_,_,rfl⟩)
   ·rename_i hx
    obtain⟨rfl,rfl,rfl⟩:=bc e
    obtain⟨p,hp,gL⟩:=je hT hx
    refine⟨rfl,rfl,_,key hp gL ?_,.a rfl⟩
    cases gL with
    |c k _=>
     obtain⟨b,hb,k⟩:=k
     cases hb
     rcases k with⟨k,_⟩|⟨_,_,k|⟨_,_,_,k,_⟩⟩
     ·exact .inl k
     ·exact .inr (.inr ⟨_,_,k⟩)
     ·exact .inr (.inl ⟨_,_,_,_,k⟩)
   ·cases e
  ·cases e
 ·cases e)
theorem Jo(x:Od):du (cZ x) (fun _ _=>mC (bC x)):=cr (by
 intro E T t H h v T' H' hT hH e
 unfold cZ at e
 split at e
 ·rename_i w hx
  cases hw:cD w with
  |false=>rw[hw]at e;cases e
  |true=>
   rw[hw]at e
   obtain⟨rfl,rfl,rfl⟩:=bc e
   obtain⟨p,hp,gL⟩:=je hT hx
   cases gL
   rw[dC hw]at hp
   refine⟨rfl,rfl,_,?_,.i⟩
   unfold mC
   rw[hp]
 ·cases e)
end Lf
end Go.Ab

noncomputable section
namespace Go.Ab
namespace Lf
def ik(G:Nat->Option Rw)(h:Hp)(t:Ty)(a:AV)(x:List (den t)):Prop:=
 (cD a=true/\x=[])∨ ∃ id base row ls,a=.dj id base x.length (size t)/\h.aQ.get id=some row/\row.fN base (x.length*size t)=some ls/\fT (EV G t) x ls
theorem pT{t:Ty}{s:Sv}{a:AV}{x:List (den t)}{E:En}{H H1:Hq}{h:Hp}(S:SR E H h)(hv:V E H.next s a)(e:wc t s H=some (x,H1)): ∃ E1,Fz E E1 H H1 h/\ik E1.G h t a x:=by
 unfold wc at e
 split at e
 ·rename_i r sz
  split at e
  ·rename_i t' y hr
   split at e
   ·rename_i p hp
    cases p
    cases e
    refine⟨E,Fz.refl S,?_⟩
    rcases wm hv (S.row _ _ hr).2 with k|⟨id,base,row,ls,k1,_,_,k2,k3,k4⟩
    ·exact .inl k
    ·exact .inr ⟨id,base,row,ls,k1,k2,k3,k4⟩
   ·cases e
  ·cases e
 ·rename_i r sz off n
  split at e
  ·rename_i t' y hr
   split at e
   ·rename_i p hp
    cases p
    cases e
    refine⟨E,Fz.refl S,?_⟩
    rcases LL hv (S.row _ _ hr).2 with⟨k1,k2,k3,_⟩|⟨id,base,row,ls,k1,k2,_,_,k3,k4,k5⟩
    ·subst k3;exact .inl ⟨k1,by simp⟩
    ·obtain⟨a1,a2,a3⟩:=uu rfl k4 k5 k2 (id:=0)
     exact .inr ⟨id,base+off*size t,row,_,by rw[a1];exact k1,k3,by rw[a1];exact a2,a3⟩
   ·cases e
  ·cases e
 ·obtain⟨hb,e⟩:=bg e
  cases e
  cases hv
  exact⟨E,Fz.refl S,.inl ⟨hb,rfl⟩⟩
 ·rename_i r sz off n
  split at e
  ·rename_i l hr
   have hb:=beq_true (bg e).1
   replace e:=(bg e).2
   unfold LC at e
   have hle:=Nat.le_of_ble_eq_true (bg e).1
   replace e:=(bg e).2
   rw[bJ]at hle
   rw[fB]at e
   obtain⟨id,row,k1,k2,k3,_⟩:=(S.row _ _ hr).2
   obtain⟨E1,c,d,F,e1,e2,e3⟩:=yt (mf t) n E H h _ _ x H1 S (k3.drop off) e
   refine⟨E1,F,?_⟩
   cases hv with
   |xo h1 h2=>
    rw[k1]at h2;cases h2
    have hc:=e2.length (EV.length t)
    have hlen:=k3.length
    refine .inr ⟨id,off,row,c,by rw[e3,hb],k2,?_,e2⟩
    refine dn.2 ⟨?_,?_⟩
    ·have:=congrArg List.length e1
     rw[List.length_drop,List.length_append,hc]at this
     rw[<-dm];omega
    ·rw[e1,<-hc,List.take_left]
  ·cases e
 ·cases e
structure Kl(E:En)(H H2:Hq)(a:AV):Prop where
 n:H2.next=H.next
 sub: ∀ r R,H2.aQ.get r=some R->H.aQ.get r=some R
 id: ∀ id,gB a=some id-> ∃ r,own H r/\ ¬ own H2 r/\gB (E.K r).av=some id
 only: ∀ r,own H r-> ¬ own H2 r->gB (E.K r).av=gB a
theorem z8{E:En}{H:Hq}{r:Nat}{R:Row}{a:AV}(hr:H.aQ.get r=some R)(lv:R.live=true)(hi:gB (E.K r).av=gB a):Kl E H (eV H r none) a:=by
 have no: ¬ own (eV H r none) r:=by rintro⟨Q,q,_⟩;rw[dx,if_pos rfl]at q;cases q
 refine⟨rfl,fun q Q e=>?_,fun id e=>⟨r,⟨R,hr,lv⟩,no,by rw[hi];exact e⟩,fun q o n=>?_⟩
 ·rw[dx]at e
  split at e
  ·cases e
  ·exact e
 ·by_cases k:q=r
  ·rw[k];exact hi
  ·obtain⟨Q,q1,q2⟩:=o
   exact(n ⟨Q,by rw[dx,if_neg k];exact q1,q2⟩).elim
theorem ux{s:Sv}{a:AV}{E:En}{H H2:Hq}(hv:V E H.next s a)(e:kill s H=some H2):Kl E H H2 a:=by
 unfold kill at e
 split at e
 ·cases e
  cases hv with
  |a h=>exact⟨rfl,fun _ _ e=>e,fun id k=>by cases a<;>first|(cases h;done)|(cases k;done),fun r o n=>(n o).elim⟩
 ·split at e
  ·rename_i hr
   cases e
   cases hv with
   |os h1 h2=>exact z8 hr rfl rfl
  ·cases e
 ·split at e
  ·rename_i hr
   cases e
   cases hv with
   |se h1 h2 h3 h4=>exact z8 hr rfl rfl
   |ss h1 h2 h3=>exact z8 hr rfl (by rw[h2];rfl)
  ·cases e
 ·split at e
  ·rename_i hr
   cases e
   cases hv with
   |xo h1 h2=>exact z8 hr rfl (by rw[h2];rfl)
  ·cases e
 ·cases e
theorem lG{b n:Nat}:roomy b n=true↔n*b<=70368744177664/\n<=70368744177664:=by unfold roomy;simp
theorem ER{r:Rw}{off k:Nat}{l:List AV}(h:r.fN off k=some l): ∃ p,r.sub off k=some p/\p.toL=l:=by
 obtain⟨a,b⟩:=dn.1 h
 have hb:Nat.ble (Nat.add off k) r.n=true:=by rw[Nat.ble_eq];exact a
 have hs:r.sub off k=some (bif Nat.beq off 0 then r.upto k else pz (r.cells k off)):=by unfold Rw.sub;rw[hb];rfl
 exact⟨_,hs,by rw[(vc hs).1,b]⟩
theorem Oe{E:En}{H H2:Hq}{h:Hp}(S:SR E H h){t:Ty}{a:AV}{x y:List (den t)}{cs:List AV}{bytes:Nat}{z:Bool}(hd:ik E.G h t a x)(hk:Kl E H H2 a)(hy:fT (EV E.G t) y cs)(hz:z=true->y=[])(hr:roomy bytes (x.length+y.length)=true):
 ∃ c h' E',(bif lX a&&z then Go.Ab.Ro.ok a h else mD (size t) bytes h (nO a) y.length cs)=.ok c h'/\Nx E E' H (cP H2 (.l t (x++y))) h h'/\SR E' (cP H2 (.l t (x++y))) h'/\V E' (cP H2 (.l t (x++y))).next (.os H2.next (size t)) c:=by
 obtain⟨r1,r2⟩:=lG.1 hr
 have ES: ∀ (k:Kr),(∀ id,gB k.av=some id->gB a=some id)->RV E H.next h k (.l t (x++y))->SR (E.row H.next k) (cP H2 (.l t (x++y))) h/\Nx E (E.row H.next k) H (cP H2 (.l t (x++y))) h h:=by
  intro k h1 h2
  refine fI S hk.n hk.sub (Nat.le_refl _) (fun _ _ _=>rfl) (fun id e=>?_) h2 rfl
  obtain⟨r,o,no,er⟩:=hk.id id (h1 id e)
  exact⟨S.lt r id o er,.inr ⟨r,o,no,er⟩⟩
 have K0: ∀ k:Kr,(E.row H.next k).K H2.next=k:=fun k=>by rw[hk.n];exact if_pos rfl
 have LN: ∀ k:Kr,((cD k.av=true/\k.n=0)∨ ∃ id base,k.av=.dj id base k.n (size t))->V (E.row H.next k) (cP H2 (.l t (x++y))).next (.os H2.next (size t)) k.av:=by
  intro k vV
  have:=V.os (E:=E.row H.next k) (N:=(cP H2 (.l t (x++y))).next) (r:=H2.next) (sz:=size t) (Nat.lt_succ_self _) (by rw[K0];exact vV)
  rwa [K0]at this
 have wu: ∀ av:AV,cD av=true->x=[]->y=[]-> ∃ E',Nx E E' H (cP H2 (.l t (x++y))) h h/\SR E' (cP H2 (.l t (x++y))) h/\V E' (cP H2 (.l t (x++y))).next (.os H2.next (size t)) av:=by
  intro av ha hx hy
  obtain⟨S',X⟩:=ES ⟨av,0⟩ (fun id e=>by rw[show gB av=none from B0 ha]at e;cases e) ⟨by rw[hx,hy];rfl,.inl ⟨ha,by rw[hx,hy];rfl⟩⟩
  exact⟨_,X,S',LN ⟨av,0⟩ (.inl ⟨ha,rfl⟩)⟩
 cases hc:(lX a&&z)with
 |true=>
  rw[Bool.and_eq_true]at hc
  have he:=sQ hc.1
  have hx:x=[]:=by
   rcases hd with⟨_,k⟩|⟨id,base,row,ls,k,_⟩
   ·exact k
   ·rw[k]at he;cases he
  obtain⟨E',X,S',v⟩:=wu a he hx (hz hc.2)
  exact⟨a,h,E',rfl,X,S',v⟩
 |false=>
  simp only[cond_false]
  have dL:=hy.length (EV.length t)
  have yv:dJ cJ cs=true:=by rw[eJ,List.all_eq_true];exact fun q hq=>hy.cJ (EV.cJ t) q hq
  by_cases hy0:y=[]
  ·subst hy0
   rcases hd with⟨k,hx⟩|⟨id,base,row,ls,k1,k2,k3,k4⟩
   ·obtain⟨E',X,S',v⟩:=wu .cW rfl hx rfl
    exact⟨.cW,h,E',by rw[dC k];rfl,X,S',v⟩
   ·obtain⟨S',X⟩:=ES ⟨a,x.length⟩ (fun id e=>e) ⟨by simp,.inr ⟨id,base,row,ls,k1,k2,k3,by simpa using k4⟩⟩
    refine⟨a,h,_,?_,X,S',LN ⟨a,x.length⟩ (.inr ⟨id,base,k1⟩)⟩
    subst k1;rfl
  ·have HT:0<y.length:=List.length_pos_iff.2 hy0
   have QC:Nat.beq y.length 0=false:=by cases q:Nat.beq y.length 0 with
    |false=>rfl
    |true=>have:=beq_true q;omega
   have Of:Nat.beq (len cs) (Nat.mul y.length (size t))=true:=by rw[bJ,dL];exact Nat.beq_refl _
   rcases hd with⟨k,hx⟩|⟨id,base,row,ls,k1,k2,k3,k4⟩
   ·subst hx
    rw[dC k]
    simp only[List.length_nil,Nat.zero_add]at r1 r2
    have hT:(SR (E.row H.next ⟨.dj h.next 0 y.length (size t),y.length⟩) (cP H2 (.l t ([]++y))) (cy h (pz cs))/\Nx E (E.row H.next ⟨.dj h.next 0 y.length (size t),y.length⟩) H (cP H2 (.l t ([]++y))) h (cy h (pz cs))):=by
     refine fI S hk.n hk.sub (Nat.le_succ _) (fun i hi _=>by rw[dS,if_neg (by omega)]) (fun i e=>by cases e;exact⟨Nat.lt_succ_self _,.inl (Nat.le_refl _)⟩) ?_ rfl
     refine⟨rfl,.inr ⟨h.next,0,pz cs,cs,rfl,by rw[dS,if_pos rfl],?_,hy⟩⟩
     refine dn.2 ⟨by rw[<-dm,eK,dL,Nat.zero_add];exact Nat.le_refl _,?_⟩
     rw[eK]
     show cs=List.take (y.length*size t) _
     rw[<-dL,List.drop_zero,List.take_length]
    refine⟨_,_,_,?_,hT.2,hT.1,LN _ (.inr ⟨h.next,0,rfl⟩)⟩
    show(bif Nat.beq y.length 0 then Go.Ab.Ro.ok .cW h else bif Nat.ble (Nat.mul y.length bytes) 70368744177664&&(dJ cJ cs&&(Nat.beq (len cs) (Nat.mul y.length (size t))&&Nat.ble y.length 70368744177664))then .ok (.dj h.next 0 y.length (size t)) (cy h (pz cs))else .bad)=_
    rw[QC,yv,Of,show Nat.ble (Nat.mul y.length bytes) 70368744177664=true from by rw[Nat.ble_eq];exact r1,show Nat.ble y.length 70368744177664=true from by rw[Nat.ble_eq];exact r2]
    rfl
   ·subst k1
    obtain⟨p,p1,p2⟩:=ER k3
    obtain⟨r,o,no,er⟩:=hk.id id rfl
    have hT:(SR (E.row H.next ⟨.dj h.next 0 (x.length+y.length) (size t),x.length+y.length⟩) (cP H2 (.l t (x++y))) (cy (fg h id none) (p.app cs))/\Nx E (E.row H.next ⟨.dj h.next 0 (x.length+y.length) (size t),x.length+y.length⟩) H (cP H2 (.l t (x++y))) h (cy (fg h id none) (p.app cs))):=by
     refine fI S hk.n hk.sub (Nat.le_succ _) (fun i hi q=>?_) (fun i e=>by cases e;exact⟨Nat.lt_succ_self _,.inl (Nat.le_refl _)⟩) ?_ rfl
     ·rw[dS,if_neg (by show ¬ i=h.next;omega),fp,if_neg]
      intro ei
      exact q r o no (by rw[ei];exact er)
     ·have vP:=k4.app hy
      have hlen:=vP.length (EV.length t)
      refine⟨by rw[List.length_append],.inr ⟨h.next,0,p.app cs,ls++cs,rfl,by rw[dS];exact if_pos rfl,?_,vP⟩⟩
      refine dn.2 ⟨by rw[<-dm,mG,p2,hlen,Nat.zero_add,List.length_append];exact Nat.le_refl _,?_⟩
      rw[mG,p2]
      show ls++cs=List.take ((x.length+y.length)*size t) _
      rw[<-List.length_append (as:=x),<-hlen,List.drop_zero,List.take_length]
    refine⟨_,_,_,?_,hT.2,hT.1,LN _ (.inr ⟨h.next,0,rfl⟩)⟩
    show(bif Nat.beq y.length 0 then Go.Ab.Ro.ok (.dj id base x.length (size t)) h else match h.aQ.get id with
     |none=>.bad
     |some cs'=>match cs'.sub base (Nat.mul x.length (size t))with
      |none=>.bad
      |some pre=>bif Nat.ble (Nat.mul (Nat.add x.length y.length) bytes) 70368744177664&&(Nat.beq (size t) (size t)&&(dJ cJ cs&&(Nat.beq (len cs) (Nat.mul y.length (size t))&&Nat.ble (Nat.add x.length y.length) 70368744177664)))then
       .ok (.dj h.next 0 (Nat.add x.length y.length) (size t)) (cy (fg h id none) (pre.app cs))else .bad)=_
    have Zo:row.sub base (Nat.mul x.length (size t))=some p:=p1
    rw[QC]
    simp only[cond_false,k2,Zo]
    rw[yv,Of,Nat.beq_refl,show Nat.ble (Nat.mul (Nat.add x.length y.length) bytes) 70368744177664=true from by rw[Nat.ble_eq];exact r1,show Nat.ble (Nat.add x.length y.length) 70368744177664=true from by rw[Nat.ble_eq];exact r2]
    rfl
theorem yA{E:En}{H H':Hq}{h:Hp}(S:SR E H h){bytes:Nat}{t:Ty}{s:Sv}{a:AV}{y:List (den t)}{cs:List AV}{z:Bool}{T T':Tq}{v:Sv}(hv:V E H.next s a)(hy:fT (EV E.G t) y cs)(hz:z=true->y=[])(e:(NU bytes t s y T H).val=some (v,T',H')):
 T'=T/\ ∃ c h' E',(bif lX a&&z then Go.Ab.Ro.ok a h else mD (size t) bytes h (nO a) y.length cs)=.ok c h'/\Nx E E' H H' h h'/\SR E' H' h'/\V E' H'.next v c:=by
 unfold NU at e
 split at e
 ·rename_i x H1 hx
  split at e
  ·rename_i H2 Zp
   obtain⟨q,e⟩:=Lf.T.bY e
   obtain⟨rfl,rfl,rfl⟩:=bc e
   obtain⟨E1,F,D⟩:=pT S hv hx
   have k:=ux (F.v hv) Zp
   obtain⟨c,h',E',e1,X,S',kb⟩:=Oe F.S D k (hy.mono (EV.mono F.g t)) hz q (z:=z)
   rw[bO]
   exact⟨rfl,c,h',E',e1,F.X.trans X,S',kb⟩
  ·cases e
 ·cases e
theorem Jp{h:Hp}{b:AV}{n:Nat}{cs:List AV}(hz:GP b=true)(e:cN h (nO b)=some (n,cs)):n=0:=by
 cases b with
 |dj id off m s=>
  have hz:=beq_true (show Nat.beq m 0=true from hz)
  change (match h.aQ.get id with|some cs=>(match cs.fN off (Nat.mul m s)with|some l=>some (m,l)|none=>none)|none=>none)=some (n,cs)at e
  split at e
  ·split at e
   ·cases e;exact hz
   ·cases e
  ·cases e
 |fc m l=>
  have YI:=beq_true (show Nat.beq m 0=true from hz)
  cases e;exact YI
 |cW=>cases e;rfl
 |jm=>cases e;rfl
 |sc v=>
  have:cD (.sc v)=true:=hz
  rw[dC this]at e
  cases e;rfl
 | _=>cases hz
theorem kP{size bytes:Nat}{s x:Od}{t:Tm}{h:Hp}{a b:AV}{n:Nat}{cs:List AV}(h1:bC s t=some a)(h2:bC x t=some b)(h3:cN h (nO b)=some (n,cs)):
 aF size bytes (bC s) (bC x) t h=(bif lX a&&GP b then Go.Ab.Ro.ok a h else mD size bytes h (nO a) n cs):=by
 unfold aF
 rw[h1,h2]
 show(bif lX a&&GP b then Go.Ab.Ro.ok a h else jI size bytes (wO (bC s)) (wO (bC x)) t h)=_
 congr 1
 unfold jI
 rw[show wO (bC s) t=some (nO a)from by unfold wO;rw[h1],show wO (bC x) t=some (nO b)from by unfold wO;rw[h2]]
 simp only[h3]
theorem kQ{E:En}{H:Hq}{h:Hp}(S:SR E H h){v:Sv}{b:AV}{n:Nat}{l:List Sv}(hv:V E H.next v b)(e:ng v H=some (n,l)):
 ∃ cs,cN h (nO b)=some (n,cs)/\Vs E H.next l cs/\(n=0->GP b=true)/\((cD b=true/\n=0/\l=[])∨ ∃ r s off id row,v=.xo r s off n/\b=.dj id off n s/\h.aQ.get id=some row/\row.fN off (n*s)=some cs):=by
 unfold ng at e
 split at e
 ·obtain⟨hb,e⟩:=bg e
  cases e
  cases hv with
  |a hl=>
   refine⟨[],by rw[dC hb];rfl,.nil,fun _=>?_,.inl ⟨hb,rfl,rfl⟩⟩
   cases b<;>first|rfl|(cases hl;done)|exact hb
 ·rename_i r s off m
  split at e
  ·rename_i l0 hl
   have hle:=Nat.le_of_ble_eq_true (bg e).1
   replace e:=(bg e).2
   cases e
   obtain⟨id,row,k1,k2,k3⟩:=ot S hl
   cases hv with
   |xo h1 h2=>
    rw[k1]at h2;cases h2
    rw[bJ,k3.length]at hle
    have No:off+n*s<=row.toL.length:=hle
    rw[ki,fB]
    have da:=(k3.drop off).take (n*s)
    have hs:row.fN off (n*s)=some ((row.toL.drop off).take (n*s)):=yr No
    refine⟨_,?_,da,fun hn=>by subst hn;rfl,.inr ⟨r,s,off,id,row,rfl,rfl,k2,hs⟩⟩
    show(match h.aQ.get id with|some cs=>(match cs.fN off (Nat.mul n s)with|some l=>some (n,l)|none=>none)|none=>none)=_
    rw[k2]
    have Qp:row.fN off (Nat.mul n s)=_:=hs
    simp only[Qp]
  ·cases e
 ·cases e
theorem dc{α:Type}{b:Bool}{x:T α}{r:α}(h:(bif b then x else T.bad).val=some r):b=true/\x.val=some r:=by
 cases b with
 |true=>exact⟨rfl,h⟩
 |false=>cases h
theorem ET{size bytes:Nat}{sv xv v:Sv}{T T':Tq}{E:En}{H H':Hq}{h:Hp}{t:Tm}{s x:Od}{a b:AV}(S:SR E H h)(hs:bC s t=some a)(Cy:V E H.next sv a)(hx:bC x t=some b)(BI:V E H.next xv b)(e:(Em size bytes sv xv T H).val=some (v,T',H')):
 T'=T/\ ∃ c h' E',aF size bytes (bC s) (bC x) t h=.ok c h'/\Nx E E' H H' h h'/\SR E' H' h'/\V E' H'.next v c:=by
 unfold Em at e
 obtain⟨hb,e⟩:=dc e
 rw[Bool.and_eq_true,Bool.and_eq_true]at hb
 have typed: ∀ {ty:Ty},(bif Nat.beq size (Lf.size ty)then(match NP ty xv H with|some (new,h1)=>NU bytes ty sv new T h1|none=>.bad)else .bad).val=some (v,T',H')->T'=T/\ ∃ c h' E',aF size bytes (bC s) (bC x) t h=.ok c h'/\Nx E E' H H' h h'/\SR E' H' h'/\V E' H'.next v c:=by
  intro ty e
  obtain⟨hz,e⟩:=dc e
  have hz:=beq_true hz
  split at e
  ·rename_i new H1 hn
   obtain⟨E1,F,k⟩:=yu S BI hn
   obtain⟨cs,c1,c2⟩:=sO F.S k
   obtain⟨rfl,c,h',E',e1,X,S',kb⟩:=yA F.S (F.v Cy) c2 (z:=GP b) (fun q=>List.eq_nil_of_length_eq_zero (Jp q c1)) e
   refine⟨rfl,c,h',E',?_,F.X.trans X,S',kb⟩
   rw[kP hs hx c1,hz];exact e1
  ·cases e
 split at e
 ·
  rename_i l hl
  obtain⟨cs,c1,_,c3,_⟩:=kQ S BI hl
  have Zq:=c3 rfl
  have res: ∀ w:Sv,w=v/\T'=T/\H'=H->V E H.next w a->(lX a=true∨cD a=true∨ ∃ id o n z,a=.dj id o n z)->T'=T/\ ∃ c h' E',aF size bytes (bC s) (bC x) t h=.ok c h'/\Nx E E' H H' h h'/\SR E' H' h'/\V E' H'.next v c:=by
   rintro w ⟨rfl,rfl,rfl⟩ hw hc
   refine⟨rfl,a,h,E,?_,Nx.refl _ _ _,S,hw⟩
   rw[kP hs hx c1,Zq]
   cases he:lX a with
   |true=>rfl
   |false=>
    rcases hc with hc|hc|⟨id,o,n,z,hc⟩
    ·rw[he]at hc;cases hc
    ·have:a=.cW:=by cases a<;>first|rfl|(cases he;done)|(cases hc;done)|(rename_i v0;have k:lX (.sc v0)=true:=hc;rw[k]at he;cases he)
     subst this
     rfl
    ·subst hc;rfl
  split at e
  ·obtain⟨hw,e⟩:=dc e
   cases Cy with
   |a hl=>exact res _ (bc e) (.a hl) (.inl hw)
  ·refine res _ (bc e) Cy (.inr ?_)
   cases Cy with
   |os h1 h2=>
    rcases h2 with⟨h2,_⟩|⟨_,_,h2⟩
    ·exact .inl h2
    ·exact .inr ⟨_,_,_,_,h2⟩
  ·refine res _ (bc e) Cy (.inr ?_)
   cases Cy with
   |se _ h2 _ _=>exact .inl h2
   |ss _ _ _=>exact .inr ⟨_,_,_,_,rfl⟩
  ·refine res _ (bc e) Cy (.inr ?_)
   cases Cy with
   |xo _ _=>exact .inr ⟨_,_,_,_,rfl⟩
  ·cases e
 ·rename_i m new hm hl
  have QD:m=0->False:=fun k=>hm k
  obtain⟨cs,c1,c2,c3,c4⟩:=kQ S BI hl
  split at e
  ·rename_i n j2 ho
   split at e
   ·rename_i H2 Zp
    obtain⟨hr,e⟩:=dc e
    rw[Bool.and_eq_true]at hr
    obtain⟨rfl,rfl,rfl⟩:=bc e
    obtain⟨r1,r2⟩:=lG.1 hr.1
    obtain⟨ds,d1,d2,d3,d4⟩:=kQ S Cy ho
    have k:=ux Cy Zp
    have ab6:0<m:=Nat.pos_of_ne_zero fun q=>QD q
    obtain⟨r',s',aec,o6,Jj,x1,x2,x3,x4⟩: ∃ r s off id row,xv=.xo r s off m/\b=.dj id off m s/\h.aQ.get id=some row/\row.fN off (m*s)=some cs:=by
     rcases c4 with⟨_,q,_⟩|q
     ·omega
     ·exact q
    have Qp:s'=size:=by have q:=beq_true hb.2.1;rw[x1]at q;exact q
    have dL:cs.length=m*size:=by
     obtain⟨q1,q2⟩:=dn.1 x4
     rw[q2,List.length_take,List.length_drop,dm,Qp];rw[Qp]at q1;omega
    have QC:Nat.beq m 0=false:=by cases q:Nat.beq m 0 with
     |false=>rfl
     |true=>have:=beq_true q;omega
    have Of:Nat.beq (len cs) (Nat.mul m size)=true:=by rw[bJ,dL];exact Nat.beq_refl _
    have Zq:GP b=false:=by rw[x2];exact QC
    have yv:dJ cJ cs=true:=by
     rw[eJ,List.all_eq_true]
     refine c2.xF fun q hq=>?_
     have:=hr.2;rw[eJ,List.all_eq_true]at this;exact this q hq
    have lM:0<size:=bt.1 hb.2.2
    rw[bO]
    refine⟨rfl,?_⟩
    rw[kP hs hx c1,Zq,Bool.and_false,cond_false]
    have LN:V (E.row H.next ⟨.ref h.next 0,0⟩) (cP H2 (.o 0 (j2++new))).next (.xo H2.next size 0 (Nat.add n m)) (.dj h.next 0 (n+m) size):=by
     refine .xo (id:=h.next) (Nat.lt_succ_self _) ?_
     show(if H2.next=H.next then _ else _:Kr).av=_
     rw[if_pos k.n]
    rcases d4 with⟨q1,q2,q3⟩|⟨r1',Jq,Jr,Og,Zr,y1,y2,y3,y4⟩
    ·subst q2;subst q3
     rw[dC q1]
     simp only[Nat.add_eq,Nat.zero_add]at r1 r2
     have hT:SR (E.row H.next ⟨.ref h.next 0,0⟩) (cP H2 (.o 0 ([]++new))) (cy h (pz cs))/\Nx E (E.row H.next ⟨.ref h.next 0,0⟩) H (cP H2 (.o 0 ([]++new))) h (cy h (pz cs)):=by
      refine fI S k.n k.sub (Nat.le_succ _) (fun i hi _=>by rw[dS,if_neg (by omega)]) (fun i e=>by cases e;exact⟨Nat.lt_succ_self _,.inl (Nat.le_refl _)⟩) ?_ rfl
      exact⟨h.next,pz cs,rfl,by rw[dS,if_pos rfl],by rw[eK];exact c2,fun h=>(h rfl).elim⟩
     rw[Nat.zero_add]at LN
     refine⟨_,_,_,?_,hT.2,hT.1,LN⟩
     show(bif Nat.beq m 0 then Go.Ab.Ro.ok .cW h else bif Nat.ble (Nat.mul m bytes) 70368744177664&&(dJ cJ cs&&(Nat.beq (len cs) (Nat.mul m size)&&Nat.ble m 70368744177664))then .ok (.dj h.next 0 m size) (cy h (pz cs))else .bad)=_
     rw[QC,yv,Of,show Nat.ble (Nat.mul m bytes) 70368744177664=true from by rw[Nat.ble_eq];exact r1,show Nat.ble m 70368744177664=true from by rw[Nat.ble_eq];exact r2]
     rfl
    ·have xy:Jq=size:=by have q:=beq_true hb.1;rw[y1]at q;exact q
     subst xy
     subst y2
     obtain⟨p,p1,p2⟩:=ER y4
     obtain⟨r,o,no,er⟩:=k.id Og rfl
     have hT:SR (E.row H.next ⟨.ref h.next 0,0⟩) (cP H2 (.o 0 (j2++new))) (cy (fg h Og none) (p.app cs))/\Nx E (E.row H.next ⟨.ref h.next 0,0⟩) H (cP H2 (.o 0 (j2++new))) h (cy (fg h Og none) (p.app cs)):=by
      refine fI S k.n k.sub (Nat.le_succ _) (fun i hi q=>?_) (fun i e=>by cases e;exact⟨Nat.lt_succ_self _,.inl (Nat.le_refl _)⟩) ?_ rfl
      ·rw[dS,if_neg (by show ¬ i=h.next;omega),fp,if_neg]
       intro ei
       exact q r o no (by rw[ei];exact er)
      ·refine⟨h.next,p.app cs,rfl,by rw[dS];exact if_pos rfl,?_,fun h=>(h rfl).elim⟩
       rw[mG,p2]
       change cN h (.dj Og Jr n Jq)=some (n,ds)at d1
       have:ds=ds:=rfl
       exact d2.app c2
     refine⟨_,_,_,?_,hT.2,hT.1,LN⟩
     show(bif Nat.beq m 0 then Go.Ab.Ro.ok (.dj Og Jr n Jq) h else match h.aQ.get Og with
      |none=>.bad
      |some cs'=>match cs'.sub Jr (Nat.mul n Jq)with
       |none=>.bad
       |some pre=>bif Nat.ble (Nat.mul (Nat.add n m) bytes) 70368744177664&&(Nat.beq Jq Jq&&(dJ cJ cs&&(Nat.beq (len cs) (Nat.mul m Jq)&&Nat.ble (Nat.add n m) 70368744177664)))then
        .ok (.dj h.next 0 (Nat.add n m) Jq) (cy (fg h Og none) (pre.app cs))else .bad)=_
     have Zo:Zr.sub Jr (Nat.mul n Jq)=some p:=p1
     rw[QC]
     simp only[cond_false,y3,Zo]
     rw[yv,Of,Nat.beq_refl,show Nat.ble (Nat.mul (Nat.add n m) bytes) 70368744177664=true from by rw[Nat.ble_eq];exact r1,show Nat.ble (Nat.add n m) 70368744177664=true from by rw[Nat.ble_eq];exact r2]
     rfl
   ·cases e
  ·split at e
   ·exact typed e
   ·cases e
 ·split at e
  ·exact typed e
  ·cases e
end Lf
end Go.Ab

noncomputable section
namespace Go.Ab
namespace Lf
theorem EU{E:En}{H:Hq}{h:Hp}(S:SR E H h){r:Nat}{R R':Row}(hr:H.aQ.get r=some R)(lv:R.live=true)(hR:RV E H.next h (E.K r) R'):SR E (eV H r (some R')) h/\Nx E E H (eV H r (some R')) h h:=by
 have ow: ∀ q,own (eV H r (some R')) q->own H q:=by
  rintro q ⟨Q,a,b⟩
  rw[dx]at a
  split at a
  ·rename_i e;rw[e];exact⟨R,hr,lv⟩
  ·exact⟨Q,a,b⟩
 refine⟨⟨?_,?_,?_,?_⟩,⟨pQ.refl _ _,Nat.le_refl _,Nat.le_refl _,fun q id o e=>.inl ⟨q,ow q o,e⟩,fun _ _ e=>.inl e,fun _ _ _=>rfl⟩⟩
 ·intro q Q hq
  rw[dx]at hq
  split at hq
  ·rename_i e;subst e;cases hq;exact⟨(S.row _ _ hr).1,hR⟩
  ·exact S.row _ _ hq
 ·exact fun a b i oa ob ea eb=>S.inj a b i (ow a oa) (ow b ob) ea eb
 ·exact fun a i oa ea=>S.lt a i (ow a oa) ea
 ·intro i row e
  obtain⟨a,b,c⟩:=S.g i row e
  exact⟨a,b,fun q oq=>c q (ow q oq)⟩
theorem EW{G:Nat->Option Rw}{t:Ty}{x y:List (den t)}{ls cs:List AV}(e:fT (EV G t) x ls)(k:fT (EV G t) y cs)(off:Nat):fT (EV G t) (x.take off++(y++x.drop (off+y.length))) (ls.take (off*size t)++(cs++ls.drop (off*size t+y.length*size t))):=by
 have h1:=e.take (EV.length t) off
 have h2:=e.drop (EV.length t) (off+y.length)
 rw[Nat.add_mul]at h2
 exact h1.app (k.app h2)
theorem B7{size:Nat}{d s:Od}{t:Tm}{h:Hp}{b:AV}{m:Nat}{cs:List AV}(h1:bC d t=some .cW)(h2:bC s t=some b)(h3:cN h b=some (m,cs)):fQ size (bC d) (bC s) t h=.ok (.int .i64 (.ofNat 0)) h:=by
 unfold fQ
 rw[h1,h2]
 simp only[h3]
theorem Js{size:Nat}{d s:Od}{t:Tm}{h:Hp}{b:AV}{m id off n sz:Nat}{cs:List AV}(h1:bC d t=some (.dj id off n sz))(h2:bC s t=some b)(h3:cN h b=some (m,cs))(h0:min m n=0):fQ size (bC d) (bC s) t h=.ok (.int .i64 (.ofNat 0)) h:=by
 unfold fQ
 rw[h1,h2]
 simp only[h3,mH,h0]
 rfl
theorem Jt{size:Nat}{d s:Od}{t:Tm}{h:Hp}{b:AV}{m id off n sz:Nat}{cs:List AV}{row:Rw}(h1:bC d t=some (.dj id off n sz))(h2:bC s t=some b)(h3:cN h b=some (m,cs))(h0:min m n≠0)(hr:h.aQ.get id=some row)(hz:0<size)(hs:sz=size)
 (hl:cs.length=m*size)(hc: ∀ a,a∈cs->cJ a=true)(hn:off+min m n*size<=row.n):fQ size (bC d) (bC s) t h=.ok (.int .i64 (.ofNat (min m n))) (fg h id (some (row.put off (cs.take (min m n*size))))):=by
 unfold fQ
 rw[h1,h2]
 have hb:Nat.beq (min m n) 0=false:=by
  cases q:Nat.beq (min m n) 0 with
  |false=>rfl
  |true=>exact(h0 (Nat.eq_of_beq_eq_true q)).elim
 have q:((Nat.blt 0 size&&(Nat.beq sz size&&(Nat.beq (len cs) (Nat.mul m size)&&dJ Go.Ab.cJ cs)))&&Nat.ble (Nat.add off (Nat.mul (min m n) size)) row.n)=true:=by
  have a1:Nat.blt 0 size=true:=by simpa using hz
  have a2:Nat.beq sz size=true:=by rw[hs];exact Nat.beq_refl _
  have a3:Nat.beq (len cs) (Nat.mul m size)=true:=by rw[bJ,hl];exact Nat.beq_refl _
  have a4:dJ Go.Ab.cJ cs=true:=by rw[eJ,List.all_eq_true];exact hc
  have a5:Nat.ble (Nat.add off (Nat.mul (min m n) size)) row.n=true:=by rw[Nat.ble_eq];exact hn
  rw[a1,a2,a3,a4,a5]
  rfl
 simp only[h3,mH,hb,cond_false,hr,q,cond_true,ki]
 rfl
theorem Ju{row:Rw}{ls new:List AV}{base k o:Nat}(s:row.fN base k=some ls)(hk:ls.length=k)(ho:o+new.length<=k):(row.put (base+o) new).fN base k=some (ls.take o++(new++ls.drop (o+new.length))):=by
 obtain⟨s1,s2⟩:=dn.1 s
 have hn:base+o+new.length<=row.n:=by omega
 refine dn.2 ⟨by show base+k<=row.n;exact s1,?_⟩
 have l5:row.toL=row.toL.take base++(ls++row.toL.drop (base+k)):=by
  rw[s2,<-List.drop_drop,List.take_append_drop,List.take_append_drop]
 have xN:(row.toL.take base).length=base:=by rw[List.length_take,dm];omega
 have e1:=pR ls (row.toL.drop (base+k)) new o (by omega) (row.toL.take base)
 rw[<-l5,xN]at e1
 rw[mF hn,e1,List.drop_append_of_le_length (by rw[xN];exact Nat.le_refl _)]
 rw[show List.drop base (row.toL.take base)=[]from by rw[List.drop_eq_nil_iff,xN];exact Nat.le_refl _,List.nil_append]
 rw[List.take_append_of_le_length (by rw[pS _ _ _ (by omega)];omega)]
 rw[show List.take k (put ls o new)=put ls o new from by rw[List.take_of_length_le];rw[pS _ _ _ (by omega)];omega]
 rw[put_eq]
theorem EX{t:Ty}{v:Sv}{a:AV}{x:List (den t)}{E:En}{H H1:Hq}{h:Hp}(S:SR E H h)(hv:V E H.next v a)(e:Es t v H=some (x,H1)): ∃ E1,Fz E E1 H H1 h/\ ∃ cs,cN h (nO a)=some (x.length,cs)/\fT (EV E1.G t) x cs:=by
 unfold Es at e
 split at e
 ·rename_i r hr
  cases e
  obtain⟨E1,F,D⟩:=pT S hv hr
  refine⟨E1,F,?_⟩
  rcases D with⟨d1,rfl⟩|⟨id,base,row,ls,d1,d2,d3,d4⟩
  ·exact⟨[],by rw[dC d1];rfl,rfl⟩
  ·refine⟨ls,?_,d4⟩
   rw[d1]
   show(match h.aQ.get id with|some cs=>(match cs.fN base (Nat.mul x.length (size t))with|some l=>some (x.length,l)|none=>none)|none=>none)=_
   rw[d2]
   have s':row.fN base (Nat.mul x.length (size t))=some ls:=d3
   simp only[s']
 ·obtain⟨E1,F,kc⟩:=yu S hv e
  obtain⟨cs,c1,c2⟩:=sO F.S kc
  exact⟨E1,F,cs,c1,c2⟩
theorem EY{size:Nat}{d s:Od}{r sz off n:Nat}{sv v:Sv}{E:En}{T T':Tq}{t:Tm}{H H':Hq}{h:Hp}{b c:AV}(hT:TV E H.next T t)(S:SR E H h)(hs:bC s t=some (nO b))(Cy:V E H.next sv b)(hd:bC d t=some (nO c))
 (hk:(n=0/\cD c=true)∨ ∃ id base,(E.K r).av=.dj id base (E.K r).n sz/\c=.dj id (base+off*sz) n sz/\off+n<=(E.K r).n)(e:(I2 size sv r sz off n T H).val=some (v,T',H')):
 ∃ a h' E',Ev (fun _ _=>fQ size (bC d) (bC s) t h) (.ok a h')/\Nx E E' H H' h h'/\SR E' H' h'/\V E' H'.next v a/\TV E' H'.next T' t:=by
 unfold I2 at e
 split at e
 ·rename_i ty x hr
  obtain⟨hb,e⟩:=dc e
  rw[Bool.and_eq_true,Bool.and_eq_true]at hb
  obtain⟨b0,b1,b2⟩:=hb
  have b0:0<size:=by simpa using b0
  have b1:=beq_true b1
  have b2:=beq_true b2
  split at e
  ·rename_i y H1 hy
   split at e
   ·rename_i t2 x2 QB
    obtain⟨rfl,rfl,rfl⟩:=bc e
    obtain⟨E1,F,cs,c1,c2⟩:=EX S Cy hy
    have q:=(S.row _ _ hr).2
    have dL:cs.length=y.length*size:=by rw[c2.length (EV.length ty),b2]
    have lrm:LR E1.G ty x (E1.K r) h.aQ.get:=by rw[F.K];exact LR.mono F.g (fun _ _ _ e=>e) q
    rw[bO,bO]
    by_cases h0:min y.length n=0
    ·have rM:x.take off++(y.take (min y.length n)++x.drop (Nat.add off (min y.length n)))=x:=by
      rw[h0,List.take_zero,List.nil_append]
      exact List.take_append_drop _ _
     rw[rM]
     obtain⟨S1,X1⟩:=EU F.S QB rfl (R':=.l ty x) lrm
     refine⟨.int .i64 (.ofNat 0),h,E1,?_,F.X.trans X1,S1,?_,hT.mono (F.X.trans X1).e (F.X.trans X1).le⟩
     ·rcases hk with⟨hn,hc⟩|⟨id,base,k1,k2,k3⟩
      ·exact Ev.const (B7 (by rw[hd,dC hc]) hs c1)
      ·exact Ev.const (Js (by rw[hd,k2];rfl) hs c1 h0)
     ·rw[h0];exact dR
    ·rcases hk with⟨hn,hc⟩|⟨id,base,k1,k2,k3⟩
     ·subst hn;rw[Nat.min_zero]at h0;exact(h0 rfl).elim
     ·rcases lrm.2 with⟨k,_⟩|⟨o6,EH,row,ls,p1,p2,p3,p4⟩
      ·rw[F.K,k1]at k;cases k
      ·rw[F.K,k1]at p1
       injection p1 with a1 a2 a3 a4
       subst a1;subst a2
       have hxn:x.length=(E.K r).n:=q.1
       have Zn:ls.length=(E1.K r).n*size:=by rw[p4.length (EV.length ty),F.K,hxn,b2]
       obtain⟨w,hw⟩: ∃ w,w=min y.length n:=⟨_,rfl⟩
       have hwn:w<=n:=by rw[hw];exact Nat.min_le_right _ _
       have hwy:w<=y.length:=by rw[hw];exact Nat.min_le_left _ _
       have hyl:(y.take w).length=w:=by rw[List.length_take];exact Nat.min_eq_left hwy
       have hcw:(cs.take (w*size)).length=w*size:=by
        rw[List.length_take,dL];exact Nat.min_eq_left (Nat.mul_le_mul_right _ hwy)
       have hm:off*size+w*size<=(E.K r).n*size:=by rw[<-Nat.add_mul];exact Nat.mul_le_mul_right _ (by omega)
       have p3':row.fN base ((E1.K r).n*size)=some ls:=by rw[b2];exact p3
       obtain⟨s1,_⟩:=dn.1 p3'
       rw[F.K]at s1
       have ps:=Ju (o:=off*size) (new:=cs.take (w*size)) p3' Zn (by rw[hcw,F.K];exact hm)
       have he:=EW p4 (by have:=c2.take (EV.length ty) w;rw[<-b2]at this;exact this) off
       rw[hyl,<-b2]at he
       rw[hcw]at ps
       have eO:gB (E1.K r).av=some id:=by rw[F.K,k1];rfl
       have hR:RV E1 H1.next (fg h id (some (row.put (base+off*size) (cs.take (w*size))))) (E1.K r) (.l ty (x.take off++(y.take w++x.drop (off+w)))):=by
        refine⟨?_,.inr ⟨id,base,_,_,by rw[F.K,k1,b1,b2],by rw[fp,if_pos rfl],by rw[<-b2];exact ps,he⟩⟩
        rw[F.K,<-hxn,List.length_append,List.length_append,List.length_take,hyl,List.length_drop]
        omega
       obtain⟨S1,X1⟩:=uw F.S QB rfl rfl eO hR
       rw[<-hw]
       refine⟨.int .i64 (.ofNat w),_,E1,Ev.const ?_,F.X.trans X1,S1,dR,hT.mono (F.X.trans X1).e (F.X.trans X1).le⟩
       have:=Jt (size:=size) (by rw[hd,k2];rfl) hs c1 h0 p2 b0 b1 dL (fT.cJ (EV.cJ ty) c2) (by rw[b1,<-hw];omega)
       rw[b1,<-hw]at this
       exact this
   ·cases e
  ·cases e
 ·cases e
theorem EZ(size:Nat)(d s:Od):du (Et size d s) (fun _ _=>fQ size (bC d) (bC s)):=by
 intro E T t H h v T' H' hT hH e
 unfold Et at e
 split at e
 ·rename_i sv hs
  obtain⟨b,hb,Cz⟩:=je hT hs
  split at e
  ·rename_i r sz hd
   obtain⟨c,hc,dV⟩:=je hT hd
   split at e
   ·rename_i ty x hr
    refine EY hT hH hb Cz hc ?_ e
    have q:=(hH.row _ _ hr).2
    cases dV with
    |os h1 h2=>
     rcases h2 with⟨h2,h3⟩|⟨id,base,h2⟩
     ·exact .inl ⟨by have:=q.1;omega,h2⟩
     ·exact .inr ⟨id,base,h2,by rw[h2,q.1,Nat.zero_mul,Nat.add_zero],by have:=q.1;omega⟩
   ·cases e
  ·rename_i r sz off n hd
   obtain⟨c,hc,dV⟩:=je hT hd
   refine EY hT hH hb Cz hc ?_ e
   cases dV with
   |se h1 h2 h3 h4=>exact .inl ⟨rfl,h2⟩
   |ss h1 h2 h3=>exact .inr ⟨_,_,h2,rfl,h3⟩
  ·cases e
 ·cases e
end Lf
end Go.Ab

noncomputable section
namespace Go.Ab
namespace Lf
theorem yB(size bytes:Nat)(s x:Od):du (uk size bytes s x) (fun _ _=>aF size bytes (bC s) (bC x)):=by
 intro E T t H h v T' H' hT hH e
 unfold uk at e
 split at e
 ·rename_i sv hs
  split at e
  ·rename_i xv hx
   obtain⟨a,ha,qZ⟩:=bw hT hs
   obtain⟨b,hb,Cz⟩:=bw hT hx
   obtain⟨rfl,c,h',E',e1,X,S',kb⟩:=ET hH ha qZ hb Cz e
   exact⟨c,h',E',Ev.const e1,X,S',kb,hT.mono X.e X.le⟩
  ·cases e
 ·cases e
theorem Oh:SR ⟨fun _=>⟨.any,0⟩,fun _=>.any,fun _=>none,fun _=>.any⟩ ⟨0,.nil⟩ ⟨0,.nil⟩:=
 ⟨(fun _ _ e=>by cases e),(fun _ _ _ o=>by obtain⟨_,e,_⟩:=o;cases e),(fun _ _ o=>by obtain⟨_,e,_⟩:=o;cases e),(fun _ _ e=>by cases e)⟩
theorem wv{z:List AV}{t:Ty}{x:den t}(e:zS z=some ⟨t,x⟩)(G:Nat->Option Rw):EV G t x z:=by
 unfold zS at e
 split at e
 ·rename_i t' ht
  split at e
  ·rename_i l hl
   split at e
   ·rename_i y q hy
    cases e
    obtain⟨E',c,d,F,Oa,QE,hd⟩:=mf t _ _ _ l [] z x q Oh (nh hl) hy
    have:d=[]:=by cases hd;rfl
    rw[this,List.append_nil]at Oa
    rw[Oa]
    refine EV.mono (fun id row k=>?_) _ _ _ QE
    have:=(F.S.g id row k).1
    exact absurd this (Nat.not_lt_zero _)
   ·cases e
  ·cases e
 ·cases e
theorem uy{G:Nat->Option Rw}{t:Ty}{x:den t}{z:List AV}(h:EV G t x z): ∀ n,fT (EV G t) (List.replicate n x) (dO n z)
 |0=>rfl
 |n+1=>by
  rw[List.replicate_succ]
  show fT _ _ (app z (dO n z))
  rw[bO]
  exact⟨z,_,rfl,h,uy h n⟩
theorem E5(size bytes:Nat)(z:List AV)(s x:Od):du (Eo size bytes z s x) (fun _ _=>j1 size bytes z (bC s) (bC x)):=by
 intro E T t H h v T' H' hT hH e
 unfold Eo at e
 split at e
 ·rename_i sv hs
  split at e
  ·rename_i xv hx
   split at e
   ·rename_i k n hn
    obtain⟨_,e⟩:=dc e
    split at e
    ·rename_i ty y hz
     obtain⟨hb,e⟩:=dc e
     obtain⟨h0,e⟩:=Lf.T.bY e
     rw[Bool.and_eq_true]at hb
     have Zs:=beq_true hb.1
     obtain⟨a,ha,qZ⟩:=bw hT hs
     obtain⟨b,xt,Cz⟩:=bw hT hx
     have:=eF Cz hn;subst this
     obtain⟨j,rfl⟩:=Int.eq_ofNat_of_zero_le (by simpa using h0)
     have hy:=uy (wv hz E.G) (j:Int).toNat
     obtain⟨rfl,c,h',E',e1,X,S',kb⟩:=yA hH qZ hy (z:=Nat.beq j 0) (fun q=>by have:=beq_true q;subst this;rfl) e
     refine⟨c,h',E',Ev.const ?_,X,S',kb,hT.mono X.e X.le⟩
     unfold j1
     rw[ha,xt]
     rw[List.length_replicate]at e1
     show(bif lX a&&Nat.beq j 0 then Go.Ab.Ro.ok a h else mD size bytes h (nO a) j (dO j z))=_
     rw[Zs];exact e1
    ·cases e
   ·cases e
  ·cases e
 ·cases e
theorem ov(G:Nat->Option Rw): ∀ (l:List UInt8),fT (EV G (.int .u8)) (l.map fun b=>Int.ofNat b.toNat) (l.map fun b=>AV.int .u8 (.ofNat b.toNat))
 | []=>rfl
 |b::l=>⟨[_],_,rfl,rfl,ov G l⟩
theorem E6(bytes:Nat)(s x:Od):du (Ep bytes s x) (fun _ _=>mE bytes (bC s) (bC x)):=by
 intro E T t H h v T' H' hT hH e
 unfold Ep at e
 split at e
 ·rename_i sv hs
  split at e
  ·rename_i xv hx
   split at e
   ·rename_i k y hn
    obtain⟨_,e⟩:=dc e
    obtain⟨a,ha,qZ⟩:=bw hT hs
    obtain⟨b,xt,Cz⟩:=bw hT hx
    have:=j8 Cz hn;subst this
    have hl:y.data.toList.length=y.size:=Array.length_toList
    obtain⟨rfl,c,h',E',e1,X,S',kb⟩:=yA hH qZ (ov E.G y.data.toList) (z:=Nat.beq y.size 0) (fun q=>by have:=beq_true q;rw[<-hl]at this;rw[List.eq_nil_of_length_eq_zero this];rfl) e
    refine⟨c,h',E',Ev.const ?_,X,S',kb,hT.mono X.e X.le⟩
    unfold mE
    rw[ha,xt]
    rw[List.length_map,hl]at e1
    exact e1
   ·cases e
  ·cases e
 ·cases e
theorem B8(x:Od):du (yn x) (fun _ _=>jH (bC x)):=by
 intro E T t H h v T' H' hT hH e
 unfold yn at e
 split at e
 ·rename_i xv hx
  split at e
  ·rename_i k y hn
   obtain⟨rfl,rfl,rfl⟩:=bc e
   obtain⟨b,xt,Cz⟩:=bw hT hx
   have:=j8 Cz hn;subst this
   have hl:y.data.toList.length=y.size:=Array.length_toList
   obtain⟨S,X⟩:=LJ hH (t:=.int .u8) (rw:=pz (y.data.toList.map fun b=>AV.int .u8 (.ofNat b.toNat))) (by rw[eK];exact ov E.G y.data.toList)
   refine⟨.dj h.next 0 y.size 1,_,_,Ev.const ?_,X,S,?_,hT.mono X.e X.le⟩
   ·unfold jH
    rw[xt]
   ·have hv:=V.os (E:=E.row H.next ⟨.dj h.next 0 (y.data.toList.map fun b=>Int.ofNat b.toNat).length (Lf.size (.int .u8)),(y.data.toList.map fun b=>Int.ofNat b.toNat).length⟩) (N:=(cP H (.l (.int .u8) (y.data.toList.map fun b=>Int.ofNat b.toNat))).next) (r:=H.next) (sz:=1) (Nat.lt_succ_self _) (.inr ⟨h.next,0,by show(if H.next=H.next then _ else _:Kr).av=AV.dj _ _ (if H.next=H.next then _ else _:Kr).n _;rw[if_pos rfl];rfl⟩)
    have e2:((E.row H.next ⟨.dj h.next 0 (y.data.toList.map fun b=>Int.ofNat b.toNat).length (Lf.size (.int .u8)),(y.data.toList.map fun b=>Int.ofNat b.toNat).length⟩).K H.next).av=.dj h.next 0 y.size 1:=by
     show(if H.next=H.next then _ else _:Kr).av=_
     rw[if_pos rfl]
     show AV.dj _ _ _ _=_
     rw[List.length_map,hl];rfl
    rw[e2]at hv
    exact hv
  ·cases e
 ·cases e
theorem Jv{T:Tq}{l c:Od}{lv cv:Sv}{k k':IntKind}{m n:Int}(h:BX l c=true)(h1:fM l T=some lv)(h2:fM c T=some cv)(e1:toN lv=some (k,m))(e2:toN cv=some (k',n)):m=n:=by
 unfold BX at h
 split at h
 ·have:=beq_true h;subst this
  rw[h1]at h2;cases h2
  rw[e1]at e2;cases e2;rfl
 ·cases h1;cases h2;cases e1;cases e2
  exact cH.1 h
 ·cases h
theorem E7(size bytes:Nat)(z:List AV)(l c:Od):du (Er size bytes z l c) (fun _ _=>jo size bytes z (bC l) (bC c)):=by
 intro E T t H h v T' H' hT hH e
 unfold Er at e
 split at e
 ·rename_i lv hl
  split at e
  ·rename_i cv hc
   split at e
   ·rename_i k l' hln
    split at e
    ·rename_i k' c' hcn
     split at e
     ·rename_i ty y hz
      obtain⟨hb,e⟩:=dc e
      obtain⟨h0,e⟩:=Lf.T.bY e
      obtain⟨rfl,rfl,rfl⟩:=bc e
      rw[Bool.and_eq_true]at hb
      have Zs:=beq_true hb.1
      simp only[Bool.and_eq_true,decide_eq_true_eq]at h0
      obtain⟨⟨h1,h2⟩,h3⟩:=h0
      obtain⟨a,ha,qZ⟩:=bw hT hl
      obtain⟨b,xt,Cz⟩:=bw hT hc
      have:=eF qZ hln;subst this
      have:=eF Cz hcn;subst this
      have heq:BX l c=true->l'=c':=fun q=>Jv q hl hc hln hcn
      obtain⟨m,rfl⟩:=Int.eq_ofNat_of_zero_le h1
      obtain⟨n,rfl⟩:=Int.eq_ofNat_of_zero_le (Int.le_trans h1 h2)
      have hmn:m<=n:=by omega
      have h3:n*bytes<=70368744177664:=h3
      have hk:jo size bytes z (bC l) (bC c) t h=bif Nat.beq n 0 then .ok .jm h else .ok (.dj h.next 0 m size) (cy h ⟨Nat.mul n (len z),z,.nil⟩):=by
       unfold jo
       rw[ha,xt]
       show(bif Nat.ble m n&&Nat.ble (Nat.mul n bytes) 70368744177664 then(bif Nat.beq n 0 then Go.Ab.Ro.ok .jm h else .ok (.dj h.next 0 m size) (cy h ⟨Nat.mul n (len z),z,.nil⟩))else .bad)=_
       rw[show Nat.ble m n=true from by rw[Nat.ble_eq];exact hmn,show Nat.ble (Nat.mul n bytes) 70368744177664=true from by rw[Nat.ble_eq];exact h3]
       rfl
      have Zt:=uy (wv hz E.G) n
      simp only[Int.toNat_natCast]
      cases hn:Nat.beq n 0 with
      |true=>
       have Lj:=beq_true hn
       subst Lj
       have QD:m=0:=by omega
       subst QD
       rw[hn]at hk
       have GZ:SR (E.row H.next ⟨.jm,0⟩) (cP H (.l ty (List.replicate 0 y))) h/\Nx E (E.row H.next ⟨.jm,0⟩) H (cP H (.l ty (List.replicate 0 y))) h h:=
        fI hH rfl (fun _ _ e=>e) (Nat.le_refl _) (fun _ _ _=>rfl) (fun _ e=>by cases e) ⟨rfl,.inl ⟨rfl,rfl⟩⟩ rfl
       refine⟨.jm,h,_,Ev.const hk,GZ.2,GZ.1,?_,hT.mono GZ.2.e GZ.2.le⟩
       have K0:(E.row H.next ⟨.jm,0⟩).K H.next=⟨.jm,0⟩:=if_pos rfl
       cases hq:BX l c with
       |true=>
        have:=V.os (E:=E.row H.next ⟨.jm,0⟩) (N:=(cP H (.l ty (List.replicate 0 y))).next) (r:=H.next) (sz:=size) (Nat.lt_succ_self _) (.inl (by rw[K0];exact⟨rfl,rfl⟩))
        rw[K0]at this;exact this
       |false=>
        have:=V.se (E:=E.row H.next ⟨.jm,0⟩) (N:=(cP H (.l ty (List.replicate 0 y))).next) (r:=H.next) (sz:=size) (off:=0) (Nat.lt_succ_self _) (by rw[K0];rfl) (by rw[K0]) rfl
        rw[K0]at this;exact this
      |false=>
       rw[hn]at hk
       obtain⟨S,X⟩:=LJ hH (t:=ty) (x:=List.replicate n y) (rw:=⟨Nat.mul n (len z),z,.nil⟩) (by rw[zd];exact Zt)
       refine⟨_,_,_,Ev.const hk,X,S,?_,hT.mono X.e X.le⟩
       have K0:(E.row H.next ⟨.dj h.next 0 (List.replicate n y).length (Lf.size ty),(List.replicate n y).length⟩).K H.next=⟨.dj h.next 0 n size,n⟩:=by
        show(if H.next=H.next then _ else _)=_
        rw[if_pos rfl,List.length_replicate,Zs]
       cases hq:BX l c with
       |true=>
        have Zu:m=n:=by have:=heq hq;omega
        subst Zu
        have:=V.os (E:=E.row H.next ⟨.dj h.next 0 (List.replicate m y).length (Lf.size ty),(List.replicate m y).length⟩) (N:=(cP H (.l ty (List.replicate m y))).next) (r:=H.next) (sz:=size) (Nat.lt_succ_self _) (.inr (by rw[K0];exact⟨_,_,rfl⟩))
        rw[K0]at this;exact this
       |false=>
        have:=V.ss (E:=E.row H.next ⟨.dj h.next 0 (List.replicate n y).length (Lf.size ty),(List.replicate n y).length⟩) (N:=(cP H (.l ty (List.replicate n y))).next) (r:=H.next) (sz:=size) (off:=0) (n:=m) (id:=h.next) (base:=0) (Nat.lt_succ_self _) (by rw[K0]) (by rw[K0];show 0+m<=n;omega)
        rw[Nat.zero_mul]at this;exact this
     ·cases e
    ·cases e
   ·cases e
  ·cases e
 ·cases e
def mh(call:dY)(aP:a8):Prop:= ∀ (E:En) (f:FuncId) (args:List Sv) (as:List AV) (H:Hq) (h:Hp) (v:Sv) (H':Hq),Vs E H.next args as->SR E H h->(call f args H).val=some (v,H')->
 ∃ c h' E',Ev (fun n d=>aP n d f as h) (.ok c h')/\Nx E E' H H' h h'/\SR E' H' h'/\V E' H'.next v c
section
variable {call:dY}{aP:a8}(C:mh call aP)
include C
theorem E8(f:FuncId)(args:List Od):du (Eu call f args) (fun n d=>aj (aP n d) f (args.map bC)):=by
 intro E T t H h v T' H' hT hH e
 unfold Eu at e
 split at e
 ·rename_i vs hv
  obtain⟨p,e1,e2⟩:=Lf.T.cE e
  obtain⟨rfl,rfl,rfl⟩:=bc e2
  obtain⟨cs,hc,dV⟩:=uq hT hv
  obtain⟨c,h',E',k,X,S,w⟩:=C E f vs cs H h p.1 p.2 dV hH e1
  refine⟨c,h',E',?_,X,S,w,hT.mono X.e X.le⟩
  unfold aj
  simp only[hc]
  exact k
 ·cases e
theorem B9(f:Od)(args:List Od):du (yp call f args) (fun n d=>eB (aP n d) (bC f) (args.map bC)):=by
 intro E T t H h v T' H' hT hH e
 unfold yp at e
 split at e
 ·rename_i g cap hg
  split at e
  ·rename_i vs hv
   obtain⟨p,e1,e2⟩:=Lf.T.cE e
   obtain⟨rfl,rfl,rfl⟩:=bc e2
   obtain⟨a,ha,qZ⟩:=bw hT hg
   obtain⟨cs,hc,dV⟩:=uq hT hv
   cases qZ with
   |fn qn=>
    rename_i l'
    rw[bO]at e1
    obtain⟨c,h',E',k,X,S,w⟩:=C E g _ _ H h p.1 p.2 (dV.app qn) hH e1
    refine⟨c,h',E',?_,X,S,w,hT.mono X.e X.le⟩
    unfold eB
    simp only[ha,hc,bO]
    exact k
  ·cases e
 ·cases e
omit C in
theorem E9{h:Hp}: ∀ (l:List Sv) (cs:List AV) (E:En) (H:Hq),SR E H h->Vs E H.next l cs->
 ∃ E',Nx E E' H ⟨(fG l H.next).2,H.aQ⟩ h h/\SR E' ⟨(fG l H.next).2,H.aQ⟩ h/\Vs E' (fG l H.next).2 (fG l H.next).1 cs:=by
 intro l
 induction l with
 |nil=>intro cs E H S v;exact⟨E,Nx.refl _ _ _,S,v⟩
 |cons a l ih=>
  intro cs E H S v
  have plain: ∀ (c:AV) (cs':List AV),cs=c::cs'->V E H.next a c->Vs E H.next l cs'-> ∃ E',Nx E E' H ⟨(fG l H.next).2,H.aQ⟩ h h/\SR E' ⟨(fG l H.next).2,H.aQ⟩ h/\Vs E' (fG l H.next).2 (a::(fG l H.next).1) cs:=by
   rintro c cs' rfl va vl
   obtain⟨E',n1,s1,v1⟩:=ih cs' E H S vl
   exact⟨E',n1,s1,.cons (va.mono n1.e n1.le) v1⟩
  cases v with
  |cons va vl=>
   rename_i c cs'
   cases a with
   |c m t x=>
    cases t with
    |aC t=>
     cases hm:Nat.beq m 0 with
     |false=>
      have e:fG (.c m (.aC t) x::l) H.next=(.c m (.aC t) x::(fG l H.next).1,(fG l H.next).2):=by
       show(bif Nat.beq m 0 then _ else _)=_
       rw[hm];rfl
      rw[e]
      exact plain c cs' rfl va vl
     |true=>
      have e:fG (.c m (.aC t) x::l) H.next=(.c H.next (.aC t) x::(fG l (Nat.add H.next 1)).1,(fG l (Nat.add H.next 1)).2):=by
       show(bif Nat.beq m 0 then _ else _)=_
       rw[hm];rfl
      rw[e]
      let E1:En:=⟨E.K,fun r=>if r=H.next then c else E.tk r,E.G,E.A⟩
      let H1:Hq:=⟨Nat.add H.next 1,H.aQ⟩
      have el:pQ E E1 H.next:=⟨fun _ _=>rfl,fun r hr=>if_neg (Nat.ne_of_lt hr),fun _ _ e=>e,rfl⟩
      have hle:H.next<=H1.next:=Nat.le_add_right _ 1
      have n0:Nx E E1 H H1 h h:=⟨el,hle,Nat.le_refl _,fun r _ a b=>.inl ⟨r,a,b⟩,fun _ _ a=>.inl a,fun _ _ _=>rfl⟩
      have s1:SR E1 H1 h:=⟨fun r R hr=>⟨Nat.lt_of_lt_of_le (S.row r R hr).1 hle,RV.mono el hle (fun _ _ _ _ k=>k) (S.row r R hr).2⟩,S.inj,S.lt,S.g⟩
      obtain⟨E',n1,s2,v1⟩:=ih cs' E1 H1 s1 (vl.mono el hle)
      refine⟨E',n0.trans n1,s2,.cons ?_ v1⟩
      cases va with
      |c k _=>
       refine .c (EV.mono (fun _ _ e=>n1.e.G _ _ e) _ _ _ k) fun _=>⟨Nat.lt_of_lt_of_le (Nat.lt_succ_self H.next) n1.le,?_⟩
       rw[n1.e.tk H.next (Nat.lt_succ_self H.next)]
       exact(if_pos rfl).symm
    | _=>exact plain c cs' rfl va vl
   | _=>exact plain c cs' rfl va vl
omit C in
theorem Jw(b:Od){f:dw}{g:RR}(k:du f g):du (NW b f) g:=by
 intro E T t H h v T' H' hT hH e
 unfold NW at e
 split at e
 ·rename_i i
  cases hi:Nat.blt i 512 with
  |false=>rw[hi]at e;exact k E T t H h v T' H' hT hH e
  |true=>
   rw[hi]at e
   simp only[cond_true]at e
   split at e
   ·rename_i l hl
    obtain⟨a,ha,qZ⟩:=hT i _ (bt.1 hi) hl
    cases qZ with
    |ag YL=>
     rename_i l'
     obtain⟨E1,n1,s1,v1⟩:=E9 l l' E H hH YL
     have mu:TV E1 (fG l H.next).2 (T.put i (some (.ag (fG l H.next).1))) t:=by
      have:=(hT.mono n1.e n1.le)
      intro j w hj hw
      rw[Tq.fh _ _ _ _ (bt.1 hi) hj]at hw
      split at hw
      ·rename_i e1
       subst e1
       cases hw
       exact⟨_,ha,.ag v1⟩
      ·exact this j w hj hw
     obtain⟨c,h',E',k1,k2,k3,k4,k5⟩:=k E1 _ t ⟨(fG l H.next).2,H.aQ⟩ h v T' H' mu s1 e
     exact⟨c,h',E',k1,n1.trans k2,k3,k4,k5⟩
   ·exact k E T t H h v T' H' hT hH e
 ·exact k E T t H h v T' H' hT hH e
omit C in
theorem Fa(a:Od):du (Ew a) (fun _ _=>lS (bC a)):=cr (by
 intro E T t H h v T' H' hT hH e
 unfold Ew at e
 split at e
 ·rename_i r sz hw
  split at e
  ·rename_i ty x hr
   obtain⟨c1,e⟩:=Lf.T.bY e
   obtain⟨rfl,rfl,rfl⟩:=bc e
   obtain⟨c,hc,dV⟩:=bw hT hw
   refine⟨rfl,rfl,c,?_,dV⟩
   have lj:Nat.beq x.length 0=false:=by cases q:Nat.beq x.length 0 with
    |true=>rw[q]at c1;cases c1
    |false=>rfl
   rcases wm dV (hH.row _ _ hr).2 with⟨_,rfl⟩|⟨id,base,row,ls,rfl,_,_,k4,_⟩
   ·cases lj
   ·unfold lS
    rw[hc]
    simp only[lj,k4,cond_false]
  ·cases e
 ·rename_i r sz off n hw
  split at e
  ·rename_i g l hr
   cases hn:Nat.beq n 0 with
   |true=>rw[hn]at e;cases e
   |false=>
    rw[hn]at e
    obtain⟨rfl,rfl,rfl⟩:=bc e
    obtain⟨c,hc,dV⟩:=bw hT hw
    refine⟨rfl,rfl,c,?_,dV⟩
    obtain⟨id,row,k1,k2,_⟩:=(hH.row _ _ hr).2
    cases dV with
    |xo _ h2=>
     rw[k1]at h2
     cases h2
     unfold lS
     rw[hc]
     simp only[hn,k2,cond_false]
  ·cases e
 ·cases e)
omit C in
theorem Jx:du (fun t h=>okV (.a .any) t h) (fun _ _=>Go.Ab.Bh):=by
 intro E T t H h v T' H' hT hH e
 obtain⟨rfl,rfl,rfl⟩:=bc e
 exact⟨.any,h,E,Ev.const rfl,Nx.refl _ _ _,hH,.a rfl,hT⟩
theorem Jy(o:fZ):du (qR call o) (fun n d=>yj (aP n d) o):=by
 cases o<;>first|exact I5|skip
 case mv=>exact qV _
 case pk=>exact EE _ _ _
 case nw=>exact I7 _
 case bx=>exact I8 _
 case bd=>exact B2 _ _
 case rw=>exact I' _ _ _ _
 case ld=>exact EP _ _ _
 case sto=>exact Jw _ (B4 _ _ _)
 case nl=>exact I6 _
 case bn=>exact Je _ _ _
 case un=>exact N9 _ _
 case bys=>exact B8 _
 case fn=>exact N3 _ _
 case mk=>exact E7 _ _ _ _ _
 case slS=>exact yz _ _ _
 case slN=>exact yx _ _ _ _
 case slA=>exact yy _ _ _ _ _
 case fa=>exact rV _ _
 case fd=>exact B1 _ _ _ _
 case ixS=>exact Jl _ _ _
 case ixA=>exact Jm _ _ _ _
 case ix=>exact B5 _ _ _ _ _
 case ixT=>exact yw _ _
 case ex=>exact wk _ _
 case lnT=>exact EM _
 case ln=>exact Ja _
 case ap=>exact yB _ _ _ _
 case apZ=>exact E5 _ _ _ _ _
 case apS=>exact E6 _ _ _
 case emp=>exact Jn _ _ _
 case mrk=>exact Fa _
 case min=>exact Jh _ _
 case max=>exact Ji _ _
 case cap=>exact Jo _
 case map=>exact Jx
 case cpy=>exact EZ _ _ _
 case call=>exact E8 C _ _
 case callV=>exact B9 C _ _
end
end Lf
end Go.Ab
