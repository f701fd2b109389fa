import Derived.Test.YtcnkojgmochcgaaGreatDoorLfD2
noncomputable section
namespace Go.Ab
namespace Lf
theorem ny{i n:Int}:cg i n=true↔0<=i/\i<n:=by unfold cg;simp
theorem I'(size:Nat)(a i:Od):dn (IL size a i) (fun _ _=>bg size (bz a) (bz i)):=cq (by
 intro E T t H h v T' H' hT hH e
 unfold IL at e
 split at e
 ·rename_i iv Sj
  split at e
  ·rename_i k n hn
   obtain⟨c,hc,dR⟩:=bu hT Sj
   have:=eG dR hn;subst this
   have kH: ∀ {id off m sz:Nat} {j:Nat},n=(j:Int)->bz a t=some (.cR id off m sz)->j<m->sz=size->bg size (bz a) (bz i) t h=.ok (.ref id (off+j*size)) h:=by
    intro id off m sz j hj h1 h2 h3
    subst hj
    unfold bg
    rw[hc]
    show(match bz a t with
     |some (.cR id off n sz)=>bif Nat.blt j n&&Nat.beq sz size then Go.Ab.Ro.ok (.ref id (Nat.add off (Nat.mul j size))) h else .bad
     |some (.fg n cs)=>bif Nat.blt j n then .ok (.eg (dp (Nat.mul j size) cs)) h else .bad
     | _=>.bad)=_
    rw[h1]
    simp only[bh.2 h2,h3,Nat.beq_refl]
    rfl
   have conv: ∀ {m:Nat},cg n (Int.ofNat m)=true-> ∃ j:Nat,n=(j:Int)/\n.toNat=j/\j<m:=by
    intro m q
    obtain⟨q1,q2⟩:=ny.1 q
    exact⟨n.toNat,by omega,rfl,by have:(Int.ofNat m)=(m:Int):=rfl;omega⟩
   split at e
   ·rename_i r s ha
    obtain⟨p,hp,gD⟩:=bu hT ha
    have key: ∀ {t':Ty} {x:List (den t')} {S':Nat->Option Rw},LR E.G t' x (E.K r) S'->(bif Nat.beq s size then Lf.T.ck (cg n (Int.ofNat x.length)) (okV (.re r s n.toNat 0) T H)else Lf.T.bad).val=some (v,T',H')->H'=H/\T'=T/\ ∃ c,bg size (bz a) (bz i) t h=.ok c h/\V E H.next v c:=by
     intro t' x S' q e
     cases hs:Nat.beq s size with
     |false=>rw[hs]at e;cases e
     |true=>
      rw[hs]at e
      have hs:=beq_true hs
      obtain⟨q1,e⟩:=Lf.T.bU e
      obtain⟨rfl,rfl,rfl⟩:=ba e
      obtain⟨j,hj,GJ,ee⟩:=conv q1
      have q2:=wg gD q
      cases gD with
      |os h1 h2=>
       rcases h2 with⟨h2,h3⟩|⟨id,base,h2⟩
       ·rw[q.1,h3]at ee;omega
       ·rw[h2]at hp
        rw[q.1]at ee
        refine⟨rfl,rfl,_,kH hj hp ee hs,?_⟩
        rw[GJ]
        have:=V.re (i:=j) (o:=0) h1 h2 ee
        rw[Nat.add_zero,hs]at this
        rw[hs];exact this
    split at e
    ·rename_i t' x hr;exact key (hH.row _ _ hr).2 e
    ·rename_i t' x hr;exact key (hH.row _ _ hr).2 e
    ·cases e
   ·rename_i r s off m ha
    obtain⟨p,hp,gD⟩:=bu hT ha
    cases hs:Nat.beq s size with
    |false=>rw[hs]at e;cases e
    |true=>
     rw[hs]at e
     have hs:=beq_true hs
     obtain⟨q1,e⟩:=Lf.T.bU e
     obtain⟨rfl,rfl,rfl⟩:=ba e
     obtain⟨j,hj,GJ,ee⟩:=conv q1
     cases gD with
     |se _ _ _ _=>omega
     |ss h1 h2 h3=>
      rename_i id base
      refine⟨rfl,rfl,_,kH hj hp ee hs,?_⟩
      rw[GJ]
      have:=V.re (i:=off+j) (o:=0) h1 h2 (by omega)
      rw[Nat.add_zero,Nat.add_mul,<-Nat.add_assoc,hs]at this
      rw[hs];exact this
   ·rename_i r s off m ha
    obtain⟨p,hp,gD⟩:=bu hT ha
    split at e
    ·rename_i k0 j
     cases hs:(Nat.beq s size&&Nat.blt j m)with
     |false=>rw[hs]at e;cases e
     |true=>
      rw[hs]at e
      rw[Bool.and_eq_true]at hs
      obtain⟨rfl,rfl,rfl⟩:=ba e
      cases hn
      cases gD with
      |xo h1 h2=>
       have xx:=beq_true hs.1
       refine⟨rfl,rfl,_,kH rfl hp (bh.1 hs.2) xx,?_⟩
       have:=V.rf (o:=off+j*s) h1 h2
       rw[xx]at this
       rw[xx];exact this
    ·cases e
   ·rename_i m ty x ha
    obtain⟨p,hp,gD⟩:=bu hT ha
    cases hs:Nat.beq size (Lf.size ty)with
    |false=>rw[hs]at e;cases e
    |true=>
     rw[hs]at e
     have hs:=beq_true hs
     obtain⟨q1,e⟩:=Lf.T.bU e
     obtain⟨rfl,rfl,rfl⟩:=ba e
     obtain⟨j,hj,GJ,ee⟩:=conv q1
     rw[GJ]
     cases gD with
     |c k _=>
      obtain⟨b,hb,k⟩:=k
      cases hb
      rcases k with⟨_,k⟩|⟨ls,k1,k2|⟨id,base,row,k2,k3,k4⟩⟩
      ·subst k;simp at ee
      ·subst k2
       refine⟨rfl,rfl,.eg (ls.drop (j*size)),?_,?_⟩
       ·unfold bg
        rw[hc,hp,hj]
        show(bif Nat.blt j x.length then Go.Ab.Ro.ok (.eg (dp (Nat.mul j size) ls)) h else .bad)=_
        rw[bh.2 ee,fC];rfl
       ·have h1:=k1.get (EV.length ty) ee (bJ ty)
        have:=V.zp (r:=(ls.drop (j*size)).drop size) (lC (E:=E) (N:=H'.next) rfl ty _ _ h1)
        rw[hs,List.take_append_drop]at this
        rw[hs];exact this
      ·subst k2
       refine⟨rfl,rfl,_,kH hj hp ee hs.symm,?_⟩
       obtain⟨_,e2,e3⟩:=nv (N:=H'.next) ee k4 k1
       have hl:(iV ty (x.getD j (bJ ty))).length=Lf.size ty:=by
        rw[e2.length,(nv (N:=H'.next) ee k4 k1).1 |> EV.length ty _ _]
       refine .zr e2 k3 ?_
       rw[hl,hs];exact e3
   ·cases e
  ·cases e
 ·cases e)
theorem Ja(n size:Nat)(a i:Od):dn (IM n size a i) (fun _ _=>j9 n size (bz a) (bz i)):=cq (by
 intro E T t H h v T' H' hT hH e
 unfold IM at e
 split at e
 ·rename_i k j Sj
  obtain⟨c,hc,dR⟩:=bu hT Sj
  cases dR
  cases hj:Nat.blt j n with
  |false=>rw[hj]at e;cases e
  |true=>
   rw[hj]at e
   simp only[cond_true]at e
   have hk:j9 n size (bz a) (bz i) t h=(match bz a t with
    |some (.ref id off)=>bif Nat.blt j n then Go.Ab.Ro.ok (.ref id (Nat.add off (Nat.mul j size))) h else .bad
    |some (.eg cs)=>bif Nat.blt j n then .ok (.eg (dp (Nat.mul j size) cs)) h else .bad
    | _=>.bad):=by unfold j9;rw[hc];rfl
   rw[hk,hj]
   split at e
   ·rename_i r o ha
    obtain⟨rfl,rfl,rfl⟩:=ba e
    obtain⟨p,hp,gD⟩:=bu hT ha
    rw[hp]
    cases gD with
    |rf h1 h2=>exact⟨rfl,rfl,_,rfl,.rf h1 h2⟩
   ·rename_i l ha
    obtain⟨p,hp,gD⟩:=bu hT ha
    rw[hp]
    cases hb:Nat.ble (Nat.mul j size) (len l)with
    |false=>rw[hb]at e;cases e
    |true=>
     rw[hb]at e
     obtain⟨rfl,rfl,rfl⟩:=ba e
     have hle:j*size<=l.length:=by have:=Nat.le_of_ble_eq_true hb;rwa [bE]at this
     rw[fC]
     cases gD with
     |zp k=>
      rename_i l' r
      refine⟨rfl,rfl,_,rfl,?_⟩
      rw[fC,List.drop_append_of_le_length (by rw[<-k.length];exact hle)]
      exact .zp (k.drop _)
     |zr k g s=>
      rename_i l' id o row
      refine⟨rfl,rfl,_,rfl,?_⟩
      refine .zr (k.drop _) g ?_
      obtain⟨s1,s2⟩:=cP.1 s
      rw[List.length_drop]
      refine cP.2 ⟨by have e1:Nat.add o (Nat.mul j size)=o+j*size:=rfl;have e2:Nat.mul j size=j*size:=rfl;omega,?_⟩
      rw[s2,List.drop_take,List.drop_drop]
      rfl
   ·cases e
 ·cases e)
theorem sE{E:En}{N:Nat}{k:IntKind}: ∀ {l:List Sv} {l':List AV} {r:List Int},Vs E N l l'->yl k l=some r->l'=r.map fun n=>.int k n
 | [],_,_,.nil,e=>by cases e;rfl
 |v::l,_,r,.cons hv h,e=>by
  change (match toN v with|some (k',n)=>(bif eM k k' then(match yl k l with|some r=>some (n::r)|none=>none)else none)|none=>none)=some r at e
  split at e
  ·rename_i k' n hn
   obtain⟨hk,e⟩:=bb e
   split at e
   ·rename_i r' hr
    cases e
    have:=bD.1 hk;subst this
    rw[eG hv hn,sE h hr];rfl
   ·cases e
  ·cases e
theorem BV(n size:Nat)(agg:Bool)(a i:Od):dn (tZ n size agg a i) (fun _ _=>gy n size agg (bz a) (bz i)):=cq (by
 intro E T t H h v T' H' hT hH e
 unfold tZ at e
 split at e
 ·rename_i cs ha
  obtain⟨p,hp,gD⟩:=bu hT ha
  cases gD with
  |ag fh=>
   rename_i l'
   split at e
   ·rename_i k j hi
    obtain⟨c,hc,dR⟩:=bu hT hi
    cases dR
    cases hb:Nat.blt j n with
    |false=>rw[hb]at e;cases e
    |true=>
     rw[hb]at e
     obtain⟨e1,rfl,rfl⟩:=iB e
     obtain⟨r,h1,h2⟩:=jq fh e1
     refine⟨rfl,rfl,r,?_,h2⟩
     unfold gy
     rw[hp,hc]
     show(bif Nat.blt j n then(match part agg l' (Nat.mul j size) size with|some v=>Go.Ab.Ro.ok v h|none=>.bad)else .bad)=_
     rw[hb,h1];rfl
   ·rename_i m k0 x hi
    obtain⟨c,hc,dR⟩:=bu hT hi
    have:=eG dR rfl;subst this
    cases LO:(agg|| !(Nat.beq size 1))with
    |true=>rw[LO]at e;cases e
    |false=>
     rw[LO]at e
     rw[Bool.or_eq_false_iff]at LO
     simp only[cond_false]at e
     split at e
     ·rename_i w l
      split at e
      ·rename_i k y hk
       split at e
       ·rename_i nl hnl
        cases hlen:Nat.beq (len nl) n with
        |false=>rw[hlen]at e;cases e
        |true=>
         rw[hlen]at e
         obtain⟨q1,e⟩:=Lf.T.bU e
         obtain⟨rfl,rfl,rfl⟩:=ba e
         obtain⟨x1,x2⟩:=ny.1 q1
         obtain⟨j,rfl⟩:=Int.eq_ofNat_of_zero_le x1
         have hj:j<n:=by have:(Int.ofNat n)=(n:Int):=rfl;omega
         have hl:=sE fh hnl
         have aez:nl.length=n:=by have:=beq_true hlen;rwa [bE]at this
         have lx:size=1:=by cases hq:Nat.beq size 1 with
          |true=>exact beq_true hq
          |false=>rw[hq]at LO;cases LO.2
         refine⟨rfl,rfl,.int k (nl.getD j 0),?_,dO⟩
         unfold gy
         rw[hp,hc]
         show(bif Nat.blt j n then(match part agg l' (Nat.mul j size) size with|some v=>Go.Ab.Ro.ok v h|none=>.bad)else .bad)=_
         have Rj:part agg l' (Nat.mul j size) size=some (.int k (nl.getD j 0)):=by
          rw[LO.1,lx,hl,show Nat.mul j 1=j from Nat.mul_one j]
          have GJ:j<nl.length:=by omega
          have ht:((nl.map fun n=>AV.int k n).drop j).take 1=[AV.int k (nl.getD j 0)]:=by
           rw[List.drop_eq_getElem_cons (by simpa using GJ)]
           simp[List.getD_eq_getElem?_getD,List.getElem?_eq_getElem GJ]
          unfold part
          rw[mq (by rw[ht];rfl),ht];rfl
         rw[bh.2 hj,Rj];rfl
       ·cases e
      ·cases e
     ·cases e
   ·cases e
 ·cases e)
theorem yv(a i:Od):dn (pK a i) (fun _ _=>bG (bz a) (bz i)):=cq (by
 intro E T t H h v T' H' hT hH e
 unfold pK at e
 split at e
 ·rename_i w hw
  split at e
  ·rename_i b s hs
   split at e
   ·rename_i iv Sj
    split at e
    ·rename_i k n hn
     obtain⟨q1,e⟩:=Lf.T.bU e
     obtain⟨rfl,rfl,rfl⟩:=ba e
     obtain⟨c,hc,dR⟩:=bu hT hw
     obtain⟨d,hd,GP⟩:=bu hT Sj
     have:=j8 dR hs;subst this
     have:=eG GP hn;subst this
     obtain⟨x1,x2⟩:=ny.1 q1
     obtain⟨j,rfl⟩:=Int.eq_ofNat_of_zero_le x1
     have hj:j<s.data.toList.length:=by have:(Int.ofNat s.size)=(s.size:Int):=rfl;have e2:s.data.toList.length=s.size:=Array.length_toList
                                        omega
     refine⟨rfl,rfl,_,?_,dO⟩
     unfold bG
     rw[hc,hd]
     show(match gx s.data.toList j with|some b=>Go.Ab.Ro.ok (.int .u8 b.toNat) h|none=>.bad)=_
     rw[dW,List.getElem?_eq_getElem hj]
     simp[List.getD_eq_getElem?_getD,List.getElem?_eq_getElem hj]
    ·cases e
   ·cases e
  ·cases e
 ·cases e)
theorem zU{E:En}{N:Nat}{T:Tq}{t:Tm}(hT:TV E N T t){o:Option Od}{d:Sv}{l:Bool}{n:Int}{m:Nat}(hd:toN d=some (.i64,(m:Int)))(e:rK o T d=some (l,n))(h0:0<=n):iT (o.map bz) t m=some n.toNat:=by
 unfold rK at e
 cases o with
 |none=>
  simp only at e
  rw[hd]at e
  cases e
  simp[iT]
 |some o=>
  simp only at e
  split at e
  ·rename_i w hw
   split at e
   ·rename_i k n' hn
    cases e
    obtain⟨c,hc,dR⟩:=bu hT hw
    have:=eG dR hn;subst this
    obtain⟨j,rfl⟩:=Int.eq_ofNat_of_zero_le h0
    show(match bz o t with|some (.int _ (.ofNat n))=>some n| _=>none)=_
    rw[hc];rfl
   ·cases e
  ·cases e
theorem BW{l u n:Int}:cF l u n=true↔0<=l/\l<=u/\u<=n:=by unfold cF;simp
theorem oA{E:En}{N:Nat}{T:Tq}{t:Tm}(hT:TV E N T t){lo hi:Option Od}{d:Sv}{l1 l2:Bool}{l u n:Int}{m:Nat}(hd:toN d=some (.i64,(m:Int)))(hn:n=m)(e1:rK lo T (.i .i64 0)=some (l1,l))(e2:rK hi T d=some (l2,u))(hc:cF l u n=true):
 bounds (lo.map bz) (hi.map bz) t m=some (l.toNat,u.toNat)/\l.toNat<=u.toNat/\u.toNat<=m:=by
 obtain⟨h1,h2,h3⟩:=BW.1 hc
 have a1:=zU hT (m:=0) rfl e1 h1
 have a2:=zU hT hd e2 (by omega)
 unfold bounds
 rw[a1,a2]
 have b1:Nat.ble l.toNat u.toNat=true:=by rw[Nat.ble_eq];omega
 have b2:Nat.ble u.toNat m=true:=by rw[Nat.ble_eq];omega
 simp only[b1,b2]
 exact⟨rfl,by omega,by omega⟩
theorem sF{a:AV}(h:l8 a=true):cu a=true:=by cases a<;>first|exact h|rfl
theorem mu{size:Nat}{x:dj}{lo hi:Option dj}{t:Tm}{h:Hp}{a:AV}(hx:x t=some a)(he:l8 a=false):bB size x lo hi t h=iU size x lo hi t h:=by
 unfold bB;rw[hx];simp only[he];rfl
theorem lF{size:Nat}{x:dj}{lo hi:Option dj}{t:Tm}{h:Hp}{a:AV}{l u:Nat}(hx:x t=some a)(he:cu a=true)(hb:bounds lo hi t 0=some (l,u)):bB size x lo hi t h=.ok a h:=by
 cases nT:l8 a with
 |true=>unfold bB;rw[hx];simp only[nT,hb];rfl
 |false=>
  have:a=.cS:=by cases a<;>first|rfl|(cases nT;done)|(cases he;done)|(rename_i v0;have k:l8 (.sc v0)=true:=he;rw[k]at nT;cases nT)
  subst this
  rw[mu hx nT]
  unfold iU
  rw[hx]
  simp only[hb]
theorem nz{size:Nat}{x:dj}{lo hi:Option dj}{t:Tm}{h:Hp}{id off n sz l u:Nat}(hx:x t=some (.cR id off n sz))(hb:bounds lo hi t n=some (l,u))(hs:sz=size):bB size x lo hi t h=.ok (.cR id (off+l*size) (u - l) sz) h:=by
 rw[mu hx rfl]
 unfold iU
 rw[hx]
 simp only[hb,hs,Nat.beq_refl]
 rfl
theorem wj(size:Nat)(a:Od)(lo hi:Option Od): ∀ (E:En) (T:Tq) (t:Tm) (H:Hq) (h:Hp) (v:Sv) (T':Tq) (H':Hq),TV E H.next T t->SR E H h->(nn size a lo hi T H).val=some (v,T',H')->H'=H/\T'=T/\ ∃ c,bB size (bz a) (lo.map bz) (hi.map bz) t h=.ok c h/\V E H.next v c:=by
 intro E T t H h v T' H' hT hH e
 unfold nn at e
 split at e
 ·rename_i w hw
  split at e
  ·rename_i m hm
   split at e
   ·rename_i k n hn
    split at e
    ·rename_i ll l hl
     split at e
     ·rename_i lu u hu
      obtain⟨p,hp,gD⟩:=bu hT hw
      obtain⟨q,q1,_,q3,q4⟩:=zQ hH gD hm
      rw[q1]at hn;cases hn
      have bd:=fun hc=>oA (n:=(q:Int)) hT q1 rfl hl hu hc
      split at e
      ·rename_i z
       cases hz:l8 z with
       |false=>rw[hz]at e;cases e
       |true=>
        rw[hz]at e
        obtain⟨c1,e⟩:=Lf.T.bU e
        obtain⟨rfl,rfl,rfl⟩:=ba e
        obtain⟨b1,_,_⟩:=bd c1
        cases gD with
        |a Zq=>
         have hem:=sF hz
         have:q=0:=q4 hem
         subst this
         exact⟨rfl,rfl,p,lF hp hem b1,.a Zq⟩
      ·rename_i r s
       cases hs:Nat.beq s size with
       |false=>rw[hs]at e;cases e
       |true=>
        rw[hs]at e
        have hs:=beq_true hs
        obtain⟨c1,e⟩:=Lf.T.bU e
        obtain⟨rfl,rfl,rfl⟩:=ba e
        obtain⟨b1,b2,b3⟩:=bd c1
        cases gD with
        |os h1 h2=>
         rcases h2 with⟨h2,h3⟩|⟨id,base,h2⟩
         ·have:q=0:=q4 h2
          subst this
          have e1:l.toNat=0:=by omega
          have e2:u.toNat - l.toNat=0:=by omega
          rw[e2,e1]
          exact⟨rfl,rfl,_,lF hp h2 b1,.se h1 h2 h3 rfl⟩
         ·rw[h2]at hp q3
          have:(E.K r).n=q:=by cases q3;rfl
          refine⟨rfl,rfl,_,nz hp (by rw[this];exact b1) hs,?_⟩
          rw[<-hs]
          exact .ss h1 h2 (by omega)
      ·rename_i r s off m'
       cases hs:Nat.beq s size with
       |false=>rw[hs]at e;cases e
       |true=>
        rw[hs]at e
        have hs:=beq_true hs
        obtain⟨c1,e⟩:=Lf.T.bU e
        obtain⟨rfl,rfl,rfl⟩:=ba e
        obtain⟨b1,b2,b3⟩:=bd c1
        cases gD with
        |se h1 h2 h3 h4=>
         have:q=0:=q4 h2
         subst this
         have e1:l.toNat=0:=by omega
         have e2:u.toNat - l.toNat=0:=by omega
         rw[e2,e1,h4]
         exact⟨rfl,rfl,_,lF hp h2 b1,.se h1 h2 h3 rfl⟩
        |ss h1 h2 h3=>
         rename_i id base
         have:m'=q:=by cases q3;rfl
         subst this
         refine⟨rfl,rfl,_,nz hp b1 hs,?_⟩
         rw[<-hs]
         have:=V.ss (off:=off+l.toNat) (n:=u.toNat - l.toNat) h1 h2 (by omega)
         rw[Nat.add_mul,<-Nat.add_assoc]at this
         exact this
      ·rename_i r s off m'
       cases hs:((ll&&lu)&&(Nat.beq s size&&cF l u (q:Int)))with
       |false=>rw[hs]at e;cases e
       |true=>
        rw[hs]at e
        rw[Bool.and_eq_true,Bool.and_eq_true,Bool.and_eq_true]at hs
        obtain⟨rfl,rfl,rfl⟩:=ba e
        obtain⟨b1,b2,b3⟩:=bd hs.2.2
        have xx:=beq_true hs.2.1
        cases gD with
        |xo h1 h2=>
         rename_i id
         have:m'=q:=by cases q3;rfl
         subst this
         refine⟨rfl,rfl,_,nz hp b1 xx,?_⟩
         rw[<-xx]
         exact .xo h1 h2
      ·rename_i m' ty x
       cases hs:Nat.beq size (Lf.size ty)with
       |false=>rw[hs]at e;cases e
       |true=>
        rw[hs]at e
        have hs:=beq_true hs
        obtain⟨c1,e⟩:=Lf.T.bU e
        obtain⟨rfl,rfl,rfl⟩:=ba e
        obtain⟨b1,b2,b3⟩:=bd c1
        cases gD with
        |c k _=>
         obtain⟨b,hb,k⟩:=k
         cases hb
         rcases k with⟨k,kx⟩|⟨ls,k1,k2|⟨id,base,row,k2,k3,k4⟩⟩
         ·have:q=0:=q4 k
          subst this
          subst kx
          exact⟨rfl,rfl,_,lF hp k b1,.c ⟨_,rfl,.inl ⟨k,by simp⟩⟩ fun h=>(h rfl).elim⟩
         ·subst k2
          have:x.length=q:=by cases q3;rfl
          have hle:((x.drop l.toNat).take (u.toNat - l.toNat)).length=u.toNat - l.toNat:=by rw[List.length_take,List.length_drop];omega
          refine⟨rfl,rfl,.fg (u.toNat - l.toNat) (tk (Nat.mul (u.toNat - l.toNat) size) (dp (Nat.mul l.toNat size) ls)),?_,?_⟩
          ·rw[mu hp rfl]
           unfold iU
           rw[hp]
           simp only[this,b1]
           rfl
          ·refine .c ⟨_,rfl,.inr ⟨_,(k1.drop (EV.length ty) l.toNat).take (EV.length ty) (u.toNat - l.toNat),.inl ?_⟩⟩ fun h=>(h rfl).elim
           rw[hle,kp,fC,hs];rfl
         ·subst k2
          have:x.length=q:=by cases q3;rfl
          obtain⟨a1,a2,a3⟩:=ug (id:=0) rfl k4 k1 (off:=l.toNat) (m:=u.toNat - l.toNat) (by omega)
          refine⟨rfl,rfl,_,nz hp (by rw[this];exact b1) hs.symm,?_⟩
          refine .c ⟨_,rfl,nr (id:=id) (base:=base+l.toNat*Lf.size ty) ?_ k3 ?_ a3⟩ fun h=>(h rfl).elim
          ·rw[a1,hs]
          ·rw[a1];exact a2
      ·cases e
     ·cases e
    ·cases e
   ·cases e
  ·cases e
 ·cases e
theorem yw(size:Nat)(a:Od)(lo hi:Option Od):dn (nn size a lo hi) (fun _ _=>bB size (bz a) (lo.map bz) (hi.map bz)):=cq (wj size a lo hi)
theorem yx(n size:Nat)(a:Od)(lo hi:Option Od):dn (ua n size a lo hi) (fun _ _=>ek n size (bz a) (lo.map bz) (hi.map bz)):=cq (by
 intro E T t H h v T' H' hT hH e
 unfold ua at e
 split at e
 ·rename_i r o ha
  split at e
  ·rename_i l hl
   split at e
   ·rename_i u hu
    split at e
    ·rename_i cs fh
     cases hs:(Nat.ble (Nat.add o (Nat.mul n size)) (len cs)&&(cF l u (Int.ofNat n)&&Nat.blt 0 size))with
     |false=>rw[hs]at e;cases e
     |true=>
      rw[hs]at e
      rw[Bool.and_eq_true,Bool.and_eq_true]at hs
      obtain⟨rfl,rfl,rfl⟩:=ba e
      obtain⟨b1,b2,b3⟩:=oA (n:=(n:Int)) (m:=n) hT rfl rfl hl hu hs.2.1
      obtain⟨p,hp,gD⟩:=bu hT ha
      obtain⟨id,row,k1,k2,k3⟩:=oz hH fh
      cases gD with
      |rf h1 h2=>
       rw[k1]at h2;cases h2
       refine⟨rfl,rfl,_,?_,.xo (id:=id) h1 k1⟩
       unfold ek
       rw[hp]
       have q:=hs.1
       rw[bE,k3.length,da]at q
       simp only[b1,k2,q]
       rfl
    ·cases e
   ·cases e
  ·cases e
 ·cases e)
theorem yy(a:Od)(lo hi:Option Od):dn (ub a lo hi) (fun _ _=>ct (bz a) (lo.map bz) (hi.map bz)):=cq (by
 intro E T t H h v T' H' hT hH e
 unfold ub at e
 split at e
 ·rename_i w hw
  split at e
  ·rename_i s hs
   split at e
   ·rename_i l hl
    split at e
    ·rename_i u hu
     cases hc:cF l u (Int.ofNat s.size)with
     |false=>rw[hc]at e;cases e
     |true=>
      rw[hc]at e
      obtain⟨rfl,rfl,rfl⟩:=ba e
      obtain⟨b1,b2,b3⟩:=oA (n:=(s.size:Int)) (m:=s.size) hT rfl rfl hl hu hc
      obtain⟨p,hp,gD⟩:=bu hT hw
      have:=j8 gD hs;subst this
      refine⟨rfl,rfl,_,?_,.a rfl⟩
      unfold ct
      rw[hp]
      simp only[b1]
    ·cases e
   ·cases e
  ·cases e
 ·cases e)
theorem Jb(x y z:Od):dn (N6 x y z) (fun _ _=>pY (bz x) (bz y) (bz z)):=cq (by
 intro E T t H h v T' H' hT hH e
 unfold N6 at e
 split at e
 ·rename_i k hy
  split at e
  ·rename_i k' hz
   obtain⟨c,hc,dR⟩:=bu hT hy
   obtain⟨d,hd,GP⟩:=bu hT hz
   cases dR;cases GP
   have key: ∀ {w:Sv} {p:AV},bz x t=some (nP p)->V E H.next w p->(cu p=true∨(∃ id o n s,p=.cR id o n s)∨ ∃ n cs,p=.fg n cs)->pY (bz x) (bz y) (bz z) t h=.ok .cS h:=by
    intro w p h1 h2 h3
    unfold pY
    rw[hc,hd,h1]
    rcases h3 with h3|⟨_,_,_,_,rfl⟩|⟨_,_,rfl⟩
    ·rw[dC h3];rfl
    ·rfl
    ·rfl
   split at e
   ·rename_i w hx
    cases hw:cu w with
    |false=>rw[hw]at e;cases e
    |true=>
     rw[hw]at e
     obtain⟨rfl,rfl,rfl⟩:=ba e
     obtain⟨p,hp,gD⟩:=iX hT hx
     refine⟨rfl,rfl,_,key hp gD ?_,.a rfl⟩
     cases gD;exact .inl hw
   ·rename_i hx
    obtain⟨rfl,rfl,rfl⟩:=ba e
    obtain⟨p,hp,gD⟩:=iX hT hx
    refine⟨rfl,rfl,_,key hp gD ?_,.a rfl⟩
    cases gD with
    |os _ h2=>rcases h2 with⟨h2,_⟩|⟨_,_,h2⟩
              ·exact .inl h2
              ·exact .inr (.inl ⟨_,_,_,_,h2⟩)
   ·rename_i hx
    obtain⟨rfl,rfl,rfl⟩:=ba e
    obtain⟨p,hp,gD⟩:=iX hT hx
    refine⟨rfl,rfl,_,key hp gD ?_,.a rfl⟩
    cases gD with
    |se _ h2 _ _=>exact .inl h2
    |ss _ _ _=>exact .inr (.inl ⟨_,_,_,_,rfl⟩)
   ·rename_i hx
    obtain⟨rfl,rfl,rfl⟩:=ba e
    obtain⟨p,hp,gD⟩:=iX hT hx
    refine⟨rfl,rfl,_,key hp gD ?_,.a rfl⟩
    cases gD
    exact .inr (.inl ⟨_,_,_,_,rfl⟩)
   ·rename_i hx
    obtain⟨rfl,rfl,rfl⟩:=ba e
    obtain⟨p,hp,gD⟩:=iX hT hx
    refine⟨rfl,rfl,_,key hp gD ?_,.a rfl⟩
    cases gD with
    |c k _=>
     obtain⟨b,hb,k⟩:=k
     cases hb
     rcases k with⟨k,_⟩|⟨_,_,k|⟨_,_,_,k,_⟩⟩
     ·exact .inl k
     ·exact .inr (.inr ⟨_,_,k⟩)
     ·exact .inr (.inl ⟨_,_,_,_,k⟩)
   ·cases e
  ·cases e
 ·cases e)
theorem Jc(x:Od):dn (cY x) (fun _ _=>mH (bz x)):=cq (by
 intro E T t H h v T' H' hT hH e
 unfold cY at e
 split at e
 ·rename_i w hx
  cases hw:cu w with
  |false=>rw[hw]at e;cases e
  |true=>
   rw[hw]at e
   obtain⟨rfl,rfl,rfl⟩:=ba e
   obtain⟨p,hp,gD⟩:=iX hT hx
   cases gD
   rw[dC hw]at hp
   refine⟨rfl,rfl,_,?_,.i⟩
   unfold mH
   rw[hp]
 ·cases e)
end Lf
end Go.Ab

noncomputable section
namespace Go.Ab
namespace Lf
def gZ(G:Nat->Option Rw)(h:Hp)(t:Ty)(a:AV)(x:List (den t)):Prop:=
 (cu a=true/\x=[])∨ ∃ id base row ls,a=.cR id base x.length (size t)/\h.aN.get id=some row/\row.fy base (x.length*size t)=some ls/\fP (EV G t) x ls
theorem pO{t:Ty}{s:Sv}{a:AV}{x:List (den t)}{E:En}{H H1:Hq}{h:Hp}(S:SR E H h)(hv:V E H.next s a)(e:vY t s H=some (x,H1)): ∃ E1,Fz E E1 H H1 h/\gZ E1.G h t a x:=by
 unfold vY at e
 split at e
 ·rename_i r sz
  split at e
  ·rename_i t' y hr
   split at e
   ·rename_i p hp
    cases p
    cases e
    refine⟨E,Fz.refl S,?_⟩
    rcases wg hv (S.row _ _ hr).2 with k|⟨id,base,row,ls,k1,_,_,k2,k3,k4⟩
    ·exact .inl k
    ·exact .inr ⟨id,base,row,ls,k1,k2,k3,k4⟩
   ·cases e
  ·cases e
 ·rename_i r sz off n
  split at e
  ·rename_i t' y hr
   split at e
   ·rename_i p hp
    cases p
    cases e
    refine⟨E,Fz.refl S,?_⟩
    rcases LN hv (S.row _ _ hr).2 with⟨k1,k2,k3,_⟩|⟨id,base,row,ls,k1,k2,_,_,k3,k4,k5⟩
    ·subst k3;exact .inl ⟨k1,by simp⟩
    ·obtain⟨a1,a2,a3⟩:=ug rfl k4 k5 k2 (id:=0)
     exact .inr ⟨id,base+off*size t,row,_,by rw[a1];exact k1,k3,by rw[a1];exact a2,a3⟩
   ·cases e
  ·cases e
 ·obtain⟨hb,e⟩:=bb e
  cases e
  cases hv
  exact⟨E,Fz.refl S,.inl ⟨hb,rfl⟩⟩
 ·rename_i r sz off n
  split at e
  ·rename_i l hr
   have hb:=beq_true (bb e).1
   replace e:=(bb e).2
   unfold LF at e
   have hle:=Nat.le_of_ble_eq_true (bb e).1
   replace e:=(bb e).2
   rw[bE]at hle
   rw[fC]at e
   obtain⟨id,row,k1,k2,k3,_⟩:=(S.row _ _ hr).2
   obtain⟨E1,c,d,F,e1,e2,e3⟩:=yr (mr t) n E H h _ _ x H1 S (k3.drop off) e
   refine⟨E1,F,?_⟩
   cases hv with
   |xo h1 h2=>
    rw[k1]at h2;cases h2
    have hc:=e2.length (EV.length t)
    have hlen:=k3.length
    refine .inr ⟨id,off,row,c,by rw[e3,hb],k2,?_,e2⟩
    refine cP.2 ⟨?_,?_⟩
    ·have:=congrArg List.length e1
     rw[List.length_drop,List.length_append,hc]at this
     rw[<-da];omega
    ·rw[e1,<-hc,List.take_left]
  ·cases e
 ·cases e
structure Kl(E:En)(H H2:Hq)(a:AV):Prop where
 n:H2.next=H.next
 sub: ∀ r R,H2.aN.get r=some R->H.aN.get r=some R
 id: ∀ id,fU a=some id-> ∃ r,own H r/\ ¬ own H2 r/\fU (E.K r).av=some id
 only: ∀ r,own H r-> ¬ own H2 r->fU (E.K r).av=fU a
theorem zV{E:En}{H:Hq}{r:Nat}{R:Row}{a:AV}(hr:H.aN.get r=some R)(lv:R.live=true)(hi:fU (E.K r).av=fU a):Kl E H (fc H r none) a:=by
 have no: ¬ own (fc H r none) r:=by rintro⟨Q,q,_⟩;rw[du,if_pos rfl]at q;cases q
 refine⟨rfl,fun q Q e=>?_,fun id e=>⟨r,⟨R,hr,lv⟩,no,by rw[hi];exact e⟩,fun q o n=>?_⟩
 ·rw[du]at e
  split at e
  ·cases e
  ·exact e
 ·by_cases k:q=r
  ·rw[k];exact hi
  ·obtain⟨Q,q1,q2⟩:=o
   exact(n ⟨Q,by rw[du,if_neg k];exact q1,q2⟩).elim
theorem uj{s:Sv}{a:AV}{E:En}{H H2:Hq}(hv:V E H.next s a)(e:kill s H=some H2):Kl E H H2 a:=by
 unfold kill at e
 split at e
 ·cases e
  cases hv with
  |a h=>exact⟨rfl,fun _ _ e=>e,fun id k=>by cases a<;>first|(cases h;done)|(cases k;done),fun r o n=>(n o).elim⟩
 ·split at e
  ·rename_i hr
   cases e
   cases hv with
   |os h1 h2=>exact zV hr rfl rfl
  ·cases e
 ·split at e
  ·rename_i hr
   cases e
   cases hv with
   |se h1 h2 h3 h4=>exact zV hr rfl rfl
   |ss h1 h2 h3=>exact zV hr rfl (by rw[h2];rfl)
  ·cases e
 ·split at e
  ·rename_i hr
   cases e
   cases hv with
   |xo h1 h2=>exact zV hr rfl (by rw[h2];rfl)
  ·cases e
 ·cases e
theorem lG{b n:Nat}:roomy b n=true↔n*b<=70368744177664/\n<=70368744177664:=by unfold roomy;simp
theorem EF{r:Rw}{off k:Nat}{l:List AV}(h:r.fy off k=some l): ∃ p,r.sub off k=some p/\p.toL=l:=by
 obtain⟨a,b⟩:=cP.1 h
 have hb:Nat.ble (Nat.add off k) r.n=true:=by rw[Nat.ble_eq];exact a
 have hs:r.sub off k=some (bif Nat.beq off 0 then r.upto k else pw (r.cells k off)):=by unfold Rw.sub;rw[hb];rfl
 exact⟨_,hs,by rw[(u9 hs).1,b]⟩
theorem Oo{E:En}{H H2:Hq}{h:Hp}(S:SR E H h){t:Ty}{a:AV}{x y:List (den t)}{cs:List AV}{bytes:Nat}{z:Bool}(hd:gZ E.G h t a x)(hk:Kl E H H2 a)(hy:fP (EV E.G t) y cs)(hz:z=true->y=[])(hr:roomy bytes (x.length+y.length)=true):
 ∃ c h' E',(bif l8 a&&z then Go.Ab.Ro.ok a h else mI (size t) bytes h (nP a) y.length cs)=.ok c h'/\Nx E E' H (cA H2 (.l t (x++y))) h h'/\SR E' (cA H2 (.l t (x++y))) h'/\V E' (cA H2 (.l t (x++y))).next (.os H2.next (size t)) c:=by
 obtain⟨r1,r2⟩:=lG.1 hr
 have EG: ∀ (k:Kr),(∀ id,fU k.av=some id->fU a=some id)->RV E H.next h k (.l t (x++y))->SR (E.row H.next k) (cA H2 (.l t (x++y))) h/\Nx E (E.row H.next k) H (cA H2 (.l t (x++y))) h h:=by
  intro k h1 h2
  refine fH S hk.n hk.sub (Nat.le_refl _) (fun _ _ _=>rfl) (fun id e=>?_) h2 rfl
  obtain⟨r,o,no,er⟩:=hk.id id (h1 id e)
  exact⟨S.lt r id o er,.inr ⟨r,o,no,er⟩⟩
 have K0: ∀ k:Kr,(E.row H.next k).K H2.next=k:=fun k=>by rw[hk.n];exact if_pos rfl
 have LP: ∀ k:Kr,((cu k.av=true/\k.n=0)∨ ∃ id base,k.av=.cR id base k.n (size t))->V (E.row H.next k) (cA H2 (.l t (x++y))).next (.os H2.next (size t)) k.av:=by
  intro k qE
  have:=V.os (E:=E.row H.next k) (N:=(cA H2 (.l t (x++y))).next) (r:=H2.next) (sz:=size t) (Nat.lt_succ_self _) (by rw[K0];exact qE)
  rwa [K0]at this
 have wk: ∀ av:AV,cu av=true->x=[]->y=[]-> ∃ E',Nx E E' H (cA H2 (.l t (x++y))) h h/\SR E' (cA H2 (.l t (x++y))) h/\V E' (cA H2 (.l t (x++y))).next (.os H2.next (size t)) av:=by
  intro av ha hx hy
  obtain⟨S',X⟩:=EG ⟨av,0⟩ (fun id e=>by rw[show fU av=none from BO ha]at e;cases e) ⟨by rw[hx,hy];rfl,.inl ⟨ha,by rw[hx,hy];rfl⟩⟩
  exact⟨_,X,S',LP ⟨av,0⟩ (.inl ⟨ha,rfl⟩)⟩
 cases hc:(l8 a&&z)with
 |true=>
  rw[Bool.and_eq_true]at hc
  have he:=sF hc.1
  have hx:x=[]:=by
   rcases hd with⟨_,k⟩|⟨id,base,row,ls,k,_⟩
   ·exact k
   ·rw[k]at he;cases he
  obtain⟨E',X,S',v⟩:=wk a he hx (hz hc.2)
  exact⟨a,h,E',rfl,X,S',v⟩
 |false=>
  simp only[cond_false]
  have dH:=hy.length (EV.length t)
  have yu:dK cH cs=true:=by rw[eP,List.all_eq_true];exact fun q hq=>hy.cH (EV.cH t) q hq
  by_cases hy0:y=[]
  ·subst hy0
   rcases hd with⟨k,hx⟩|⟨id,base,row,ls,k1,k2,k3,k4⟩
   ·obtain⟨E',X,S',v⟩:=wk .cS rfl hx rfl
    exact⟨.cS,h,E',by rw[dC k];rfl,X,S',v⟩
   ·obtain⟨S',X⟩:=EG ⟨a,x.length⟩ (fun id e=>e) ⟨by simp,.inr ⟨id,base,row,ls,k1,k2,k3,by simpa using k4⟩⟩
    refine⟨a,h,_,?_,X,S',LP ⟨a,x.length⟩ (.inr ⟨id,base,k1⟩)⟩
    subst k1;rfl
  ·have HI:0<y.length:=List.length_pos_iff.2 hy0
   have QQ:Nat.beq y.length 0=false:=by cases q:Nat.beq y.length 0 with
    |false=>rfl
    |true=>have:=beq_true q;omega
   have Oq:Nat.beq (len cs) (Nat.mul y.length (size t))=true:=by rw[bE,dH];exact Nat.beq_refl _
   rcases hd with⟨k,hx⟩|⟨id,base,row,ls,k1,k2,k3,k4⟩
   ·subst hx
    rw[dC k]
    simp only[List.length_nil,Nat.zero_add]at r1 r2
    have hT:(SR (E.row H.next ⟨.cR h.next 0 y.length (size t),y.length⟩) (cA H2 (.l t ([]++y))) (cx h (pw cs))/\Nx E (E.row H.next ⟨.cR h.next 0 y.length (size t),y.length⟩) H (cA H2 (.l t ([]++y))) h (cx h (pw cs))):=by
     refine fH S hk.n hk.sub (Nat.le_succ _) (fun i hi _=>by rw[dP,if_neg (by omega)]) (fun i e=>by cases e;exact⟨Nat.lt_succ_self _,.inl (Nat.le_refl _)⟩) ?_ rfl
     refine⟨rfl,.inr ⟨h.next,0,pw cs,cs,rfl,by rw[dP,if_pos rfl],?_,hy⟩⟩
     refine cP.2 ⟨by rw[<-da,eQ,dH,Nat.zero_add];exact Nat.le_refl _,?_⟩
     rw[eQ]
     show cs=List.take (y.length*size t) _
     rw[<-dH,List.drop_zero,List.take_length]
    refine⟨_,_,_,?_,hT.2,hT.1,LP _ (.inr ⟨h.next,0,rfl⟩)⟩
    show(bif Nat.beq y.length 0 then Go.Ab.Ro.ok .cS h else bif Nat.ble (Nat.mul y.length bytes) 70368744177664&&(dK cH cs&&(Nat.beq (len cs) (Nat.mul y.length (size t))&&Nat.ble y.length 70368744177664))then .ok (.cR h.next 0 y.length (size t)) (cx h (pw cs))else .bad)=_
    rw[QQ,yu,Oq,show Nat.ble (Nat.mul y.length bytes) 70368744177664=true from by rw[Nat.ble_eq];exact r1,show Nat.ble y.length 70368744177664=true from by rw[Nat.ble_eq];exact r2]
    rfl
   ·subst k1
    obtain⟨p,p1,p2⟩:=EF k3
    obtain⟨r,o,no,er⟩:=hk.id id rfl
    have hT:(SR (E.row H.next ⟨.cR h.next 0 (x.length+y.length) (size t),x.length+y.length⟩) (cA H2 (.l t (x++y))) (cx (eN h id none) (p.app cs))/\Nx E (E.row H.next ⟨.cR h.next 0 (x.length+y.length) (size t),x.length+y.length⟩) H (cA H2 (.l t (x++y))) h (cx (eN h id none) (p.app cs))):=by
     refine fH S hk.n hk.sub (Nat.le_succ _) (fun i hi q=>?_) (fun i e=>by cases e;exact⟨Nat.lt_succ_self _,.inl (Nat.le_refl _)⟩) ?_ rfl
     ·rw[dP,if_neg (by show ¬ i=h.next;omega),fv,if_neg]
      intro ei
      exact q r o no (by rw[ei];exact er)
     ·have BD:=k4.app hy
      have hlen:=BD.length (EV.length t)
      refine⟨by rw[List.length_append],.inr ⟨h.next,0,p.app cs,ls++cs,rfl,by rw[dP];exact if_pos rfl,?_,BD⟩⟩
      refine cP.2 ⟨by rw[<-da,mL,p2,hlen,Nat.zero_add,List.length_append];exact Nat.le_refl _,?_⟩
      rw[mL,p2]
      show ls++cs=List.take ((x.length+y.length)*size t) _
      rw[<-List.length_append (as:=x),<-hlen,List.drop_zero,List.take_length]
    refine⟨_,_,_,?_,hT.2,hT.1,LP _ (.inr ⟨h.next,0,rfl⟩)⟩
    show(bif Nat.beq y.length 0 then Go.Ab.Ro.ok (.cR id base x.length (size t)) h else match h.aN.get id with
     |none=>.bad
     |some cs'=>match cs'.sub base (Nat.mul x.length (size t))with
      |none=>.bad
      |some pre=>bif Nat.ble (Nat.mul (Nat.add x.length y.length) bytes) 70368744177664&&(Nat.beq (size t) (size t)&&(dK cH cs&&(Nat.beq (len cs) (Nat.mul y.length (size t))&&Nat.ble (Nat.add x.length y.length) 70368744177664)))then
       .ok (.cR h.next 0 (Nat.add x.length y.length) (size t)) (cx (eN h id none) (pre.app cs))else .bad)=_
    have ZJ:row.sub base (Nat.mul x.length (size t))=some p:=p1
    rw[QQ]
    simp only[cond_false,k2,ZJ]
    rw[yu,Oq,Nat.beq_refl,show Nat.ble (Nat.mul (Nat.add x.length y.length) bytes) 70368744177664=true from by rw[Nat.ble_eq];exact r1,show Nat.ble (Nat.add x.length y.length) 70368744177664=true from by rw[Nat.ble_eq];exact r2]
    rfl
theorem yz{E:En}{H H':Hq}{h:Hp}(S:SR E H h){bytes:Nat}{t:Ty}{s:Sv}{a:AV}{y:List (den t)}{cs:List AV}{z:Bool}{T T':Tq}{v:Sv}(hv:V E H.next s a)(hy:fP (EV E.G t) y cs)(hz:z=true->y=[])(e:(N5 bytes t s y T H).val=some (v,T',H')):
 T'=T/\ ∃ c h' E',(bif l8 a&&z then Go.Ab.Ro.ok a h else mI (size t) bytes h (nP a) y.length cs)=.ok c h'/\Nx E E' H H' h h'/\SR E' H' h'/\V E' H'.next v c:=by
 unfold N5 at e
 split at e
 ·rename_i x H1 hx
  split at e
  ·rename_i H2 ZK
   obtain⟨q,e⟩:=Lf.T.bU e
   obtain⟨rfl,rfl,rfl⟩:=ba e
   obtain⟨E1,F,D⟩:=pO S hv hx
   have k:=uj (F.v hv) ZK
   obtain⟨c,h',E',e1,X,S',jx⟩:=Oo F.S D k (hy.mono (EV.mono F.g t)) hz q (z:=z)
   rw[bQ]
   exact⟨rfl,c,h',E',e1,F.X.trans X,S',jx⟩
  ·cases e
 ·cases e
theorem Jd{h:Hp}{b:AV}{n:Nat}{cs:List AV}(hz:GC b=true)(e:cK h (nP b)=some (n,cs)):n=0:=by
 cases b with
 |cR id off m s=>
  have hz:=beq_true (show Nat.beq m 0=true from hz)
  change (match h.aN.get id with|some cs=>(match cs.fy off (Nat.mul m s)with|some l=>some (m,l)|none=>none)|none=>none)=some (n,cs)at e
  split at e
  ·split at e
   ·cases e;exact hz
   ·cases e
  ·cases e
 |fg m l=>
  have Y2:=beq_true (show Nat.beq m 0=true from hz)
  cases e;exact Y2
 |cS=>cases e;rfl
 |iQ=>cases e;rfl
 |sc v=>
  have:cu (.sc v)=true:=hz
  rw[dC this]at e
  cases e;rfl
 | _=>cases hz
theorem kR{size bytes:Nat}{s x:Od}{t:Tm}{h:Hp}{a b:AV}{n:Nat}{cs:List AV}(h1:bz s t=some a)(h2:bz x t=some b)(h3:cK h (nP b)=some (n,cs)):
 aC size bytes (bz s) (bz x) t h=(bif l8 a&&GC b then Go.Ab.Ro.ok a h else mI size bytes h (nP a) n cs):=by
 unfold aC
 rw[h1,h2]
 show(bif l8 a&&GC b then Go.Ab.Ro.ok a h else jB size bytes (wO (bz s)) (wO (bz x)) t h)=_
 congr 1
 unfold jB
 rw[show wO (bz s) t=some (nP a)from by unfold wO;rw[h1],show wO (bz x) t=some (nP b)from by unfold wO;rw[h2]]
 simp only[h3]
theorem kS{E:En}{H:Hq}{h:Hp}(S:SR E H h){v:Sv}{b:AV}{n:Nat}{l:List Sv}(hv:V E H.next v b)(e:np v H=some (n,l)):
 ∃ cs,cK h (nP b)=some (n,cs)/\Vs E H.next l cs/\(n=0->GC b=true)/\((cu b=true/\n=0/\l=[])∨ ∃ r s off id row,v=.xo r s off n/\b=.cR id off n s/\h.aN.get id=some row/\row.fy off (n*s)=some cs):=by
 unfold np at e
 split at e
 ·obtain⟨hb,e⟩:=bb e
  cases e
  cases hv with
  |a hl=>
   refine⟨[],by rw[dC hb];rfl,.nil,fun _=>?_,.inl ⟨hb,rfl,rfl⟩⟩
   cases b<;>first|rfl|(cases hl;done)|exact hb
 ·rename_i r s off m
  split at e
  ·rename_i l0 hl
   have hle:=Nat.le_of_ble_eq_true (bb e).1
   replace e:=(bb e).2
   cases e
   obtain⟨id,row,k1,k2,k3⟩:=oz S hl
   cases hv with
   |xo h1 h2=>
    rw[k1]at h2;cases h2
    rw[bE,k3.length]at hle
    have Ny:off+n*s<=row.toL.length:=hle
    rw[kp,fC]
    have cU:=(k3.drop off).take (n*s)
    have hs:row.fy off (n*s)=some ((row.toL.drop off).take (n*s)):=yq Ny
    refine⟨_,?_,cU,fun hn=>by subst hn;rfl,.inr ⟨r,s,off,id,row,rfl,rfl,k2,hs⟩⟩
    show(match h.aN.get id with|some cs=>(match cs.fy off (Nat.mul n s)with|some l=>some (n,l)|none=>none)|none=>none)=_
    rw[k2]
    have GK:row.fy off (Nat.mul n s)=_:=hs
    simp only[GK]
  ·cases e
 ·cases e
theorem dc{α:Type}{b:Bool}{x:T α}{r:α}(h:(bif b then x else T.bad).val=some r):b=true/\x.val=some r:=by
 cases b with
 |true=>exact⟨rfl,h⟩
 |false=>cases h
theorem EH{size bytes:Nat}{sv xv v:Sv}{T T':Tq}{E:En}{H H':Hq}{h:Hp}{t:Tm}{s x:Od}{a b:AV}(S:SR E H h)(hs:bz s t=some a)(Ck:V E H.next sv a)(hx:bz x t=some b)(Bv:V E H.next xv b)(e:(Eb size bytes sv xv T H).val=some (v,T',H')):
 T'=T/\ ∃ c h' E',aC size bytes (bz s) (bz x) t h=.ok c h'/\Nx E E' H H' h h'/\SR E' H' h'/\V E' H'.next v c:=by
 unfold Eb at e
 obtain⟨hb,e⟩:=dc e
 rw[Bool.and_eq_true,Bool.and_eq_true]at hb
 have typed: ∀ {ty:Ty},(bif Nat.beq size (Lf.size ty)then(match NY ty xv H with|some (new,h1)=>N5 bytes ty sv new T h1|none=>.bad)else .bad).val=some (v,T',H')->T'=T/\ ∃ c h' E',aC size bytes (bz s) (bz x) t h=.ok c h'/\Nx E E' H H' h h'/\SR E' H' h'/\V E' H'.next v c:=by
  intro ty e
  obtain⟨hz,e⟩:=dc e
  have hz:=beq_true hz
  split at e
  ·rename_i new H1 hn
   obtain⟨E1,F,k⟩:=yt S Bv hn
   obtain⟨cs,c1,c2⟩:=sD F.S k
   obtain⟨rfl,c,h',E',e1,X,S',jx⟩:=yz F.S (F.v Ck) c2 (z:=GC b) (fun q=>List.eq_nil_of_length_eq_zero (Jd q c1)) e
   refine⟨rfl,c,h',E',?_,F.X.trans X,S',jx⟩
   rw[kR hs hx c1,hz];exact e1
  ·cases e
 split at e
 ·
  rename_i l hl
  obtain⟨cs,c1,_,c3,_⟩:=kS S Bv hl
  have ZL:=c3 rfl
  have res: ∀ w:Sv,w=v/\T'=T/\H'=H->V E H.next w a->(l8 a=true∨cu a=true∨ ∃ id o n z,a=.cR id o n z)->T'=T/\ ∃ c h' E',aC size bytes (bz s) (bz x) t h=.ok c h'/\Nx E E' H H' h h'/\SR E' H' h'/\V E' H'.next v c:=by
   rintro w ⟨rfl,rfl,rfl⟩ hw hc
   refine⟨rfl,a,h,E,?_,Nx.refl _ _ _,S,hw⟩
   rw[kR hs hx c1,ZL]
   cases he:l8 a with
   |true=>rfl
   |false=>
    rcases hc with hc|hc|⟨id,o,n,z,hc⟩
    ·rw[he]at hc;cases hc
    ·have:a=.cS:=by cases a<;>first|rfl|(cases he;done)|(cases hc;done)|(rename_i v0;have k:l8 (.sc v0)=true:=hc;rw[k]at he;cases he)
     subst this
     rfl
    ·subst hc;rfl
  split at e
  ·obtain⟨hw,e⟩:=dc e
   cases Ck with
   |a hl=>exact res _ (ba e) (.a hl) (.inl hw)
  ·refine res _ (ba e) Ck (.inr ?_)
   cases Ck with
   |os h1 h2=>
    rcases h2 with⟨h2,_⟩|⟨_,_,h2⟩
    ·exact .inl h2
    ·exact .inr ⟨_,_,_,_,h2⟩
  ·refine res _ (ba e) Ck (.inr ?_)
   cases Ck with
   |se _ h2 _ _=>exact .inl h2
   |ss _ _ _=>exact .inr ⟨_,_,_,_,rfl⟩
  ·refine res _ (ba e) Ck (.inr ?_)
   cases Ck with
   |xo _ _=>exact .inr ⟨_,_,_,_,rfl⟩
  ·cases e
 ·rename_i m new hm hl
  have QR:m=0->False:=fun k=>hm k
  obtain⟨cs,c1,c2,c3,c4⟩:=kS S Bv hl
  split at e
  ·rename_i n j2 ho
   split at e
   ·rename_i H2 ZK
    obtain⟨hr,e⟩:=dc e
    rw[Bool.and_eq_true]at hr
    obtain⟨rfl,rfl,rfl⟩:=ba e
    obtain⟨r1,r2⟩:=lG.1 hr.1
    obtain⟨ds,d1,d2,d3,d4⟩:=kS S Ck ho
    have k:=uj Ck ZK
    have acp:0<m:=Nat.pos_of_ne_zero fun q=>QR q
    obtain⟨r',s',aeA,nU,I8,x1,x2,x3,x4⟩: ∃ r s off id row,xv=.xo r s off m/\b=.cR id off m s/\h.aN.get id=some row/\row.fy off (m*s)=some cs:=by
     rcases c4 with⟨_,q,_⟩|q
     ·omega
     ·exact q
    have GK:s'=size:=by have q:=beq_true hb.2.1;rw[x1]at q;exact q
    have dH:cs.length=m*size:=by
     obtain⟨q1,q2⟩:=cP.1 x4
     rw[q2,List.length_take,List.length_drop,da,GK];rw[GK]at q1;omega
    have QQ:Nat.beq m 0=false:=by cases q:Nat.beq m 0 with
     |false=>rfl
     |true=>have:=beq_true q;omega
    have Oq:Nat.beq (len cs) (Nat.mul m size)=true:=by rw[bE,dH];exact Nat.beq_refl _
    have ZL:GC b=false:=by rw[x2];exact QQ
    have yu:dK cH cs=true:=by
     rw[eP,List.all_eq_true]
     refine c2.xF fun q hq=>?_
     have:=hr.2;rw[eP,List.all_eq_true]at this;exact this q hq
    have lx:0<size:=bh.1 hb.2.2
    rw[bQ]
    refine⟨rfl,?_⟩
    rw[kR hs hx c1,ZL,Bool.and_false,cond_false]
    have LP:V (E.row H.next ⟨.ref h.next 0,0⟩) (cA H2 (.o 0 (j2++new))).next (.xo H2.next size 0 (Nat.add n m)) (.cR h.next 0 (n+m) size):=by
     refine .xo (id:=h.next) (Nat.lt_succ_self _) ?_
     show(if H2.next=H.next then _ else _:Kr).av=_
     rw[if_pos k.n]
    rcases d4 with⟨q1,q2,q3⟩|⟨r1',Je,Jf,Ou,ZM,y1,y2,y3,y4⟩
    ·subst q2;subst q3
     rw[dC q1]
     simp only[Nat.add_eq,Nat.zero_add]at r1 r2
     have hT:SR (E.row H.next ⟨.ref h.next 0,0⟩) (cA H2 (.o 0 ([]++new))) (cx h (pw cs))/\Nx E (E.row H.next ⟨.ref h.next 0,0⟩) H (cA H2 (.o 0 ([]++new))) h (cx h (pw cs)):=by
      refine fH S k.n k.sub (Nat.le_succ _) (fun i hi _=>by rw[dP,if_neg (by omega)]) (fun i e=>by cases e;exact⟨Nat.lt_succ_self _,.inl (Nat.le_refl _)⟩) ?_ rfl
      exact⟨h.next,pw cs,rfl,by rw[dP,if_pos rfl],by rw[eQ];exact c2,fun h=>(h rfl).elim⟩
     rw[Nat.zero_add]at LP
     refine⟨_,_,_,?_,hT.2,hT.1,LP⟩
     show(bif Nat.beq m 0 then Go.Ab.Ro.ok .cS h else bif Nat.ble (Nat.mul m bytes) 70368744177664&&(dK cH cs&&(Nat.beq (len cs) (Nat.mul m size)&&Nat.ble m 70368744177664))then .ok (.cR h.next 0 m size) (cx h (pw cs))else .bad)=_
     rw[QQ,yu,Oq,show Nat.ble (Nat.mul m bytes) 70368744177664=true from by rw[Nat.ble_eq];exact r1,show Nat.ble m 70368744177664=true from by rw[Nat.ble_eq];exact r2]
     rfl
    ·have xx:Je=size:=by have q:=beq_true hb.1;rw[y1]at q;exact q
     subst xx
     subst y2
     obtain⟨p,p1,p2⟩:=EF y4
     obtain⟨r,o,no,er⟩:=k.id Ou rfl
     have hT:SR (E.row H.next ⟨.ref h.next 0,0⟩) (cA H2 (.o 0 (j2++new))) (cx (eN h Ou none) (p.app cs))/\Nx E (E.row H.next ⟨.ref h.next 0,0⟩) H (cA H2 (.o 0 (j2++new))) h (cx (eN h Ou none) (p.app cs)):=by
      refine fH S k.n k.sub (Nat.le_succ _) (fun i hi q=>?_) (fun i e=>by cases e;exact⟨Nat.lt_succ_self _,.inl (Nat.le_refl _)⟩) ?_ rfl
      ·rw[dP,if_neg (by show ¬ i=h.next;omega),fv,if_neg]
       intro ei
       exact q r o no (by rw[ei];exact er)
      ·refine⟨h.next,p.app cs,rfl,by rw[dP];exact if_pos rfl,?_,fun h=>(h rfl).elim⟩
       rw[mL,p2]
       change cK h (.cR Ou Jf n Je)=some (n,ds)at d1
       have:ds=ds:=rfl
       exact d2.app c2
     refine⟨_,_,_,?_,hT.2,hT.1,LP⟩
     show(bif Nat.beq m 0 then Go.Ab.Ro.ok (.cR Ou Jf n Je) h else match h.aN.get Ou with
      |none=>.bad
      |some cs'=>match cs'.sub Jf (Nat.mul n Je)with
       |none=>.bad
       |some pre=>bif Nat.ble (Nat.mul (Nat.add n m) bytes) 70368744177664&&(Nat.beq Je Je&&(dK cH cs&&(Nat.beq (len cs) (Nat.mul m Je)&&Nat.ble (Nat.add n m) 70368744177664)))then
        .ok (.cR h.next 0 (Nat.add n m) Je) (cx (eN h Ou none) (pre.app cs))else .bad)=_
     have ZJ:ZM.sub Jf (Nat.mul n Je)=some p:=p1
     rw[QQ]
     simp only[cond_false,y3,ZJ]
     rw[yu,Oq,Nat.beq_refl,show Nat.ble (Nat.mul (Nat.add n m) bytes) 70368744177664=true from by rw[Nat.ble_eq];exact r1,show Nat.ble (Nat.add n m) 70368744177664=true from by rw[Nat.ble_eq];exact r2]
     rfl
   ·cases e
  ·split at e
   ·exact typed e
   ·cases e
 ·split at e
  ·exact typed e
  ·cases e
end Lf
end Go.Ab

noncomputable section
namespace Go.Ab
namespace Lf
theorem EI{E:En}{H:Hq}{h:Hp}(S:SR E H h){r:Nat}{R R':Row}(hr:H.aN.get r=some R)(lv:R.live=true)(hR:RV E H.next h (E.K r) R'):SR E (fc H r (some R')) h/\Nx E E H (fc H r (some R')) h h:=by
 have ow: ∀ q,own (fc H r (some R')) q->own H q:=by
  rintro q ⟨Q,a,b⟩
  rw[du]at a
  split at a
  ·rename_i e;rw[e];exact⟨R,hr,lv⟩
  ·exact⟨Q,a,b⟩
 refine⟨⟨?_,?_,?_,?_⟩,⟨pL.refl _ _,Nat.le_refl _,Nat.le_refl _,fun q id o e=>.inl ⟨q,ow q o,e⟩,fun _ _ e=>.inl e,fun _ _ _=>rfl⟩⟩
 ·intro q Q hq
  rw[du]at hq
  split at hq
  ·rename_i e;subst e;cases hq;exact⟨(S.row _ _ hr).1,hR⟩
  ·exact S.row _ _ hq
 ·exact fun a b i oa ob ea eb=>S.inj a b i (ow a oa) (ow b ob) ea eb
 ·exact fun a i oa ea=>S.lt a i (ow a oa) ea
 ·intro i row e
  obtain⟨a,b,c⟩:=S.g i row e
  exact⟨a,b,fun q oq=>c q (ow q oq)⟩
theorem EJ{G:Nat->Option Rw}{t:Ty}{x y:List (den t)}{ls cs:List AV}(e:fP (EV G t) x ls)(k:fP (EV G t) y cs)(off:Nat):fP (EV G t) (x.take off++(y++x.drop (off+y.length))) (ls.take (off*size t)++(cs++ls.drop (off*size t+y.length*size t))):=by
 have h1:=e.take (EV.length t) off
 have h2:=e.drop (EV.length t) (off+y.length)
 rw[Nat.add_mul]at h2
 exact h1.app (k.app h2)
theorem BX{size:Nat}{d s:Od}{t:Tm}{h:Hp}{b:AV}{m:Nat}{cs:List AV}(h1:bz d t=some .cS)(h2:bz s t=some b)(h3:cK h b=some (m,cs)):fQ size (bz d) (bz s) t h=.ok (.int .i64 (.ofNat 0)) h:=by
 unfold fQ
 rw[h1,h2]
 simp only[h3]
theorem Jg{size:Nat}{d s:Od}{t:Tm}{h:Hp}{b:AV}{m id off n sz:Nat}{cs:List AV}(h1:bz d t=some (.cR id off n sz))(h2:bz s t=some b)(h3:cK h b=some (m,cs))(h0:min m n=0):fQ size (bz d) (bz s) t h=.ok (.int .i64 (.ofNat 0)) h:=by
 unfold fQ
 rw[h1,h2]
 simp only[h3,mM,h0]
 rfl
theorem Jh{size:Nat}{d s:Od}{t:Tm}{h:Hp}{b:AV}{m id off n sz:Nat}{cs:List AV}{row:Rw}(h1:bz d t=some (.cR id off n sz))(h2:bz s t=some b)(h3:cK h b=some (m,cs))(h0:min m n≠0)(hr:h.aN.get id=some row)(hz:0<size)(hs:sz=size)
 (hl:cs.length=m*size)(hc: ∀ a,a∈cs->cH a=true)(hn:off+min m n*size<=row.n):fQ size (bz d) (bz s) t h=.ok (.int .i64 (.ofNat (min m n))) (eN h id (some (row.put off (cs.take (min m n*size))))):=by
 unfold fQ
 rw[h1,h2]
 have hb:Nat.beq (min m n) 0=false:=by
  cases q:Nat.beq (min m n) 0 with
  |false=>rfl
  |true=>exact(h0 (Nat.eq_of_beq_eq_true q)).elim
 have q:((Nat.blt 0 size&&(Nat.beq sz size&&(Nat.beq (len cs) (Nat.mul m size)&&dK Go.Ab.cH cs)))&&Nat.ble (Nat.add off (Nat.mul (min m n) size)) row.n)=true:=by
  have a1:Nat.blt 0 size=true:=by simpa using hz
  have a2:Nat.beq sz size=true:=by rw[hs];exact Nat.beq_refl _
  have a3:Nat.beq (len cs) (Nat.mul m size)=true:=by rw[bE,hl];exact Nat.beq_refl _
  have a4:dK Go.Ab.cH cs=true:=by rw[eP,List.all_eq_true];exact hc
  have a5:Nat.ble (Nat.add off (Nat.mul (min m n) size)) row.n=true:=by rw[Nat.ble_eq];exact hn
  rw[a1,a2,a3,a4,a5]
  rfl
 simp only[h3,mM,hb,cond_false,hr,q,cond_true,kp]
 rfl
theorem zW{row:Rw}{ls new:List AV}{base k o:Nat}(s:row.fy base k=some ls)(hk:ls.length=k)(ho:o+new.length<=k):(row.put (base+o) new).fy base k=some (ls.take o++(new++ls.drop (o+new.length))):=by
 obtain⟨s1,s2⟩:=cP.1 s
 have hn:base+o+new.length<=row.n:=by omega
 refine cP.2 ⟨by show base+k<=row.n;exact s1,?_⟩
 have kb:row.toL=row.toL.take base++(ls++row.toL.drop (base+k)):=by
  rw[s2,<-List.drop_drop,List.take_append_drop,List.take_append_drop]
 have xN:(row.toL.take base).length=base:=by rw[List.length_take,da];omega
 have e1:=pM ls (row.toL.drop (base+k)) new o (by omega) (row.toL.take base)
 rw[<-kb,xN]at e1
 rw[lh hn,e1,List.drop_append_of_le_length (by rw[xN];exact Nat.le_refl _)]
 rw[show List.drop base (row.toL.take base)=[]from by rw[List.drop_eq_nil_iff,xN];exact Nat.le_refl _,List.nil_append]
 rw[List.take_append_of_le_length (by rw[pN _ _ _ (by omega)];omega)]
 rw[show List.take k (put ls o new)=put ls o new from by rw[List.take_of_length_le];rw[pN _ _ _ (by omega)];omega]
 rw[put_eq]
theorem EK{t:Ty}{v:Sv}{a:AV}{x:List (den t)}{E:En}{H H1:Hq}{h:Hp}(S:SR E H h)(hv:V E H.next v a)(e:Ef t v H=some (x,H1)): ∃ E1,Fz E E1 H H1 h/\ ∃ cs,cK h (nP a)=some (x.length,cs)/\fP (EV E1.G t) x cs:=by
 unfold Ef at e
 split at e
 ·rename_i r hr
  cases e
  obtain⟨E1,F,D⟩:=pO S hv hr
  refine⟨E1,F,?_⟩
  rcases D with⟨d1,rfl⟩|⟨id,base,row,ls,d1,d2,d3,d4⟩
  ·exact⟨[],by rw[dC d1];rfl,rfl⟩
  ·refine⟨ls,?_,d4⟩
   rw[d1]
   show(match h.aN.get id with|some cs=>(match cs.fy base (Nat.mul x.length (size t))with|some l=>some (x.length,l)|none=>none)|none=>none)=_
   rw[d2]
   have s':row.fy base (Nat.mul x.length (size t))=some ls:=d3
   simp only[s']
 ·obtain⟨E1,F,kc⟩:=yt S hv e
  obtain⟨cs,c1,c2⟩:=sD F.S kc
  exact⟨E1,F,cs,c1,c2⟩
theorem EL{size:Nat}{d s:Od}{r sz off n:Nat}{sv v:Sv}{E:En}{T T':Tq}{t:Tm}{H H':Hq}{h:Hp}{b c:AV}(hT:TV E H.next T t)(S:SR E H h)(hs:bz s t=some (nP b))(Ck:V E H.next sv b)(hd:bz d t=some (nP c))
 (hk:(n=0/\cu c=true)∨ ∃ id base,(E.K r).av=.cR id base (E.K r).n sz/\c=.cR id (base+off*sz) n sz/\off+n<=(E.K r).n)(e:(IP size sv r sz off n T H).val=some (v,T',H')):
 ∃ a h' E',Ev (fun _ _=>fQ size (bz d) (bz s) t h) (.ok a h')/\Nx E E' H H' h h'/\SR E' H' h'/\V E' H'.next v a/\TV E' H'.next T' t:=by
 unfold IP at e
 split at e
 ·rename_i ty x hr
  obtain⟨hb,e⟩:=dc e
  rw[Bool.and_eq_true,Bool.and_eq_true]at hb
  obtain⟨b0,b1,b2⟩:=hb
  have b0:0<size:=by simpa using b0
  have b1:=beq_true b1
  have b2:=beq_true b2
  split at e
  ·rename_i y H1 hy
   split at e
   ·rename_i t2 x2 QO
    obtain⟨rfl,rfl,rfl⟩:=ba e
    obtain⟨E1,F,cs,c1,c2⟩:=EK S Ck hy
    have q:=(S.row _ _ hr).2
    have dH:cs.length=y.length*size:=by rw[c2.length (EV.length ty),b2]
    have lrm:LR E1.G ty x (E1.K r) h.aN.get:=by rw[F.K];exact LR.mono F.g (fun _ _ _ e=>e) q
    rw[bQ,bQ]
    by_cases h0:min y.length n=0
    ·have rE:x.take off++(y.take (min y.length n)++x.drop (Nat.add off (min y.length n)))=x:=by
      rw[h0,List.take_zero,List.nil_append]
      exact List.take_append_drop _ _
     rw[rE]
     obtain⟨S1,X1⟩:=EI F.S QO rfl (R':=.l ty x) lrm
     refine⟨.int .i64 (.ofNat 0),h,E1,?_,F.X.trans X1,S1,?_,hT.mono (F.X.trans X1).e (F.X.trans X1).le⟩
     ·rcases hk with⟨hn,hc⟩|⟨id,base,k1,k2,k3⟩
      ·exact Ev.const (BX (by rw[hd,dC hc]) hs c1)
      ·exact Ev.const (Jg (by rw[hd,k2];rfl) hs c1 h0)
     ·rw[h0];exact dO
    ·rcases hk with⟨hn,hc⟩|⟨id,base,k1,k2,k3⟩
     ·subst hn;rw[Nat.min_zero]at h0;exact(h0 rfl).elim
     ·rcases lrm.2 with⟨k,_⟩|⟨nU,Ew,row,ls,p1,p2,p3,p4⟩
      ·rw[F.K,k1]at k;cases k
      ·rw[F.K,k1]at p1
       injection p1 with a1 a2 a3 a4
       subst a1;subst a2
       have hxn:x.length=(E.K r).n:=q.1
       have On:ls.length=(E1.K r).n*size:=by rw[p4.length (EV.length ty),F.K,hxn,b2]
       obtain⟨w,hw⟩: ∃ w,w=min y.length n:=⟨_,rfl⟩
       have hwn:w<=n:=by rw[hw];exact Nat.min_le_right _ _
       have hwy:w<=y.length:=by rw[hw];exact Nat.min_le_left _ _
       have Sk:(y.take w).length=w:=by rw[List.length_take];exact Nat.min_eq_left hwy
       have hcw:(cs.take (w*size)).length=w*size:=by
        rw[List.length_take,dH];exact Nat.min_eq_left (Nat.mul_le_mul_right _ hwy)
       have hm:off*size+w*size<=(E.K r).n*size:=by rw[<-Nat.add_mul];exact Nat.mul_le_mul_right _ (by omega)
       have p3':row.fy base ((E1.K r).n*size)=some ls:=by rw[b2];exact p3
       obtain⟨s1,_⟩:=cP.1 p3'
       rw[F.K]at s1
       have ps:=zW (o:=off*size) (new:=cs.take (w*size)) p3' On (by rw[hcw,F.K];exact hm)
       have he:=EJ p4 (by have:=c2.take (EV.length ty) w;rw[<-b2]at this;exact this) off
       rw[Sk,<-b2]at he
       rw[hcw]at ps
       have eC:fU (E1.K r).av=some id:=by rw[F.K,k1];rfl
       have hR:RV E1 H1.next (eN h id (some (row.put (base+off*size) (cs.take (w*size))))) (E1.K r) (.l ty (x.take off++(y.take w++x.drop (off+w)))):=by
        refine⟨?_,.inr ⟨id,base,_,_,by rw[F.K,k1,b1,b2],by rw[fv,if_pos rfl],by rw[<-b2];exact ps,he⟩⟩
        rw[F.K,<-hxn,List.length_append,List.length_append,List.length_take,Sk,List.length_drop]
        omega
       obtain⟨S1,X1⟩:=ui F.S QO rfl rfl eC hR
       rw[<-hw]
       refine⟨.int .i64 (.ofNat w),_,E1,Ev.const ?_,F.X.trans X1,S1,dO,hT.mono (F.X.trans X1).e (F.X.trans X1).le⟩
       have:=Jh (size:=size) (by rw[hd,k2];rfl) hs c1 h0 p2 b0 b1 dH (fP.cH (EV.cH ty) c2) (by rw[b1,<-hw];omega)
       rw[b1,<-hw]at this
       exact this
   ·cases e
  ·cases e
 ·cases e
theorem EM(size:Nat)(d s:Od):dn (Eg size d s) (fun _ _=>fQ size (bz d) (bz s)):=by
 intro E T t H h v T' H' hT hH e
 unfold Eg at e
 split at e
 ·rename_i sv hs
  obtain⟨b,hb,Cm⟩:=iX hT hs
  split at e
  ·rename_i r sz hd
   obtain⟨c,hc,dR⟩:=iX hT hd
   split at e
   ·rename_i ty x hr
    refine EL hT hH hb Cm hc ?_ e
    have q:=(hH.row _ _ hr).2
    cases dR with
    |os h1 h2=>
     rcases h2 with⟨h2,h3⟩|⟨id,base,h2⟩
     ·exact .inl ⟨by have:=q.1;omega,h2⟩
     ·exact .inr ⟨id,base,h2,by rw[h2,q.1,Nat.zero_mul,Nat.add_zero],by have:=q.1;omega⟩
   ·cases e
  ·rename_i r sz off n hd
   obtain⟨c,hc,dR⟩:=iX hT hd
   refine EL hT hH hb Cm hc ?_ e
   cases dR with
   |se h1 h2 h3 h4=>exact .inl ⟨rfl,h2⟩
   |ss h1 h2 h3=>exact .inr ⟨_,_,h2,rfl,h3⟩
  ·cases e
 ·cases e
end Lf
end Go.Ab

noncomputable section
namespace Go.Ab
namespace Lf
theorem yA(size bytes:Nat)(s x:Od):dn (uc size bytes s x) (fun _ _=>aC size bytes (bz s) (bz x)):=by
 intro E T t H h v T' H' hT hH e
 unfold uc at e
 split at e
 ·rename_i sv hs
  split at e
  ·rename_i xv hx
   obtain⟨a,ha,qS⟩:=bu hT hs
   obtain⟨b,hb,Cm⟩:=bu hT hx
   obtain⟨rfl,c,h',E',e1,X,S',jx⟩:=EH hH ha qS hb Cm e
   exact⟨c,h',E',Ev.const e1,X,S',jx,hT.mono X.e X.le⟩
  ·cases e
 ·cases e
theorem Ov:SR ⟨fun _=>⟨.any,0⟩,fun _=>.any,fun _=>none,fun _=>.any⟩ ⟨0,.nil⟩ ⟨0,.nil⟩:=
 ⟨(fun _ _ e=>by cases e),(fun _ _ _ o=>by obtain⟨_,e,_⟩:=o;cases e),(fun _ _ o=>by obtain⟨_,e,_⟩:=o;cases e),(fun _ _ e=>by cases e)⟩
theorem wm{z:List AV}{t:Ty}{x:den t}(e:zK z=some ⟨t,x⟩)(G:Nat->Option Rw):EV G t x z:=by
 unfold zK at e
 split at e
 ·rename_i t' ht
  split at e
  ·rename_i l hl
   split at e
   ·rename_i y q hy
    cases e
    obtain⟨E',c,d,F,Si,ZN,hd⟩:=mr t _ _ _ l [] z x q Ov (nq hl) hy
    have:d=[]:=by cases hd;rfl
    rw[this,List.append_nil]at Si
    rw[Si]
    refine EV.mono (fun id row k=>?_) _ _ _ ZN
    have:=(F.S.g id row k).1
    exact absurd this (Nat.not_lt_zero _)
   ·cases e
  ·cases e
 ·cases e
theorem uk{G:Nat->Option Rw}{t:Ty}{x:den t}{z:List AV}(h:EV G t x z): ∀ n,fP (EV G t) (List.replicate n x) (dM n z)
 |0=>rfl
 |n+1=>by
  rw[List.replicate_succ]
  show fP _ _ (app z (dM n z))
  rw[bQ]
  exact⟨z,_,rfl,h,uk h n⟩
theorem EN(size bytes:Nat)(z:List AV)(s x:Od):dn (Ec size bytes z s x) (fun _ _=>j1 size bytes z (bz s) (bz x)):=by
 intro E T t H h v T' H' hT hH e
 unfold Ec at e
 split at e
 ·rename_i sv hs
  split at e
  ·rename_i xv hx
   split at e
   ·rename_i k n hn
    obtain⟨_,e⟩:=dc e
    split at e
    ·rename_i ty y hz
     obtain⟨hb,e⟩:=dc e
     obtain⟨h0,e⟩:=Lf.T.bU e
     rw[Bool.and_eq_true]at hb
     have ZO:=beq_true hb.1
     obtain⟨a,ha,qS⟩:=bu hT hs
     obtain⟨b,xt,Cm⟩:=bu hT hx
     have:=eG Cm hn;subst this
     obtain⟨j,rfl⟩:=Int.eq_ofNat_of_zero_le (by simpa using h0)
     have hy:=uk (wm hz E.G) (j:Int).toNat
     obtain⟨rfl,c,h',E',e1,X,S',jx⟩:=yz hH qS hy (z:=Nat.beq j 0) (fun q=>by have:=beq_true q;subst this;rfl) e
     refine⟨c,h',E',Ev.const ?_,X,S',jx,hT.mono X.e X.le⟩
     unfold j1
     rw[ha,xt]
     rw[List.length_replicate]at e1
     show(bif l8 a&&Nat.beq j 0 then Go.Ab.Ro.ok a h else mI size bytes h (nP a) j (dM j z))=_
     rw[ZO];exact e1
    ·cases e
   ·cases e
  ·cases e
 ·cases e
theorem oB(G:Nat->Option Rw): ∀ (l:List UInt8),fP (EV G (.int .u8)) (l.map fun b=>Int.ofNat b.toNat) (l.map fun b=>AV.int .u8 (.ofNat b.toNat))
 | []=>rfl
 |b::l=>⟨[_],_,rfl,rfl,oB G l⟩
theorem EO(bytes:Nat)(s x:Od):dn (Ed bytes s x) (fun _ _=>mJ bytes (bz s) (bz x)):=by
 intro E T t H h v T' H' hT hH e
 unfold Ed at e
 split at e
 ·rename_i sv hs
  split at e
  ·rename_i xv hx
   split at e
   ·rename_i k y hn
    obtain⟨_,e⟩:=dc e
    obtain⟨a,ha,qS⟩:=bu hT hs
    obtain⟨b,xt,Cm⟩:=bu hT hx
    have:=j8 Cm hn;subst this
    have hl:y.data.toList.length=y.size:=Array.length_toList
    obtain⟨rfl,c,h',E',e1,X,S',jx⟩:=yz hH qS (oB E.G y.data.toList) (z:=Nat.beq y.size 0) (fun q=>by have:=beq_true q;rw[<-hl]at this;rw[List.eq_nil_of_length_eq_zero this];rfl) e
    refine⟨c,h',E',Ev.const ?_,X,S',jx,hT.mono X.e X.le⟩
    unfold mJ
    rw[ha,xt]
    rw[List.length_map,hl]at e1
    exact e1
   ·cases e
  ·cases e
 ·cases e
theorem BY(x:Od):dn (ym x) (fun _ _=>jA (bz x)):=by
 intro E T t H h v T' H' hT hH e
 unfold ym at e
 split at e
 ·rename_i xv hx
  split at e
  ·rename_i k y hn
   obtain⟨rfl,rfl,rfl⟩:=ba e
   obtain⟨b,xt,Cm⟩:=bu hT hx
   have:=j8 Cm hn;subst this
   have hl:y.data.toList.length=y.size:=Array.length_toList
   obtain⟨S,X⟩:=LL hH (t:=.int .u8) (rw:=pw (y.data.toList.map fun b=>AV.int .u8 (.ofNat b.toNat))) (by rw[eQ];exact oB E.G y.data.toList)
   refine⟨.cR h.next 0 y.size 1,_,_,Ev.const ?_,X,S,?_,hT.mono X.e X.le⟩
   ·unfold jA
    rw[xt]
   ·have hv:=V.os (E:=E.row H.next ⟨.cR h.next 0 (y.data.toList.map fun b=>Int.ofNat b.toNat).length (Lf.size (.int .u8)),(y.data.toList.map fun b=>Int.ofNat b.toNat).length⟩) (N:=(cA H (.l (.int .u8) (y.data.toList.map fun b=>Int.ofNat b.toNat))).next) (r:=H.next) (sz:=1) (Nat.lt_succ_self _) (.inr ⟨h.next,0,by show(if H.next=H.next then _ else _:Kr).av=AV.cR _ _ (if H.next=H.next then _ else _:Kr).n _;rw[if_pos rfl];rfl⟩)
    have e2:((E.row H.next ⟨.cR h.next 0 (y.data.toList.map fun b=>Int.ofNat b.toNat).length (Lf.size (.int .u8)),(y.data.toList.map fun b=>Int.ofNat b.toNat).length⟩).K H.next).av=.cR h.next 0 y.size 1:=by
     show(if H.next=H.next then _ else _:Kr).av=_
     rw[if_pos rfl]
     show AV.cR _ _ _ _=_
     rw[List.length_map,hl];rfl
    rw[e2]at hv
    exact hv
  ·cases e
 ·cases e
theorem Ji{T:Tq}{l c:Od}{lv cv:Sv}{k k':IntKind}{m n:Int}(h:BL l c=true)(h1:fO l T=some lv)(h2:fO c T=some cv)(e1:toN lv=some (k,m))(e2:toN cv=some (k',n)):m=n:=by
 unfold BL at h
 split at h
 ·have:=beq_true h;subst this
  rw[h1]at h2;cases h2
  rw[e1]at e2;cases e2;rfl
 ·cases h1;cases h2;cases e1;cases e2
  exact cG.1 h
 ·cases h
theorem EP(size bytes:Nat)(z:List AV)(l c:Od):dn (Ee size bytes z l c) (fun _ _=>jf size bytes z (bz l) (bz c)):=by
 intro E T t H h v T' H' hT hH e
 unfold Ee at e
 split at e
 ·rename_i lv hl
  split at e
  ·rename_i cv hc
   split at e
   ·rename_i k l' hln
    split at e
    ·rename_i k' c' hcn
     split at e
     ·rename_i ty y hz
      obtain⟨hb,e⟩:=dc e
      obtain⟨h0,e⟩:=Lf.T.bU e
      obtain⟨rfl,rfl,rfl⟩:=ba e
      rw[Bool.and_eq_true]at hb
      have ZO:=beq_true hb.1
      simp only[Bool.and_eq_true,decide_eq_true_eq]at h0
      obtain⟨⟨h1,h2⟩,h3⟩:=h0
      obtain⟨a,ha,qS⟩:=bu hT hl
      obtain⟨b,xt,Cm⟩:=bu hT hc
      have:=eG qS hln;subst this
      have:=eG Cm hcn;subst this
      have heq:BL l c=true->l'=c':=fun q=>Ji q hl hc hln hcn
      obtain⟨m,rfl⟩:=Int.eq_ofNat_of_zero_le h1
      obtain⟨n,rfl⟩:=Int.eq_ofNat_of_zero_le (Int.le_trans h1 h2)
      have hmn:m<=n:=by omega
      have h3:n*bytes<=70368744177664:=h3
      have hk:jf size bytes z (bz l) (bz c) t h=bif Nat.beq n 0 then .ok .iQ h else .ok (.cR h.next 0 m size) (cx h ⟨Nat.mul n (len z),z,.nil⟩):=by
       unfold jf
       rw[ha,xt]
       show(bif Nat.ble m n&&Nat.ble (Nat.mul n bytes) 70368744177664 then(bif Nat.beq n 0 then Go.Ab.Ro.ok .iQ h else .ok (.cR h.next 0 m size) (cx h ⟨Nat.mul n (len z),z,.nil⟩))else .bad)=_
       rw[show Nat.ble m n=true from by rw[Nat.ble_eq];exact hmn,show Nat.ble (Nat.mul n bytes) 70368744177664=true from by rw[Nat.ble_eq];exact h3]
       rfl
      have ZP:=uk (wm hz E.G) n
      simp only[Int.toNat_natCast]
      cases hn:Nat.beq n 0 with
      |true=>
       have Ln:=beq_true hn
       subst Ln
       have QR:m=0:=by omega
       subst QR
       rw[hn]at hk
       have GQ:SR (E.row H.next ⟨.iQ,0⟩) (cA H (.l ty (List.replicate 0 y))) h/\Nx E (E.row H.next ⟨.iQ,0⟩) H (cA H (.l ty (List.replicate 0 y))) h h:=
        fH hH rfl (fun _ _ e=>e) (Nat.le_refl _) (fun _ _ _=>rfl) (fun _ e=>by cases e) ⟨rfl,.inl ⟨rfl,rfl⟩⟩ rfl
       refine⟨.iQ,h,_,Ev.const hk,GQ.2,GQ.1,?_,hT.mono GQ.2.e GQ.2.le⟩
       have K0:(E.row H.next ⟨.iQ,0⟩).K H.next=⟨.iQ,0⟩:=if_pos rfl
       cases hq:BL l c with
       |true=>
        have:=V.os (E:=E.row H.next ⟨.iQ,0⟩) (N:=(cA H (.l ty (List.replicate 0 y))).next) (r:=H.next) (sz:=size) (Nat.lt_succ_self _) (.inl (by rw[K0];exact⟨rfl,rfl⟩))
        rw[K0]at this;exact this
       |false=>
        have:=V.se (E:=E.row H.next ⟨.iQ,0⟩) (N:=(cA H (.l ty (List.replicate 0 y))).next) (r:=H.next) (sz:=size) (off:=0) (Nat.lt_succ_self _) (by rw[K0];rfl) (by rw[K0]) rfl
        rw[K0]at this;exact this
      |false=>
       rw[hn]at hk
       obtain⟨S,X⟩:=LL hH (t:=ty) (x:=List.replicate n y) (rw:=⟨Nat.mul n (len z),z,.nil⟩) (by rw[y0];exact ZP)
       refine⟨_,_,_,Ev.const hk,X,S,?_,hT.mono X.e X.le⟩
       have K0:(E.row H.next ⟨.cR h.next 0 (List.replicate n y).length (Lf.size ty),(List.replicate n y).length⟩).K H.next=⟨.cR h.next 0 n size,n⟩:=by
        show(if H.next=H.next then _ else _)=_
        rw[if_pos rfl,List.length_replicate,ZO]
       cases hq:BL l c with
       |true=>
        have ZQ:m=n:=by have:=heq hq;omega
        subst ZQ
        have:=V.os (E:=E.row H.next ⟨.cR h.next 0 (List.replicate m y).length (Lf.size ty),(List.replicate m y).length⟩) (N:=(cA H (.l ty (List.replicate m y))).next) (r:=H.next) (sz:=size) (Nat.lt_succ_self _) (.inr (by rw[K0];exact⟨_,_,rfl⟩))
        rw[K0]at this;exact this
       |false=>
        have:=V.ss (E:=E.row H.next ⟨.cR h.next 0 (List.replicate n y).length (Lf.size ty),(List.replicate n y).length⟩) (N:=(cA H (.l ty (List.replicate n y))).next) (r:=H.next) (sz:=size) (off:=0) (n:=m) (id:=h.next) (base:=0) (Nat.lt_succ_self _) (by rw[K0]) (by rw[K0];show 0+m<=n;omega)
        rw[Nat.zero_mul]at this;exact this
     ·cases e
    ·cases e
   ·cases e
  ·cases e
 ·cases e
def mw(call:dV)(aM:aV):Prop:= ∀ (E:En) (f:FuncId) (args:List Sv) (as:List AV) (H:Hq) (h:Hp) (v:Sv) (H':Hq),Vs E H.next args as->SR E H h->(call f args H).val=some (v,H')->
 ∃ c h' E',Ev (fun n d=>aM n d f as h) (.ok c h')/\Nx E E' H H' h h'/\SR E' H' h'/\V E' H'.next v c
section
variable {call:dV}{aM:aV}(C:mw call aM)
include C
theorem ER(f:FuncId)(args:List Od):dn (Eh call f args) (fun n d=>aj (aM n d) f (args.map bz)):=by
 intro E T t H h v T' H' hT hH e
 unfold Eh at e
 split at e
 ·rename_i vs hv
  obtain⟨p,e1,e2⟩:=Lf.T.cD e
  obtain⟨rfl,rfl,rfl⟩:=ba e2
  obtain⟨cs,hc,dR⟩:=ue hT hv
  obtain⟨c,h',E',k,X,S,w⟩:=C E f vs cs H h p.1 p.2 dR hH e1
  refine⟨c,h',E',?_,X,S,w,hT.mono X.e X.le⟩
  unfold aj
  simp only[hc]
  exact k
 ·cases e
theorem BZ(f:Od)(args:List Od):dn (yo call f args) (fun n d=>eB (aM n d) (bz f) (args.map bz)):=by
 intro E T t H h v T' H' hT hH e
 unfold yo at e
 split at e
 ·rename_i g cap hg
  split at e
  ·rename_i vs hv
   obtain⟨p,e1,e2⟩:=Lf.T.cD e
   obtain⟨rfl,rfl,rfl⟩:=ba e2
   obtain⟨a,ha,qS⟩:=bu hT hg
   obtain⟨cs,hc,dR⟩:=ue hT hv
   cases qS with
   |fn mS=>
    rename_i l'
    rw[bQ]at e1
    obtain⟨c,h',E',k,X,S,w⟩:=C E g _ _ H h p.1 p.2 (dR.app mS) hH e1
    refine⟨c,h',E',?_,X,S,w,hT.mono X.e X.le⟩
    unfold eB
    simp only[ha,hc,bQ]
    exact k
  ·cases e
 ·cases e
omit C in
theorem ES{h:Hp}: ∀ (l:List Sv) (cs:List AV) (E:En) (H:Hq),SR E H h->Vs E H.next l cs->
 ∃ E',Nx E E' H ⟨(fG l H.next).2,H.aN⟩ h h/\SR E' ⟨(fG l H.next).2,H.aN⟩ h/\Vs E' (fG l H.next).2 (fG l H.next).1 cs:=by
 intro l
 induction l with
 |nil=>intro cs E H S v;exact⟨E,Nx.refl _ _ _,S,v⟩
 |cons a l ih=>
  intro cs E H S v
  have plain: ∀ (c:AV) (cs':List AV),cs=c::cs'->V E H.next a c->Vs E H.next l cs'-> ∃ E',Nx E E' H ⟨(fG l H.next).2,H.aN⟩ h h/\SR E' ⟨(fG l H.next).2,H.aN⟩ h/\Vs E' (fG l H.next).2 (a::(fG l H.next).1) cs:=by
   rintro c cs' rfl va vl
   obtain⟨E',n1,s1,v1⟩:=ih cs' E H S vl
   exact⟨E',n1,s1,.cons (va.mono n1.e n1.le) v1⟩
  cases v with
  |cons va vl=>
   rename_i c cs'
   cases a with
   |c m t x=>
    cases t with
    |aB t=>
     cases hm:Nat.beq m 0 with
     |false=>
      have e:fG (.c m (.aB t) x::l) H.next=(.c m (.aB t) x::(fG l H.next).1,(fG l H.next).2):=by
       show(bif Nat.beq m 0 then _ else _)=_
       rw[hm];rfl
      rw[e]
      exact plain c cs' rfl va vl
     |true=>
      have e:fG (.c m (.aB t) x::l) H.next=(.c H.next (.aB t) x::(fG l (Nat.add H.next 1)).1,(fG l (Nat.add H.next 1)).2):=by
       show(bif Nat.beq m 0 then _ else _)=_
       rw[hm];rfl
      rw[e]
      let E1:En:=⟨E.K,fun r=>if r=H.next then c else E.tk r,E.G,E.A⟩
      let H1:Hq:=⟨Nat.add H.next 1,H.aN⟩
      have el:pL E E1 H.next:=⟨fun _ _=>rfl,fun r hr=>if_neg (Nat.ne_of_lt hr),fun _ _ e=>e,rfl⟩
      have hle:H.next<=H1.next:=Nat.le_add_right _ 1
      have n0:Nx E E1 H H1 h h:=⟨el,hle,Nat.le_refl _,fun r _ a b=>.inl ⟨r,a,b⟩,fun _ _ a=>.inl a,fun _ _ _=>rfl⟩
      have s1:SR E1 H1 h:=⟨fun r R hr=>⟨Nat.lt_of_lt_of_le (S.row r R hr).1 hle,RV.mono el hle (fun _ _ _ _ k=>k) (S.row r R hr).2⟩,S.inj,S.lt,S.g⟩
      obtain⟨E',n1,s2,v1⟩:=ih cs' E1 H1 s1 (vl.mono el hle)
      refine⟨E',n0.trans n1,s2,.cons ?_ v1⟩
      cases va with
      |c k _=>
       refine .c (EV.mono (fun _ _ e=>n1.e.G _ _ e) _ _ _ k) fun _=>⟨Nat.lt_of_lt_of_le (Nat.lt_succ_self H.next) n1.le,?_⟩
       rw[n1.e.tk H.next (Nat.lt_succ_self H.next)]
       exact(if_pos rfl).symm
    | _=>exact plain c cs' rfl va vl
   | _=>exact plain c cs' rfl va vl
omit C in
theorem Jj(b:Od){f:dq}{g:R9}(k:dn f g):dn (N7 b f) g:=by
 intro E T t H h v T' H' hT hH e
 unfold N7 at e
 split at e
 ·rename_i i
  cases hi:Nat.blt i 512 with
  |false=>rw[hi]at e;exact k E T t H h v T' H' hT hH e
  |true=>
   rw[hi]at e
   simp only[cond_true]at e
   split at e
   ·rename_i l hl
    obtain⟨a,ha,qS⟩:=hT i _ (bh.1 hi) hl
    cases qS with
    |ag Y5=>
     rename_i l'
     obtain⟨E1,n1,s1,v1⟩:=ES l l' E H hH Y5
     have mB:TV E1 (fG l H.next).2 (T.put i (some (.ag (fG l H.next).1))) t:=by
      have:=(hT.mono n1.e n1.le)
      intro j w hj hw
      rw[Tq.fj _ _ _ _ (bh.1 hi) hj]at hw
      split at hw
      ·rename_i e1
       subst e1
       cases hw
       exact⟨_,ha,.ag v1⟩
      ·exact this j w hj hw
     obtain⟨c,h',E',k1,k2,k3,k4,k5⟩:=k E1 _ t ⟨(fG l H.next).2,H.aN⟩ h v T' H' mB s1 e
     exact⟨c,h',E',k1,n1.trans k2,k3,k4,k5⟩
   ·exact k E T t H h v T' H' hT hH e
 ·exact k E T t H h v T' H' hT hH e
omit C in
theorem ET(a:Od):dn (Ei a) (fun _ _=>lW (bz a)):=cq (by
 intro E T t H h v T' H' hT hH e
 unfold Ei at e
 split at e
 ·rename_i r sz hw
  split at e
  ·rename_i ty x hr
   obtain⟨c1,e⟩:=Lf.T.bU e
   obtain⟨rfl,rfl,rfl⟩:=ba e
   obtain⟨c,hc,dR⟩:=bu hT hw
   refine⟨rfl,rfl,c,?_,dR⟩
   have kj:Nat.beq x.length 0=false:=by cases q:Nat.beq x.length 0 with
    |true=>rw[q]at c1;cases c1
    |false=>rfl
   rcases wg dR (hH.row _ _ hr).2 with⟨_,rfl⟩|⟨id,base,row,ls,rfl,_,_,k4,_⟩
   ·cases kj
   ·unfold lW
    rw[hc]
    simp only[kj,k4,cond_false]
  ·cases e
 ·rename_i r sz off n hw
  split at e
  ·rename_i g l hr
   cases hn:Nat.beq n 0 with
   |true=>rw[hn]at e;cases e
   |false=>
    rw[hn]at e
    obtain⟨rfl,rfl,rfl⟩:=ba e
    obtain⟨c,hc,dR⟩:=bu hT hw
    refine⟨rfl,rfl,c,?_,dR⟩
    obtain⟨id,row,k1,k2,_⟩:=(hH.row _ _ hr).2
    cases dR with
    |xo _ h2=>
     rw[k1]at h2
     cases h2
     unfold lW
     rw[hc]
     simp only[hn,k2,cond_false]
  ·cases e
 ·cases e)
omit C in
theorem Jk:dn (fun t h=>okV (.a .any) t h) (fun _ _=>Go.Ab.A6):=by
 intro E T t H h v T' H' hT hH e
 obtain⟨rfl,rfl,rfl⟩:=ba e
 exact⟨.any,h,E,Ev.const rfl,Nx.refl _ _ _,hH,.a rfl,hT⟩
theorem Jl(o:gb):dn (qK call o) (fun n d=>yi (aM n d) o):=by
 cases o<;>first|exact IT|skip
 case mv=>exact qO _
 case pk=>exact Es _ _ _
 case nw=>exact IV _
 case bx=>exact IW _
 case bd=>exact BR _ _
 case rw=>exact IY _ _ _ _
 case ld=>exact EE _ _ _
 case sto=>exact Jj _ (BU _ _ _)
 case nl=>exact IU _
 case bn=>exact I3 _ _ _
 case un=>exact Ol _ _
 case bys=>exact BY _
 case fn=>exact Of _ _
 case mk=>exact EP _ _ _ _ _
 case slS=>exact yy _ _ _
 case slN=>exact yw _ _ _ _
 case slA=>exact yx _ _ _ _ _
 case fa=>exact rM _ _
 case fd=>exact BP _ _ _ _
 case ixS=>exact I' _ _ _
 case ixA=>exact Ja _ _ _ _
 case ix=>exact BV _ _ _ _ _
 case ixT=>exact yv _ _
 case ex=>exact we _ _
 case lnT=>exact EB _
 case ln=>exact IZ _
 case ap=>exact yA _ _ _ _
 case apZ=>exact EN _ _ _ _ _
 case apS=>exact EO _ _ _
 case emp=>exact Jb _ _ _
 case mrk=>exact ET _
 case min=>exact I6 _ _
 case max=>exact I7 _ _
 case cap=>exact Jc _
 case map=>exact Jk
 case cpy=>exact EM _ _ _
 case call=>exact ER C _ _
 case callV=>exact BZ C _ _
end
end Lf
end Go.Ab
