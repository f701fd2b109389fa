import Derived.Test.YtbplobpobnagkaaGreatDoorLfD1
noncomputable section
namespace Go.Ab
namespace Lf
theorem iF{i n:Int}:bm i n=true↔0<=i/\i<n:=by unfold bm;simp
theorem Sf(size:Nat)(a i:Od):eS (RP size a i) (fun _ _=>bG size (bB a) (bB i)):=db (by
 intro E T t H h v T' H' hT hH e
 unfold RP at e
 split at e
 ·rename_i iv hiv
  split at e
  ·rename_i k n hn
   obtain⟨c,hc,gh⟩:=bz hT hiv
   have:=iE gh hn;subst this
   have kH: ∀ {id off m sz:Nat} {j:Nat},n=(j:Int)->bB a t=some (.ff id off m sz)->j<m->sz=size->bG size (bB a) (bB i) t h=.ok (.ref id (off+j*size)) h:=by
    intro id off m sz j hj h1 h2 h3
    subst hj
    unfold bG
    rw[hc]
    show(match bB a t with
     |some (.ff id off n sz)=>bif Nat.blt j n&&Nat.beq sz size then Go.Ab.Ro.ok (.ref id (Nat.add off (Nat.mul j size))) h else .bad
     |some (.kX n cs)=>bif Nat.blt j n then .ok (.jy (dp (Nat.mul j size) cs)) h else .bad
     | _=>.bad)=_
    rw[h1]
    simp only[bH.2 h2,h3,Nat.beq_refl]
    rfl
   have conv: ∀ {m:Nat},bm n (Int.ofNat m)=true-> ∃ j:Nat,n=(j:Int)/\n.toNat=j/\j<m:=by
    intro m q
    obtain⟨q1,q2⟩:=iF.1 q
    exact⟨n.toNat,by omega,rfl,by have:(Int.ofNat m)=(m:Int):=rfl;omega⟩
   split at e
   ·rename_i r s ha
    obtain⟨p,hp,lr⟩:=bz hT ha
    have key: ∀ {t':Ty} {x:List (den t')} {S':Nat->Option Rw},LR E.G t' x (E.K r) S'->(bif Nat.beq s size then Lf.T.ck (bm n (Int.ofNat x.length)) (okV (.re r s n.toNat 0) T H)else Lf.T.bad).val=some (v,T',H')->H'=H/\T'=T/\ ∃ c,bG size (bB a) (bB i) t h=.ok c h/\V E H.next v c:=by
     intro t' x S' q e
     cases hs:Nat.beq s size with
     |false=>rw[hs]at e;cases e
     |true=>
      rw[hs]at e
      have hs:=beq_true hs
      obtain⟨q1,e⟩:=Lf.T.aX e
      obtain⟨rfl,rfl,rfl⟩:=aU e
      obtain⟨j,hj,P7,gG⟩:=conv q1
      have q2:=Di lr q
      cases lr with
      |os h1 h2=>
       rcases h2 with⟨h2,h3⟩|⟨id,base,h2⟩
       ·rw[q.1,h3]at gG;omega
       ·rw[h2]at hp
        rw[q.1]at gG
        refine⟨rfl,rfl,_,kH hj hp gG hs,?_⟩
        rw[P7]
        have:=V.re (i:=j) (o:=0) h1 h2 gG
        rw[Nat.add_zero,hs]at this
        rw[hs];exact this
    split at e
    ·rename_i t' x hr;exact key (hH.row _ _ hr).2 e
    ·rename_i t' x hr;exact key (hH.row _ _ hr).2 e
    ·cases e
   ·rename_i r s off m ha
    obtain⟨p,hp,lr⟩:=bz hT ha
    cases hs:Nat.beq s size with
    |false=>rw[hs]at e;cases e
    |true=>
     rw[hs]at e
     have hs:=beq_true hs
     obtain⟨q1,e⟩:=Lf.T.aX e
     obtain⟨rfl,rfl,rfl⟩:=aU e
     obtain⟨j,hj,P7,gG⟩:=conv q1
     cases lr with
     |se _ _ _ _=>omega
     |ss h1 h2 h3=>
      rename_i id base
      refine⟨rfl,rfl,_,kH hj hp gG hs,?_⟩
      rw[P7]
      have:=V.re (i:=off+j) (o:=0) h1 h2 (by omega)
      rw[Nat.add_zero,Nat.add_mul,<-Nat.add_assoc,hs]at this
      rw[hs];exact this
   ·rename_i r s off m ha
    obtain⟨p,hp,lr⟩:=bz hT ha
    split at e
    ·rename_i k0 j
     cases hs:(Nat.beq s size&&Nat.blt j m)with
     |false=>rw[hs]at e;cases e
     |true=>
      rw[hs]at e
      rw[Bool.and_eq_true]at hs
      obtain⟨rfl,rfl,rfl⟩:=aU e
      cases hn
      cases lr with
      |xo h1 h2=>
       have G4:=beq_true hs.1
       refine⟨rfl,rfl,_,kH rfl hp (bH.1 hs.2) G4,?_⟩
       have:=V.rf (o:=off+j*s) h1 h2
       rw[G4]at this
       rw[G4];exact this
    ·cases e
   ·rename_i m ty x ha
    obtain⟨p,hp,lr⟩:=bz hT ha
    cases hs:Nat.beq size (Lf.size ty)with
    |false=>rw[hs]at e;cases e
    |true=>
     rw[hs]at e
     have hs:=beq_true hs
     obtain⟨q1,e⟩:=Lf.T.aX e
     obtain⟨rfl,rfl,rfl⟩:=aU e
     obtain⟨j,hj,P7,gG⟩:=conv q1
     rw[P7]
     cases lr with
     |c k _=>
      obtain⟨b,hb,k⟩:=k
      cases hb
      rcases k with⟨_,k⟩|⟨ls,k1,k2|⟨id,base,row,k2,k3,k4⟩⟩
      ·subst k;simp at gG
      ·subst k2
       refine⟨rfl,rfl,.jy (ls.drop (j*size)),?_,?_⟩
       ·unfold bG
        rw[hc,hp,hj]
        show(bif Nat.blt j x.length then Go.Ab.Ro.ok (.jy (dp (Nat.mul j size) ls)) h else .bad)=_
        rw[bH.2 gG,jY];rfl
       ·have h1:=k1.get (EV.length ty) gG (aq ty)
        have:=V.zp (r:=(ls.drop (j*size)).drop size) (rz (E:=E) (N:=H'.next) rfl ty _ _ h1)
        rw[hs,List.take_append_drop]at this
        rw[hs];exact this
      ·subst k2
       refine⟨rfl,rfl,_,kH hj hp gG hs.symm,?_⟩
       obtain⟨_,e2,e3⟩:=ug (N:=H'.next) gG k4 k1
       have hl:(nL ty (x.getD j (aq ty))).length=Lf.size ty:=by
        rw[e2.length,(ug (N:=H'.next) gG k4 k1).1 |> EV.length ty _ _]
       refine .zr e2 k3 ?_
       rw[hl,hs];exact e3
   ·cases e
  ·cases e
 ·cases e)
theorem Sg(n size:Nat)(a i:Od):eS (RQ n size a i) (fun _ _=>rK n size (bB a) (bB i)):=db (by
 intro E T t H h v T' H' hT hH e
 unfold RQ at e
 split at e
 ·rename_i k j hiv
  obtain⟨c,hc,gh⟩:=bz hT hiv
  cases gh
  cases hj:Nat.blt j n with
  |false=>rw[hj]at e;cases e
  |true=>
   rw[hj]at e
   simp only[cond_true]at e
   have hk:rK n size (bB a) (bB i) t h=(match bB a t with
    |some (.ref id off)=>bif Nat.blt j n then Go.Ab.Ro.ok (.ref id (Nat.add off (Nat.mul j size))) h else .bad
    |some (.jy cs)=>bif Nat.blt j n then .ok (.jy (dp (Nat.mul j size) cs)) h else .bad
    | _=>.bad):=by unfold rK;rw[hc];rfl
   rw[hk,hj]
   split at e
   ·rename_i r o ha
    obtain⟨rfl,rfl,rfl⟩:=aU e
    obtain⟨p,hp,lr⟩:=bz hT ha
    rw[hp]
    cases lr with
    |rf h1 h2=>exact⟨rfl,rfl,_,rfl,.rf h1 h2⟩
   ·rename_i l ha
    obtain⟨p,hp,lr⟩:=bz hT ha
    rw[hp]
    cases hb:Nat.ble (Nat.mul j size) (len l)with
    |false=>rw[hb]at e;cases e
    |true=>
     rw[hb]at e
     obtain⟨rfl,rfl,rfl⟩:=aU e
     have hle:j*size<=l.length:=by have:=Nat.le_of_ble_eq_true hb;rwa [bM]at this
     rw[jY]
     cases lr with
     |zp k=>
      rename_i l' r
      refine⟨rfl,rfl,_,rfl,?_⟩
      rw[jY,List.drop_append_of_le_length (by rw[<-k.length];exact hle)]
      exact .zp (k.drop _)
     |zr k g s=>
      rename_i l' id o row
      refine⟨rfl,rfl,_,rfl,?_⟩
      refine .zr (k.drop _) g ?_
      obtain⟨s1,s2⟩:=eR.1 s
      rw[List.length_drop]
      refine eR.2 ⟨by have e1:Nat.add o (Nat.mul j size)=o+j*size:=rfl;have e2:Nat.mul j size=j*size:=rfl;omega,?_⟩
      rw[s2,List.drop_take,List.drop_drop]
      rfl
   ·cases e
 ·cases e)
theorem Aq{E:En}{N:Nat}{k:IntKind}: ∀ {l:List Sv} {l':List AV} {r:List Int},Vs E N l l'->FA k l=some r->l'=r.map fun n=>.int k n
 | [],_,_,.nil,e=>by cases e;rfl
 |v::l,_,r,.cons hv h,e=>by
  change (match toN v with|some (k',n)=>(bif jv k k' then(match FA k l with|some r=>some (n::r)|none=>none)else none)|none=>none)=some r at e
  split at e
  ·rename_i k' n hn
   obtain⟨hk,e⟩:=bQ e
   split at e
   ·rename_i r' hr
    cases e
    have:=eO.1 hk;subst this
    rw[iE hv hn,Aq h hr];rfl
   ·cases e
  ·cases e
theorem Ju(n size:Nat)(agg:Bool)(a i:Od):eS (Bj n size agg a i) (fun _ _=>kZ n size agg (bB a) (bB i)):=db (by
 intro E T t H h v T' H' hT hH e
 unfold Bj at e
 split at e
 ·rename_i cs ha
  obtain⟨p,hp,lr⟩:=bz hT ha
  cases lr with
  |ag n8=>
   rename_i l'
   split at e
   ·rename_i k j hi
    obtain⟨c,hc,gh⟩:=bz hT hi
    cases gh
    cases hb:Nat.blt j n with
    |false=>rw[hb]at e;cases e
    |true=>
     rw[hb]at e
     obtain⟨e1,rfl,rfl⟩:=mG e
     obtain⟨r,h1,h2⟩:=ov n8 e1
     refine⟨rfl,rfl,r,?_,h2⟩
     unfold kZ
     rw[hp,hc]
     show(bif Nat.blt j n then(match part agg l' (Nat.mul j size) size with|some v=>Go.Ab.Ro.ok v h|none=>.bad)else .bad)=_
     rw[hb,h1];rfl
   ·rename_i m k0 x hi
    obtain⟨c,hc,gh⟩:=bz hT hi
    have:=iE gh rfl;subst this
    cases hag:(agg|| !(Nat.beq size 1))with
    |true=>rw[hag]at e;cases e
    |false=>
     rw[hag]at e
     rw[Bool.or_eq_false_iff]at hag
     simp only[cond_false]at e
     split at e
     ·rename_i w l
      split at e
      ·rename_i k y hk
       split at e
       ·rename_i nl hnl
        cases hlen:Nat.beq (len nl) n with
        |false=>rw[hlen]at e;cases e
        |true=>
         rw[hlen]at e
         obtain⟨q1,e⟩:=Lf.T.aX e
         obtain⟨rfl,rfl,rfl⟩:=aU e
         obtain⟨x1,x2⟩:=iF.1 q1
         obtain⟨j,rfl⟩:=Int.eq_ofNat_of_zero_le x1
         have hj:j<n:=by have:(Int.ofNat n)=(n:Int):=rfl;omega
         have hl:=Aq n8 hnl
         have ao9:nl.length=n:=by have:=beq_true hlen;rwa [bM]at this
         have rM:size=1:=by cases hq:Nat.beq size 1 with
          |true=>exact beq_true hq
          |false=>rw[hq]at hag;cases hag.2
         refine⟨rfl,rfl,.int k (nl.getD j 0),?_,gm⟩
         unfold kZ
         rw[hp,hc]
         show(bif Nat.blt j n then(match part agg l' (Nat.mul j size) size with|some v=>Go.Ab.Ro.ok v h|none=>.bad)else .bad)=_
         have hpt:part agg l' (Nat.mul j size) size=some (.int k (nl.getD j 0)):=by
          rw[hag.1,rM,hl,show Nat.mul j 1=j from Nat.mul_one j]
          have P7:j<nl.length:=by omega
          have ht:((nl.map fun n=>AV.int k n).drop j).take 1=[AV.int k (nl.getD j 0)]:=by
           rw[List.drop_eq_getElem_cons (by simpa using P7)]
           simp[List.getD_eq_getElem?_getD,List.getElem?_eq_getElem P7]
          unfold part
          rw[sL (by rw[ht];rfl),ht];rfl
         rw[bH.2 hj,hpt];rfl
       ·cases e
      ·cases e
     ·cases e
   ·cases e
 ·cases e)
theorem FJ(a i:Od):eS (wZ a i) (fun _ _=>cq (bB a) (bB i)):=db (by
 intro E T t H h v T' H' hT hH e
 unfold wZ at e
 split at e
 ·rename_i w hw
  split at e
  ·rename_i b s hs
   split at e
   ·rename_i iv hiv
    split at e
    ·rename_i k n hn
     obtain⟨q1,e⟩:=Lf.T.aX e
     obtain⟨rfl,rfl,rfl⟩:=aU e
     obtain⟨c,hc,gh⟩:=bz hT hw
     obtain⟨d,hd,Qa⟩:=bz hT hiv
     have:=qf gh hs;subst this
     have:=iE Qa hn;subst this
     obtain⟨x1,x2⟩:=iF.1 q1
     obtain⟨j,rfl⟩:=Int.eq_ofNat_of_zero_le x1
     have hj:j<s.data.toList.length:=by have:(Int.ofNat s.size)=(s.size:Int):=rfl;have e2:s.data.toList.length=s.size:=Array.length_toList
                                        omega
     refine⟨rfl,rfl,_,?_,gm⟩
     unfold cq
     rw[hc,hd]
     show(match kY s.data.toList j with|some b=>Go.Ab.Ro.ok (.int .u8 b.toNat) h|none=>.bad)=_
     rw[gD,List.getElem?_eq_getElem hj]
     simp[List.getD_eq_getElem?_getD,List.getElem?_eq_getElem hj]
    ·cases e
   ·cases e
  ·cases e
 ·cases e)
theorem HA{E:En}{N:Nat}{T:Tq}{t:Tm}(hT:TV E N T t){o:Option Od}{d:Sv}{l:Bool}{n:Int}{m:Nat}(hd:toN d=some (.i64,(m:Int)))(e:zw o T d=some (l,n))(h0:0<=n):nG (o.map bB) t m=some n.toNat:=by
 unfold zw at e
 cases o with
 |none=>
  simp only at e
  rw[hd]at e
  cases e
  simp[nG]
 |some o=>
  simp only at e
  split at e
  ·rename_i w hw
   split at e
   ·rename_i k n' hn
    cases e
    obtain⟨c,hc,gh⟩:=bz hT hw
    have:=iE gh hn;subst this
    obtain⟨j,rfl⟩:=Int.eq_ofNat_of_zero_le h0
    show(match bB o t with|some (.int _ (.ofNat n))=>some n| _=>none)=_
    rw[hc];rfl
   ·cases e
  ·cases e
theorem Ar{l u n:Int}:dV l u n=true↔0<=l/\l<=u/\u<=n:=by unfold dV;simp
theorem vm{E:En}{N:Nat}{T:Tq}{t:Tm}(hT:TV E N T t){lo hi:Option Od}{d:Sv}{l1 l2:Bool}{l u n:Int}{m:Nat}(hd:toN d=some (.i64,(m:Int)))(hn:n=m)(e1:zw lo T (.i .i64 0)=some (l1,l))(e2:zw hi T d=some (l2,u))(hc:dV l u n=true):
 bounds (lo.map bB) (hi.map bB) t m=some (l.toNat,u.toNat)/\l.toNat<=u.toNat/\u.toNat<=m:=by
 obtain⟨h1,h2,h3⟩:=Ar.1 hc
 have a1:=HA hT (m:=0) rfl e1 h1
 have a2:=HA hT hd e2 (by omega)
 unfold bounds
 rw[a1,a2]
 have b1:Nat.ble l.toNat u.toNat=true:=by rw[Nat.ble_eq];omega
 have b2:Nat.ble u.toNat m=true:=by rw[Nat.ble_eq];omega
 simp only[b1,b2]
 exact⟨rfl,by omega,by omega⟩
theorem As{a:AV}(h:sA a=true):dH a=true:=by cases a<;>first|exact h|rfl
theorem sN{size:Nat}{x:eJ}{lo hi:Option eJ}{t:Tm}{h:Hp}{a:AV}(hx:x t=some a)(he:sA a=false):cK size x lo hi t h=nH size x lo hi t h:=by
 unfold cK;rw[hx];simp only[he];rfl
theorem rB{size:Nat}{x:eJ}{lo hi:Option eJ}{t:Tm}{h:Hp}{a:AV}{l u:Nat}(hx:x t=some a)(he:dH a=true)(hb:bounds lo hi t 0=some (l,u)):cK size x lo hi t h=.ok a h:=by
 cases uX:sA a with
 |true=>unfold cK;rw[hx];simp only[uX,hb];rfl
 |false=>
  have:a=.fm:=by cases a<;>first|rfl|(cases uX;done)|(cases he;done)|(rename_i v0;have k:sA (.sc v0)=true:=he;rw[k]at uX;cases uX)
  subst this
  rw[sN hx uX]
  unfold nH
  rw[hx]
  simp only[hb]
theorem uh{size:Nat}{x:eJ}{lo hi:Option eJ}{t:Tm}{h:Hp}{id off n sz l u:Nat}(hx:x t=some (.ff id off n sz))(hb:bounds lo hi t n=some (l,u))(hs:sz=size):cK size x lo hi t h=.ok (.ff id (off+l*size) (u - l) sz) h:=by
 rw[sN hx rfl]
 unfold nH
 rw[hx]
 simp only[hb,hs,Nat.beq_refl]
 rfl
theorem Dk(size:Nat)(a:Od)(lo hi:Option Od): ∀ (E:En) (T:Tq) (t:Tm) (H:Hq) (h:Hp) (v:Sv) (T':Tq) (H':Hq),TV E H.next T t->SR E H h->(ua size a lo hi T H).val=some (v,T',H')->H'=H/\T'=T/\ ∃ c,cK size (bB a) (lo.map bB) (hi.map bB) t h=.ok c h/\V E H.next v c:=by
 intro E T t H h v T' H' hT hH e
 unfold ua at e
 split at e
 ·rename_i w hw
  split at e
  ·rename_i m hm
   split at e
   ·rename_i k n hn
    split at e
    ·rename_i ll l hl
     split at e
     ·rename_i lu u hu
      obtain⟨p,hp,lr⟩:=bz hT hw
      obtain⟨q,q1,_,q3,q4⟩:=Hw hH lr hm
      rw[q1]at hn;cases hn
      have bd:=fun hc=>vm (n:=(q:Int)) hT q1 rfl hl hu hc
      split at e
      ·rename_i z
       cases hz:sA z with
       |false=>rw[hz]at e;cases e
       |true=>
        rw[hz]at e
        obtain⟨c1,e⟩:=Lf.T.aX e
        obtain⟨rfl,rfl,rfl⟩:=aU e
        obtain⟨b1,_,_⟩:=bd c1
        cases lr with
        |a hlf=>
         have hem:=As hz
         have:q=0:=q4 hem
         subst this
         exact⟨rfl,rfl,p,rB hp hem b1,.a hlf⟩
      ·rename_i r s
       cases hs:Nat.beq s size with
       |false=>rw[hs]at e;cases e
       |true=>
        rw[hs]at e
        have hs:=beq_true hs
        obtain⟨c1,e⟩:=Lf.T.aX e
        obtain⟨rfl,rfl,rfl⟩:=aU e
        obtain⟨b1,b2,b3⟩:=bd c1
        cases lr with
        |os h1 h2=>
         rcases h2 with⟨h2,h3⟩|⟨id,base,h2⟩
         ·have:q=0:=q4 h2
          subst this
          have e1:l.toNat=0:=by omega
          have e2:u.toNat - l.toNat=0:=by omega
          rw[e2,e1]
          exact⟨rfl,rfl,_,rB hp h2 b1,.se h1 h2 h3 rfl⟩
         ·rw[h2]at hp q3
          have:(E.K r).n=q:=by cases q3;rfl
          refine⟨rfl,rfl,_,uh hp (by rw[this];exact b1) hs,?_⟩
          rw[<-hs]
          exact .ss h1 h2 (by omega)
      ·rename_i r s off m'
       cases hs:Nat.beq s size with
       |false=>rw[hs]at e;cases e
       |true=>
        rw[hs]at e
        have hs:=beq_true hs
        obtain⟨c1,e⟩:=Lf.T.aX e
        obtain⟨rfl,rfl,rfl⟩:=aU e
        obtain⟨b1,b2,b3⟩:=bd c1
        cases lr with
        |se h1 h2 h3 h4=>
         have:q=0:=q4 h2
         subst this
         have e1:l.toNat=0:=by omega
         have e2:u.toNat - l.toNat=0:=by omega
         rw[e2,e1,h4]
         exact⟨rfl,rfl,_,rB hp h2 b1,.se h1 h2 h3 rfl⟩
        |ss h1 h2 h3=>
         rename_i id base
         have:m'=q:=by cases q3;rfl
         subst this
         refine⟨rfl,rfl,_,uh hp b1 hs,?_⟩
         rw[<-hs]
         have:=V.ss (off:=off+l.toNat) (n:=u.toNat - l.toNat) h1 h2 (by omega)
         rw[Nat.add_mul,<-Nat.add_assoc]at this
         exact this
      ·rename_i r s off m'
       cases hs:((ll&&lu)&&(Nat.beq s size&&dV l u (q:Int)))with
       |false=>rw[hs]at e;cases e
       |true=>
        rw[hs]at e
        rw[Bool.and_eq_true,Bool.and_eq_true,Bool.and_eq_true]at hs
        obtain⟨rfl,rfl,rfl⟩:=aU e
        obtain⟨b1,b2,b3⟩:=bd hs.2.2
        have G4:=beq_true hs.2.1
        cases lr with
        |xo h1 h2=>
         rename_i id
         have:m'=q:=by cases q3;rfl
         subst this
         refine⟨rfl,rfl,_,uh hp b1 G4,?_⟩
         rw[<-G4]
         exact .xo h1 h2
      ·rename_i m' ty x
       cases hs:Nat.beq size (Lf.size ty)with
       |false=>rw[hs]at e;cases e
       |true=>
        rw[hs]at e
        have hs:=beq_true hs
        obtain⟨c1,e⟩:=Lf.T.aX e
        obtain⟨rfl,rfl,rfl⟩:=aU e
        obtain⟨b1,b2,b3⟩:=bd c1
        cases lr with
        |c k _=>
         obtain⟨b,hb,k⟩:=k
         cases hb
         rcases k with⟨k,kx⟩|⟨ls,k1,k2|⟨id,base,row,k2,k3,k4⟩⟩
         ·have:q=0:=q4 k
          subst this
          subst kx
          exact⟨rfl,rfl,_,rB hp k b1,.c ⟨_,rfl,.inl ⟨k,by simp⟩⟩ fun h=>(h rfl).elim⟩
         ·subst k2
          have:x.length=q:=by cases q3;rfl
          have hle:((x.drop l.toNat).take (u.toNat - l.toNat)).length=u.toNat - l.toNat:=by rw[List.length_take,List.length_drop];omega
          refine⟨rfl,rfl,.kX (u.toNat - l.toNat) (tk (Nat.mul (u.toNat - l.toNat) size) (dp (Nat.mul l.toNat size) ls)),?_,?_⟩
          ·rw[sN hp rfl]
           unfold nH
           rw[hp]
           simp only[this,b1]
           rfl
          ·refine .c ⟨_,rfl,.inr ⟨_,(k1.drop (EV.length ty) l.toNat).take (EV.length ty) (u.toNat - l.toNat),.inl ?_⟩⟩ fun h=>(h rfl).elim
           rw[hle,qx,jY,hs];rfl
         ·subst k2
          have:x.length=q:=by cases q3;rfl
          obtain⟨a1,a2,a3⟩:=Bo (id:=0) rfl k4 k1 (off:=l.toNat) (m:=u.toNat - l.toNat) (by omega)
          refine⟨rfl,rfl,_,uh hp (by rw[this];exact b1) hs.symm,?_⟩
          refine .c ⟨_,rfl,ue (id:=id) (base:=base+l.toNat*Lf.size ty) ?_ k3 ?_ a3⟩ fun h=>(h rfl).elim
          ·rw[a1,hs]
          ·rw[a1];exact a2
      ·cases e
     ·cases e
    ·cases e
   ·cases e
  ·cases e
 ·cases e
theorem FK(size:Nat)(a:Od)(lo hi:Option Od):eS (ua size a lo hi) (fun _ _=>cK size (bB a) (lo.map bB) (hi.map bB)):=db (Dk size a lo hi)
theorem Dl(n size:Nat)(a:Od)(lo hi:Option Od): ∀ (E:En) (T:Tq) (t:Tm) (H:Hq) (h:Hp) (v:Sv) (T':Tq) (H':Hq),TV E H.next T t->SR E H h->(ub n size a lo hi T H).val=some (v,T',H')->H'=H/\T'=T/\ ∃ c,iO n size (bB a) (lo.map bB) (hi.map bB) t h=.ok c h/\V E H.next v c:=by
 intro E T t H h v T' H' hT hH e
 unfold ub at e
 split at e
 ·rename_i r o ha
  split at e
  ·rename_i l hl
   split at e
   ·rename_i u hu
    split at e
    ·rename_i cs n8
     cases hs:(Nat.ble (Nat.add o (Nat.mul n size)) (len cs)&&(dV l u (Int.ofNat n)&&Nat.blt 0 size))with
     |false=>rw[hs]at e;cases e
     |true=>
      rw[hs]at e
      rw[Bool.and_eq_true,Bool.and_eq_true]at hs
      obtain⟨rfl,rfl,rfl⟩:=aU e
      obtain⟨b1,b2,b3⟩:=vm (n:=(n:Int)) (m:=n) hT rfl rfl hl hu hs.2.1
      obtain⟨p,hp,lr⟩:=bz hT ha
      obtain⟨id,row,k1,k2,k3⟩:=vk hH n8
      cases lr with
      |rf h1 h2=>
       rw[k1]at h2;cases h2
       refine⟨rfl,rfl,_,?_,.xo (id:=id) h1 k1⟩
       unfold iO
       rw[hp]
       have q:=hs.1
       rw[bM,k3.length,eN]at q
       simp only[b1,k2,q]
       rfl
    ·cases e
   ·cases e
  ·cases e
 ·cases e
theorem FL(n size:Nat)(a:Od)(lo hi:Option Od):eS (ub n size a lo hi) (fun _ _=>iO n size (bB a) (lo.map bB) (hi.map bB)):=db (Dl n size a lo hi)
theorem FM(a:Od)(lo hi:Option Od):eS (Bk a lo hi) (fun _ _=>dg (bB a) (lo.map bB) (hi.map bB)):=db (by
 intro E T t H h v T' H' hT hH e
 unfold Bk at e
 split at e
 ·rename_i w hw
  split at e
  ·rename_i s hs
   split at e
   ·rename_i l hl
    split at e
    ·rename_i u hu
     cases hc:dV l u (Int.ofNat s.size)with
     |false=>rw[hc]at e;cases e
     |true=>
      rw[hc]at e
      obtain⟨rfl,rfl,rfl⟩:=aU e
      obtain⟨b1,b2,b3⟩:=vm (n:=(s.size:Int)) (m:=s.size) hT rfl rfl hl hu hc
      obtain⟨p,hp,lr⟩:=bz hT hw
      have:=qf lr hs;subst this
      refine⟨rfl,rfl,_,?_,.a rfl⟩
      unfold dg
      rw[hp]
      simp only[b1]
    ·cases e
   ·cases e
  ·cases e
 ·cases e)
theorem Sh(x y z:Od):eS (XH x y z) (fun _ _=>xr (bB x) (bB y) (bB z)):=db (by
 intro E T t H h v T' H' hT hH e
 unfold XH at e
 split at e
 ·rename_i k hy
  split at e
  ·rename_i k' hz
   obtain⟨c,hc,gh⟩:=bz hT hy
   obtain⟨d,hd,Qa⟩:=bz hT hz
   cases gh;cases Qa
   have key: ∀ {w:Sv} {p:AV},bB x t=some (uS p)->V E H.next w p->(dH p=true∨(∃ id o n s,p=.ff id o n s)∨ ∃ n cs,p=.kX n cs)->xr (bB x) (bB y) (bB z) t h=.ok .fm h:=by
    intro w p h1 h2 h3
    unfold xr
    rw[hc,hd,h1]
    rcases h3 with h3|⟨_,_,_,_,rfl⟩|⟨_,_,rfl⟩
    ·rw[fJ h3];rfl
    ·rfl
    ·rfl
   split at e
   ·rename_i w hx
    cases hw:dH w with
    |false=>rw[hw]at e;cases e
    |true=>
     rw[hw]at e
     obtain⟨rfl,rfl,rfl⟩:=aU e
     obtain⟨p,hp,lr⟩:=nN hT hx
     refine⟨rfl,rfl,_,key hp lr ?_,.a rfl⟩
     cases lr;exact .inl hw
   ·rename_i hx
    obtain⟨rfl,rfl,rfl⟩:=aU e
    obtain⟨p,hp,lr⟩:=nN hT hx
    refine⟨rfl,rfl,_,key hp lr ?_,.a rfl⟩
    cases lr with
    |os _ h2=>rcases h2 with⟨h2,_⟩|⟨_,_,h2⟩
              ·exact .inl h2
              ·exact .inr (.inl ⟨_,_,_,_,h2⟩)
   ·rename_i hx
    obtain⟨rfl,rfl,rfl⟩:=aU e
    obtain⟨p,hp,lr⟩:=nN hT hx
    refine⟨rfl,rfl,_,key hp lr ?_,.a rfl⟩
    cases lr with
    |se _ h2 _ _=>exact .inl h2
    |ss _ _ _=>exact .inr (.inl ⟨_,_,_,_,rfl⟩)
   ·rename_i hx
    obtain⟨rfl,rfl,rfl⟩:=aU e
    obtain⟨p,hp,lr⟩:=nN hT hx
    refine⟨rfl,rfl,_,key hp lr ?_,.a rfl⟩
    cases lr
    exact .inr (.inl ⟨_,_,_,_,rfl⟩)
   ·rename_i hx
    obtain⟨rfl,rfl,rfl⟩:=aU e
    obtain⟨p,hp,lr⟩:=nN hT hx
    refine⟨rfl,rfl,_,key hp lr ?_,.a rfl⟩
    cases lr with
    |c k _=>
     obtain⟨b,hb,k⟩:=k
     cases hb
     rcases k with⟨k,_⟩|⟨_,_,k|⟨_,_,_,k,_⟩⟩
     ·exact .inl k
     ·exact .inr (.inr ⟨_,_,k⟩)
     ·exact .inr (.inl ⟨_,_,_,_,k⟩)
   ·cases e
  ·cases e
 ·cases e)
theorem Si(x:Od):eS (ez x) (fun _ _=>tv (bB x)):=db (by
 intro E T t H h v T' H' hT hH e
 unfold ez at e
 split at e
 ·rename_i w hx
  cases hw:dH w with
  |false=>rw[hw]at e;cases e
  |true=>
   rw[hw]at e
   obtain⟨rfl,rfl,rfl⟩:=aU e
   obtain⟨p,hp,lr⟩:=nN hT hx
   cases lr
   rw[fJ hw]at hp
   refine⟨rfl,rfl,_,?_,.i⟩
   unfold tv
   rw[hp]
 ·cases e)
end Lf
end Go.Ab

noncomputable section
namespace Go.Ab
namespace Lf
def mg(G:Nat->Option Rw)(h:Hp)(t:Ty)(a:AV)(x:List (den t)):Prop:=
 (dH a=true/\x=[])∨ ∃ id base row ls,a=.ff id base x.length (size t)/\h.aL.get id=some row/\row.lG base (x.length*size t)=some ls/\kG (EV G t) x ls
theorem Br{t:Ty}{s:Sv}{a:AV}{x:List (den t)}{E:En}{H H1:Hq}{h:Hp}(S:SR E H h)(hv:V E H.next s a)(e:Mh t s H=some (x,H1)): ∃ E1,Fz E E1 H H1 h/\mg E1.G h t a x:=by
 unfold Mh at e
 split at e
 ·rename_i r sz
  split at e
  ·rename_i t' y hr
   split at e
   ·rename_i p hp
    cases p
    cases e
    refine⟨E,Fz.refl S,?_⟩
    rcases Di hv (S.row _ _ hr).2 with k|⟨id,base,row,ls,k1,_,_,k2,k3,k4⟩
    ·exact .inl k
    ·exact .inr ⟨id,base,row,ls,k1,k2,k3,k4⟩
   ·cases e
  ·cases e
 ·rename_i r sz off n
  split at e
  ·rename_i t' y hr
   split at e
   ·rename_i p hp
    cases p
    cases e
    refine⟨E,Fz.refl S,?_⟩
    rcases VD hv (S.row _ _ hr).2 with⟨k1,k2,k3,_⟩|⟨id,base,row,ls,k1,k2,_,_,k3,k4,k5⟩
    ·subst k3;exact .inl ⟨k1,by simp⟩
    ·obtain⟨a1,a2,a3⟩:=Bo rfl k4 k5 k2 (id:=0)
     exact .inr ⟨id,base+off*size t,row,_,by rw[a1];exact k1,k3,by rw[a1];exact a2,a3⟩
   ·cases e
  ·cases e
 ·obtain⟨hb,e⟩:=bQ e
  cases e
  cases hv
  exact⟨E,Fz.refl S,.inl ⟨hb,rfl⟩⟩
 ·rename_i r sz off n
  split at e
  ·rename_i l hr
   have hb:=beq_true (bQ e).1
   replace e:=(bQ e).2
   unfold Vv at e
   have hle:=Nat.le_of_ble_eq_true (bQ e).1
   replace e:=(bQ e).2
   rw[bM]at hle
   rw[jY]at e
   obtain⟨id,row,k1,k2,k3,_⟩:=(S.row _ _ hr).2
   obtain⟨E1,c,d,F,e1,e2,e3⟩:=FH (sM t) n E H h _ _ x H1 S (k3.drop off) e
   refine⟨E1,F,?_⟩
   cases hv with
   |xo h1 h2=>
    rw[k1]at h2;cases h2
    have hc:=e2.length (EV.length t)
    have hlen:=k3.length
    refine .inr ⟨id,off,row,c,by rw[e3,hb],k2,?_,e2⟩
    refine eR.2 ⟨?_,?_⟩
    ·have:=congrArg List.length e1
     rw[List.length_drop,List.length_append,hc]at this
     rw[<-eN];omega
    ·rw[e1,<-hc,List.take_left]
  ·cases e
 ·cases e
structure Kl(E:En)(H H2:Hq)(a:AV):Prop where
 n:H2.next=H.next
 sub: ∀ r R,H2.aL.get r=some R->H.aL.get r=some R
 id: ∀ id,ly a=some id-> ∃ r,own H r/\ ¬ own H2 r/\ly (E.K r).av=some id
 only: ∀ r,own H r-> ¬ own H2 r->ly (E.K r).av=ly a
theorem HB{E:En}{H:Hq}{r:Nat}{R:Row}{a:AV}(hr:H.aL.get r=some R)(lv:R.live=true)(hi:ly (E.K r).av=ly a):Kl E H (jo H r none) a:=by
 have no: ¬ own (jo H r none) r:=by rintro⟨Q,q,_⟩;rw[fp,if_pos rfl]at q;cases q
 refine⟨rfl,fun q Q e=>?_,fun id e=>⟨r,⟨R,hr,lv⟩,no,by rw[hi];exact e⟩,fun q o n=>?_⟩
 ·rw[fp]at e
  split at e
  ·cases e
  ·exact e
 ·by_cases k:q=r
  ·rw[k];exact hi
  ·obtain⟨Q,q1,q2⟩:=o
   exact(n ⟨Q,by rw[fp,if_neg k];exact q1,q2⟩).elim
theorem Bs{s:Sv}{a:AV}{E:En}{H H2:Hq}(hv:V E H.next s a)(e:kill s H=some H2):Kl E H H2 a:=by
 unfold kill at e
 split at e
 ·cases e
  cases hv with
  |a h=>exact⟨rfl,fun _ _ e=>e,fun id k=>by cases a<;>first|(cases h;done)|(cases k;done),fun r o n=>(n o).elim⟩
 ·split at e
  ·rename_i hr
   cases e
   cases hv with
   |os h1 h2=>exact HB hr rfl rfl
  ·cases e
 ·split at e
  ·rename_i hr
   cases e
   cases hv with
   |se h1 h2 h3 h4=>exact HB hr rfl rfl
   |ss h1 h2 h3=>exact HB hr rfl (by rw[h2];rfl)
  ·cases e
 ·split at e
  ·rename_i hr
   cases e
   cases hv with
   |xo h1 h2=>exact HB hr rfl (by rw[h2];rfl)
  ·cases e
 ·cases e
theorem mm{b n:Nat}:roomy b n=true↔n*b<=70368744177664/\n<=70368744177664:=by unfold roomy;simp
theorem MK{r:Rw}{off k:Nat}{l:List AV}(h:r.lG off k=some l): ∃ p,r.sub off k=some p/\p.toL=l:=by
 obtain⟨a,b⟩:=eR.1 h
 have hb:Nat.ble (Nat.add off k) r.n=true:=by rw[Nat.ble_eq];exact a
 have hs:r.sub off k=some (bif Nat.beq off 0 then r.upto k else wM (r.cells k off)):=by unfold Rw.sub;rw[hb];rfl
 exact⟨_,hs,by rw[(Ct hs).1,b]⟩
theorem XV{E:En}{H H2:Hq}{h:Hp}(S:SR E H h){t:Ty}{a:AV}{x y:List (den t)}{cs:List AV}{bytes:Nat}{z:Bool}(hd:mg E.G h t a x)(hk:Kl E H H2 a)(hy:kG (EV E.G t) y cs)(hz:z=true->y=[])(hr:roomy bytes (x.length+y.length)=true):
 ∃ c h' E',(bif sA a&&z then Go.Ab.Ro.ok a h else tw (size t) bytes h (uS a) y.length cs)=.ok c h'/\Nx E E' H (eK H2 (.l t (x++y))) h h'/\SR E' (eK H2 (.l t (x++y))) h'/\V E' (eK H2 (.l t (x++y))).next (.os H2.next (size t)) c:=by
 obtain⟨r1,r2⟩:=mm.1 hr
 have ML: ∀ (k:Kr),(∀ id,ly k.av=some id->ly a=some id)->RV E H.next h k (.l t (x++y))->SR (E.row H.next k) (eK H2 (.l t (x++y))) h/\Nx E (E.row H.next k) H (eK H2 (.l t (x++y))) h h:=by
  intro k h1 h2
  refine kQ S hk.n hk.sub (Nat.le_refl _) (fun _ _ _=>rfl) (fun id e=>?_) h2 rfl
  obtain⟨r,o,no,er⟩:=hk.id id (h1 id e)
  exact⟨S.lt r id o er,.inr ⟨r,o,no,er⟩⟩
 have K0: ∀ k:Kr,(E.row H.next k).K H2.next=k:=fun k=>by rw[hk.n];exact if_pos rfl
 have VE: ∀ k:Kr,((dH k.av=true/\k.n=0)∨ ∃ id base,k.av=.ff id base k.n (size t))->V (E.row H.next k) (eK H2 (.l t (x++y))).next (.os H2.next (size t)) k.av:=by
  intro k C6
  have:=V.os (E:=E.row H.next k) (N:=(eK H2 (.l t (x++y))).next) (r:=H2.next) (sz:=size t) (Nat.lt_succ_self _) (by rw[K0];exact C6)
  rwa [K0]at this
 have Dm: ∀ av:AV,dH av=true->x=[]->y=[]-> ∃ E',Nx E E' H (eK H2 (.l t (x++y))) h h/\SR E' (eK H2 (.l t (x++y))) h/\V E' (eK H2 (.l t (x++y))).next (.os H2.next (size t)) av:=by
  intro av ha hx hy
  obtain⟨S',X⟩:=ML ⟨av,0⟩ (fun id e=>by rw[show ly av=none from Jo ha]at e;cases e) ⟨by rw[hx,hy];rfl,.inl ⟨ha,by rw[hx,hy];rfl⟩⟩
  exact⟨_,X,S',VE ⟨av,0⟩ (.inl ⟨ha,rfl⟩)⟩
 cases hc:(sA a&&z)with
 |true=>
  rw[Bool.and_eq_true]at hc
  have he:=As hc.1
  have hx:x=[]:=by
   rcases hd with⟨_,k⟩|⟨id,base,row,ls,k,_⟩
   ·exact k
   ·rw[k]at he;cases he
  obtain⟨E',X,S',v⟩:=Dm a he hx (hz hc.2)
  exact⟨a,h,E',rfl,X,S',v⟩
 |false=>
  simp only[cond_false]
  have fY:=hy.length (EV.length t)
  have FI:cf dQ cs=true:=by rw[hU,List.all_eq_true];exact fun q hq=>hy.dQ (EV.dQ t) q hq
  by_cases hy0:y=[]
  ·subst hy0
   rcases hd with⟨k,hx⟩|⟨id,base,row,ls,k1,k2,k3,k4⟩
   ·obtain⟨E',X,S',v⟩:=Dm .fm rfl hx rfl
    exact⟨.fm,h,E',by rw[fJ k];rfl,X,S',v⟩
   ·obtain⟨S',X⟩:=ML ⟨a,x.length⟩ (fun id e=>e) ⟨by simp,.inr ⟨id,base,row,ls,k1,k2,k3,by simpa using k4⟩⟩
    refine⟨a,h,_,?_,X,S',VE ⟨a,x.length⟩ (.inr ⟨id,base,k1⟩)⟩
    subst k1;rfl
  ·have QY:0<y.length:=List.length_pos_iff.2 hy0
   have hnz:Nat.beq y.length 0=false:=by cases q:Nat.beq y.length 0 with
    |false=>rfl
    |true=>have:=beq_true q;omega
   have VF:Nat.beq (len cs) (Nat.mul y.length (size t))=true:=by rw[bM,fY];exact Nat.beq_refl _
   rcases hd with⟨k,hx⟩|⟨id,base,row,ls,k1,k2,k3,k4⟩
   ·subst hx
    rw[fJ k]
    simp only[List.length_nil,Nat.zero_add]at r1 r2
    have hT:(SR (E.row H.next ⟨.ff h.next 0 y.length (size t),y.length⟩) (eK H2 (.l t ([]++y))) (dw h (wM cs))/\Nx E (E.row H.next ⟨.ff h.next 0 y.length (size t),y.length⟩) H (eK H2 (.l t ([]++y))) h (dw h (wM cs))):=by
     refine kQ S hk.n hk.sub (Nat.le_succ _) (fun i hi _=>by rw[gn,if_neg (by omega)]) (fun i e=>by cases e;exact⟨Nat.lt_succ_self _,.inl (Nat.le_refl _)⟩) ?_ rfl
     refine⟨rfl,.inr ⟨h.next,0,wM cs,cs,rfl,by rw[gn,if_pos rfl],?_,hy⟩⟩
     refine eR.2 ⟨by rw[<-eN,iQ,fY,Nat.zero_add];exact Nat.le_refl _,?_⟩
     rw[iQ]
     show cs=List.take (y.length*size t) _
     rw[<-fY,List.drop_zero,List.take_length]
    refine⟨_,_,_,?_,hT.2,hT.1,VE _ (.inr ⟨h.next,0,rfl⟩)⟩
    show(bif Nat.beq y.length 0 then Go.Ab.Ro.ok .fm h else bif Nat.ble (Nat.mul y.length bytes) 70368744177664&&(cf dQ cs&&(Nat.beq (len cs) (Nat.mul y.length (size t))&&Nat.ble y.length 70368744177664))then .ok (.ff h.next 0 y.length (size t)) (dw h (wM cs))else .bad)=_
    rw[hnz,FI,VF,show Nat.ble (Nat.mul y.length bytes) 70368744177664=true from by rw[Nat.ble_eq];exact r1,show Nat.ble y.length 70368744177664=true from by rw[Nat.ble_eq];exact r2]
    rfl
   ·subst k1
    obtain⟨p,p1,p2⟩:=MK k3
    obtain⟨r,o,no,er⟩:=hk.id id rfl
    have hT:(SR (E.row H.next ⟨.ff h.next 0 (x.length+y.length) (size t),x.length+y.length⟩) (eK H2 (.l t (x++y))) (dw (jz h id none) (p.app cs))/\Nx E (E.row H.next ⟨.ff h.next 0 (x.length+y.length) (size t),x.length+y.length⟩) H (eK H2 (.l t (x++y))) h (dw (jz h id none) (p.app cs))):=by
     refine kQ S hk.n hk.sub (Nat.le_succ _) (fun i hi q=>?_) (fun i e=>by cases e;exact⟨Nat.lt_succ_self _,.inl (Nat.le_refl _)⟩) ?_ rfl
     ·rw[gn,if_neg (by show ¬ i=h.next;omega),jL,if_neg]
      intro ei
      exact q r o no (by rw[ei];exact er)
     ·have Ja:=k4.app hy
      have hlen:=Ja.length (EV.length t)
      refine⟨by rw[List.length_append],.inr ⟨h.next,0,p.app cs,ls++cs,rfl,by rw[gn];exact if_pos rfl,?_,Ja⟩⟩
      refine eR.2 ⟨by rw[<-eN,tB,p2,hlen,Nat.zero_add,List.length_append];exact Nat.le_refl _,?_⟩
      rw[tB,p2]
      show ls++cs=List.take ((x.length+y.length)*size t) _
      rw[<-List.length_append (as:=x),<-hlen,List.drop_zero,List.take_length]
    refine⟨_,_,_,?_,hT.2,hT.1,VE _ (.inr ⟨h.next,0,rfl⟩)⟩
    show(bif Nat.beq y.length 0 then Go.Ab.Ro.ok (.ff id base x.length (size t)) h else match h.aL.get id with
     |none=>.bad
     |some cs'=>match cs'.sub base (Nat.mul x.length (size t))with
      |none=>.bad
      |some pre=>bif Nat.ble (Nat.mul (Nat.add x.length y.length) bytes) 70368744177664&&(Nat.beq (size t) (size t)&&(cf dQ cs&&(Nat.beq (len cs) (Nat.mul y.length (size t))&&Nat.ble (Nat.add x.length y.length) 70368744177664)))then
       .ok (.ff h.next 0 (Nat.add x.length y.length) (size t)) (dw (jz h id none) (pre.app cs))else .bad)=_
    have p1':row.sub base (Nat.mul x.length (size t))=some p:=p1
    rw[hnz]
    simp only[cond_false,k2,p1']
    rw[FI,VF,Nat.beq_refl,show Nat.ble (Nat.mul (Nat.add x.length y.length) bytes) 70368744177664=true from by rw[Nat.ble_eq];exact r1,show Nat.ble (Nat.add x.length y.length) 70368744177664=true from by rw[Nat.ble_eq];exact r2]
    rfl
theorem FN{E:En}{H H':Hq}{h:Hp}(S:SR E H h){bytes:Nat}{t:Ty}{s:Sv}{a:AV}{y:List (den t)}{cs:List AV}{z:Bool}{T T':Tq}{v:Sv}(hv:V E H.next s a)(hy:kG (EV E.G t) y cs)(hz:z=true->y=[])(e:(XF bytes t s y T H).val=some (v,T',H')):
 T'=T/\ ∃ c h' E',(bif sA a&&z then Go.Ab.Ro.ok a h else tw (size t) bytes h (uS a) y.length cs)=.ok c h'/\Nx E E' H H' h h'/\SR E' H' h'/\V E' H'.next v c:=by
 unfold XF at e
 split at e
 ·rename_i x H1 hx
  split at e
  ·rename_i H2 hH2
   obtain⟨q,e⟩:=Lf.T.aX e
   obtain⟨rfl,rfl,rfl⟩:=aU e
   obtain⟨E1,F,D⟩:=Br S hv hx
   have k:=Bs (F.v hv) hH2
   obtain⟨c,h',E',e1,X,S',rm⟩:=XV F.S D k (hy.mono (EV.mono F.g t)) hz q (z:=z)
   rw[bp]
   exact⟨rfl,c,h',E',e1,F.X.trans X,S',rm⟩
  ·cases e
 ·cases e
theorem Sj{h:Hp}{b:AV}{n:Nat}{cs:List AV}(hz:P3 b=true)(e:dk h (uS b)=some (n,cs)):n=0:=by
 cases b with
 |ff id off m s=>
  have hz:=beq_true (show Nat.beq m 0=true from hz)
  change (match h.aL.get id with|some cs=>(match cs.lG off (Nat.mul m s)with|some l=>some (m,l)|none=>none)|none=>none)=some (n,cs)at e
  split at e
  ·split at e
   ·cases e;exact hz
   ·cases e
  ·cases e
 |kX m l=>
  have hz':=beq_true (show Nat.beq m 0=true from hz)
  cases e;exact hz'
 |fm=>cases e;rfl
 |p'=>cases e;rfl
 |sc v=>
  have:dH (.sc v)=true:=hz
  rw[fJ this]at e
  cases e;rfl
 | _=>cases hz
theorem qL{size bytes:Nat}{s x:Od}{t:Tm}{h:Hp}{a b:AV}{n:Nat}{cs:List AV}(h1:bB s t=some a)(h2:bB x t=some b)(h3:dk h (uS b)=some (n,cs)):
 aO size bytes (bB s) (bB x) t h=(bif sA a&&P3 b then Go.Ab.Ro.ok a h else tw size bytes h (uS a) n cs):=by
 unfold aO
 rw[h1,h2]
 show(bif sA a&&P3 b then Go.Ab.Ro.ok a h else pg size bytes (wO (bB s)) (wO (bB x)) t h)=_
 congr 1
 unfold pg
 rw[show wO (bB s) t=some (uS a)from by unfold wO;rw[h1],show wO (bB x) t=some (uS b)from by unfold wO;rw[h2]]
 simp only[h3]
theorem qM{E:En}{H:Hq}{h:Hp}(S:SR E H h){v:Sv}{b:AV}{n:Nat}{l:List Sv}(hv:V E H.next v b)(e:uc v H=some (n,l)):
 ∃ cs,dk h (uS b)=some (n,cs)/\Vs E H.next l cs/\(n=0->P3 b=true)/\((dH b=true/\n=0/\l=[])∨ ∃ r s off id row,v=.xo r s off n/\b=.ff id off n s/\h.aL.get id=some row/\row.lG off (n*s)=some cs):=by
 unfold uc at e
 split at e
 ·obtain⟨hb,e⟩:=bQ e
  cases e
  cases hv with
  |a hl=>
   refine⟨[],by rw[fJ hb];rfl,.nil,fun _=>?_,.inl ⟨hb,rfl,rfl⟩⟩
   cases b<;>first|rfl|(cases hl;done)|exact hb
 ·rename_i r s off m
  split at e
  ·rename_i l0 hl
   have hle:=Nat.le_of_ble_eq_true (bQ e).1
   replace e:=(bQ e).2
   cases e
   obtain⟨id,row,k1,k2,k3⟩:=vk S hl
   cases hv with
   |xo h1 h2=>
    rw[k1]at h2;cases h2
    rw[bM,k3.length]at hle
    have acs:off+n*s<=row.toL.length:=hle
    rw[qx,jY]
    have eI:=(k3.drop off).take (n*s)
    have hs:row.lG off (n*s)=some ((row.toL.drop off).take (n*s)):=FG acs
    refine⟨_,?_,eI,fun hn=>by subst hn;rfl,.inr ⟨r,s,off,id,row,rfl,rfl,k2,hs⟩⟩
    show(match h.aL.get id with|some cs=>(match cs.lG off (Nat.mul n s)with|some l=>some (n,l)|none=>none)|none=>none)=_
    rw[k2]
    have XW:row.lG off (Nat.mul n s)=_:=hs
    simp only[XW]
  ·cases e
 ·cases e
theorem eF{α:Type}{b:Bool}{x:T α}{r:α}(h:(bif b then x else T.bad).val=some r):b=true/\x.val=some r:=by
 cases b with
 |true=>exact⟨rfl,h⟩
 |false=>cases h
theorem yj{t:Ty}{v:Sv}{a:AV}{x:List (den t)}{E:En}{H H1:Hq}{h:Hp}(S:SR E H h)(hv:V E H.next v a)(e:yb t v H=some (x,H1)): ∃ E1,Fz E E1 H H1 h/\ ∃ cs,dk h (uS a)=some (x.length,cs)/\kG (EV E1.G t) x cs:=by
 unfold yb at e
 split at e
 ·rename_i r hr
  cases e
  obtain⟨E1,F,D⟩:=Br S hv hr
  refine⟨E1,F,?_⟩
  rcases D with⟨d1,rfl⟩|⟨id,base,row,ls,d1,d2,d3,d4⟩
  ·exact⟨[],by rw[fJ d1];rfl,rfl⟩
  ·refine⟨ls,?_,d4⟩
   rw[d1]
   show(match h.aL.get id with|some cs=>(match cs.lG base (Nat.mul x.length (size t))with|some l=>some (x.length,l)|none=>none)|none=>none)=_
   rw[d2]
   have s':row.lG base (Nat.mul x.length (size t))=some ls:=d3
   simp only[s']
 ·obtain⟨E1,F,kc⟩:=ME S hv e
  obtain⟨cs,c1,c2⟩:=Jr F.S kc
  exact⟨E1,F,cs,c1,c2⟩
theorem MM{size bytes:Nat}{sv xv v:Sv}{T T':Tq}{E:En}{H H':Hq}{h:Hp}{t:Tm}{s x:Od}{a b:AV}(S:SR E H h)(hs:bB s t=some a)(Ko:V E H.next sv a)(hx:bB x t=some b)(LF:V E H.next xv b)(e:(Mi size bytes sv xv T H).val=some (v,T',H')):
 T'=T/\ ∃ c h' E',aO size bytes (bB s) (bB x) t h=.ok c h'/\Nx E E' H H' h h'/\SR E' H' h'/\V E' H'.next v c:=by
 unfold Mi at e
 obtain⟨hb,e⟩:=eF e
 rw[Bool.and_eq_true,Bool.and_eq_true]at hb
 have typed: ∀ {ty:Ty},(bif Nat.beq size (Lf.size ty)then(match yb ty xv H with|some (new,h1)=>XF bytes ty sv new T h1|none=>.bad)else .bad).val=some (v,T',H')->T'=T/\ ∃ c h' E',aO size bytes (bB s) (bB x) t h=.ok c h'/\Nx E E' H H' h h'/\SR E' H' h'/\V E' H'.next v c:=by
  intro ty e
  obtain⟨hz,e⟩:=eF e
  have hz:=beq_true hz
  split at e
  ·rename_i new H1 hn
   obtain⟨E1,F,cs,c1,c2⟩:=yj S LF hn
   obtain⟨rfl,c,h',E',e1,X,S',rm⟩:=FN F.S (F.v Ko) c2 (z:=P3 b) (fun q=>List.eq_nil_of_length_eq_zero (Sj q c1)) e
   refine⟨rfl,c,h',E',?_,F.X.trans X,S',rm⟩
   rw[qL hs hx c1,hz];exact e1
  ·cases e
 split at e
 ·
  rename_i l hl
  obtain⟨cs,c1,_,c3,_⟩:=qM S LF hl
  have hzb:=c3 rfl
  have res: ∀ w:Sv,w=v/\T'=T/\H'=H->V E H.next w a->(sA a=true∨dH a=true∨ ∃ id o n z,a=.ff id o n z)->T'=T/\ ∃ c h' E',aO size bytes (bB s) (bB x) t h=.ok c h'/\Nx E E' H H' h h'/\SR E' H' h'/\V E' H'.next v c:=by
   rintro w ⟨rfl,rfl,rfl⟩ hw hc
   refine⟨rfl,a,h,E,?_,Nx.refl _ _ _,S,hw⟩
   rw[qL hs hx c1,hzb]
   cases he:sA a with
   |true=>rfl
   |false=>
    rcases hc with hc|hc|⟨id,o,n,z,hc⟩
    ·rw[he]at hc;cases hc
    ·have:a=.fm:=by cases a<;>first|rfl|(cases he;done)|(cases hc;done)|(rename_i v0;have k:sA (.sc v0)=true:=hc;rw[k]at he;cases he)
     subst this
     rfl
    ·subst hc;rfl
  split at e
  ·obtain⟨hw,e⟩:=eF e
   cases Ko with
   |a hl=>exact res _ (aU e) (.a hl) (.inl hw)
  ·refine res _ (aU e) Ko (.inr ?_)
   cases Ko with
   |os h1 h2=>
    rcases h2 with⟨h2,_⟩|⟨_,_,h2⟩
    ·exact .inl h2
    ·exact .inr ⟨_,_,_,_,h2⟩
  ·refine res _ (aU e) Ko (.inr ?_)
   cases Ko with
   |se _ h2 _ _=>exact .inl h2
   |ss _ _ _=>exact .inr ⟨_,_,_,_,rfl⟩
  ·refine res _ (aU e) Ko (.inr ?_)
   cases Ko with
   |xo _ _=>exact .inr ⟨_,_,_,_,rfl⟩
  ·cases e
 ·rename_i m new hm hl
  have hm0:m=0->False:=fun k=>hm k
  obtain⟨cs,c1,c2,c3,c4⟩:=qM S LF hl
  split at e
  ·rename_i n rL ho
   split at e
   ·rename_i H2 hH2
    obtain⟨hr,e⟩:=eF e
    rw[Bool.and_eq_true]at hr
    obtain⟨rfl,rfl,rfl⟩:=aU e
    obtain⟨r1,r2⟩:=mm.1 hr.1
    obtain⟨ds,d1,d2,d3,d4⟩:=qM S Ko ho
    have k:=Bs Ko hH2
    have al6:0<m:=Nat.pos_of_ne_zero fun q=>hm0 q
    obtain⟨r',s',ao',xt,Sd,x1,x2,x3,x4⟩: ∃ r s off id row,xv=.xo r s off m/\b=.ff id off m s/\h.aL.get id=some row/\row.lG off (m*s)=some cs:=by
     rcases c4 with⟨_,q,_⟩|q
     ·omega
     ·exact q
    have XW:s'=size:=by have q:=beq_true hb.2.1;rw[x1]at q;exact q
    have fY:cs.length=m*size:=by
     obtain⟨q1,q2⟩:=eR.1 x4
     rw[q2,List.length_take,List.length_drop,eN,XW];rw[XW]at q1;omega
    have hnz:Nat.beq m 0=false:=by cases q:Nat.beq m 0 with
     |false=>rfl
     |true=>have:=beq_true q;omega
    have VF:Nat.beq (len cs) (Nat.mul m size)=true:=by rw[bM,fY];exact Nat.beq_refl _
    have hzb:P3 b=false:=by rw[x2];exact hnz
    have FI:cf dQ cs=true:=by
     rw[hU,List.all_eq_true]
     refine c2.ER fun q hq=>?_
     have:=hr.2;rw[hU,List.all_eq_true]at this;exact this q hq
    have rM:0<size:=bH.1 hb.2.2
    rw[bp]
    refine⟨rfl,?_⟩
    rw[qL hs hx c1,hzb,Bool.and_false,cond_false]
    have VE:V (E.row H.next ⟨.ref h.next 0,0⟩) (eK H2 (.o 0 (rL++new))).next (.xo H2.next size 0 (Nat.add n m)) (.ff h.next 0 (n+m) size):=by
     refine .xo (id:=h.next) (Nat.lt_succ_self _) ?_
     show(if H2.next=H.next then _ else _:Kr).av=_
     rw[if_pos k.n]
    rcases d4 with⟨q1,q2,q3⟩|⟨r1',Sk,Sl,XX,ail,y1,y2,y3,y4⟩
    ·subst q2;subst q3
     rw[fJ q1]
     simp only[Nat.add_eq,Nat.zero_add]at r1 r2
     have hT:SR (E.row H.next ⟨.ref h.next 0,0⟩) (eK H2 (.o 0 ([]++new))) (dw h (wM cs))/\Nx E (E.row H.next ⟨.ref h.next 0,0⟩) H (eK H2 (.o 0 ([]++new))) h (dw h (wM cs)):=by
      refine kQ S k.n k.sub (Nat.le_succ _) (fun i hi _=>by rw[gn,if_neg (by omega)]) (fun i e=>by cases e;exact⟨Nat.lt_succ_self _,.inl (Nat.le_refl _)⟩) ?_ rfl
      exact⟨h.next,wM cs,rfl,by rw[gn,if_pos rfl],by rw[iQ];exact c2,fun h=>(h rfl).elim⟩
     rw[Nat.zero_add]at VE
     refine⟨_,_,_,?_,hT.2,hT.1,VE⟩
     show(bif Nat.beq m 0 then Go.Ab.Ro.ok .fm h else bif Nat.ble (Nat.mul m bytes) 70368744177664&&(cf dQ cs&&(Nat.beq (len cs) (Nat.mul m size)&&Nat.ble m 70368744177664))then .ok (.ff h.next 0 m size) (dw h (wM cs))else .bad)=_
     rw[hnz,FI,VF,show Nat.ble (Nat.mul m bytes) 70368744177664=true from by rw[Nat.ble_eq];exact r1,show Nat.ble m 70368744177664=true from by rw[Nat.ble_eq];exact r2]
     rfl
    ·have G4:Sk=size:=by have q:=beq_true hb.1;rw[y1]at q;exact q
     subst G4
     subst y2
     obtain⟨p,p1,p2⟩:=MK y4
     obtain⟨r,o,no,er⟩:=k.id XX rfl
     have hT:SR (E.row H.next ⟨.ref h.next 0,0⟩) (eK H2 (.o 0 (rL++new))) (dw (jz h XX none) (p.app cs))/\Nx E (E.row H.next ⟨.ref h.next 0,0⟩) H (eK H2 (.o 0 (rL++new))) h (dw (jz h XX none) (p.app cs)):=by
      refine kQ S k.n k.sub (Nat.le_succ _) (fun i hi q=>?_) (fun i e=>by cases e;exact⟨Nat.lt_succ_self _,.inl (Nat.le_refl _)⟩) ?_ rfl
      ·rw[gn,if_neg (by show ¬ i=h.next;omega),jL,if_neg]
       intro ei
       exact q r o no (by rw[ei];exact er)
      ·refine⟨h.next,p.app cs,rfl,by rw[gn];exact if_pos rfl,?_,fun h=>(h rfl).elim⟩
       rw[tB,p2]
       change dk h (.ff XX Sl n Sk)=some (n,ds)at d1
       have:ds=ds:=rfl
       exact d2.app c2
     refine⟨_,_,_,?_,hT.2,hT.1,VE⟩
     show(bif Nat.beq m 0 then Go.Ab.Ro.ok (.ff XX Sl n Sk) h else match h.aL.get XX with
      |none=>.bad
      |some cs'=>match cs'.sub Sl (Nat.mul n Sk)with
       |none=>.bad
       |some pre=>bif Nat.ble (Nat.mul (Nat.add n m) bytes) 70368744177664&&(Nat.beq Sk Sk&&(cf dQ cs&&(Nat.beq (len cs) (Nat.mul m Sk)&&Nat.ble (Nat.add n m) 70368744177664)))then
        .ok (.ff h.next 0 (Nat.add n m) Sk) (dw (jz h XX none) (pre.app cs))else .bad)=_
     have p1':ail.sub Sl (Nat.mul n Sk)=some p:=p1
     rw[hnz]
     simp only[cond_false,y3,p1']
     rw[FI,VF,Nat.beq_refl,show Nat.ble (Nat.mul (Nat.add n m) bytes) 70368744177664=true from by rw[Nat.ble_eq];exact r1,show Nat.ble (Nat.add n m) 70368744177664=true from by rw[Nat.ble_eq];exact r2]
     rfl
   ·cases e
  ·split at e
   ·exact typed e
   ·cases e
 ·split at e
  ·exact typed e
  ·cases e
end Lf
end Go.Ab

noncomputable section
namespace Go.Ab
namespace Lf
theorem MN{E:En}{H:Hq}{h:Hp}(S:SR E H h){r:Nat}{R R':Row}(hr:H.aL.get r=some R)(lv:R.live=true)(hR:RV E H.next h (E.K r) R'):SR E (jo H r (some R')) h/\Nx E E H (jo H r (some R')) h h:=by
 have ow: ∀ q,own (jo H r (some R')) q->own H q:=by
  rintro q ⟨Q,a,b⟩
  rw[fp]at a
  split at a
  ·rename_i e;rw[e];exact⟨R,hr,lv⟩
  ·exact⟨Q,a,b⟩
 refine⟨⟨?_,?_,?_,?_⟩,⟨w7.refl _ _,Nat.le_refl _,Nat.le_refl _,fun q id o e=>.inl ⟨q,ow q o,e⟩,fun _ _ e=>.inl e,fun _ _ _=>rfl⟩⟩
 ·intro q Q hq
  rw[fp]at hq
  split at hq
  ·rename_i e;subst e;cases hq;exact⟨(S.row _ _ hr).1,hR⟩
  ·exact S.row _ _ hq
 ·exact fun a b i oa ob ea eb=>S.inj a b i (ow a oa) (ow b ob) ea eb
 ·exact fun a i oa ea=>S.lt a i (ow a oa) ea
 ·intro i row e
  obtain⟨a,b,c⟩:=S.g i row e
  exact⟨a,b,fun q oq=>c q (ow q oq)⟩
theorem MO{G:Nat->Option Rw}{t:Ty}{x y:List (den t)}{ls cs:List AV}(e:kG (EV G t) x ls)(k:kG (EV G t) y cs)(off:Nat):kG (EV G t) (x.take off++(y++x.drop (off+y.length))) (ls.take (off*size t)++(cs++ls.drop (off*size t+y.length*size t))):=by
 have h1:=e.take (EV.length t) off
 have h2:=e.drop (EV.length t) (off+y.length)
 rw[Nat.add_mul]at h2
 exact h1.app (k.app h2)
theorem Jv{size:Nat}{d s:Od}{t:Tm}{h:Hp}{b:AV}{m:Nat}{cs:List AV}(h1:bB d t=some .fm)(h2:bB s t=some b)(h3:dk h b=some (m,cs)):jV size (bB d) (bB s) t h=.ok (.int .i64 (.ofNat 0)) h:=by
 unfold jV
 rw[h1,h2]
 simp only[h3]
theorem Sm{size:Nat}{d s:Od}{t:Tm}{h:Hp}{b:AV}{m id off n sz:Nat}{cs:List AV}(h1:bB d t=some (.ff id off n sz))(h2:bB s t=some b)(h3:dk h b=some (m,cs))(h0:min m n=0):jV size (bB d) (bB s) t h=.ok (.int .i64 (.ofNat 0)) h:=by
 unfold jV
 rw[h1,h2]
 simp only[h3,tC,h0]
 rfl
theorem Sn{size:Nat}{d s:Od}{t:Tm}{h:Hp}{b:AV}{m id off n sz:Nat}{cs:List AV}{row:Rw}(h1:bB d t=some (.ff id off n sz))(h2:bB s t=some b)(h3:dk h b=some (m,cs))(h0:min m n≠0)(hr:h.aL.get id=some row)(hz:0<size)(hs:sz=size)
 (hl:cs.length=m*size)(hc: ∀ a,a∈cs->dQ a=true)(hn:off+min m n*size<=row.n):jV size (bB d) (bB s) t h=.ok (.int .i64 (.ofNat (min m n))) (jz h id (some (row.put off (cs.take (min m n*size))))):=by
 unfold jV
 rw[h1,h2]
 have hb:Nat.beq (min m n) 0=false:=by
  cases q:Nat.beq (min m n) 0 with
  |false=>rfl
  |true=>exact(h0 (Nat.eq_of_beq_eq_true q)).elim
 have q:((Nat.blt 0 size&&(Nat.beq sz size&&(Nat.beq (len cs) (Nat.mul m size)&&cf Go.Ab.dQ cs)))&&Nat.ble (Nat.add off (Nat.mul (min m n) size)) row.n)=true:=by
  have a1:Nat.blt 0 size=true:=by simpa using hz
  have a2:Nat.beq sz size=true:=by rw[hs];exact Nat.beq_refl _
  have a3:Nat.beq (len cs) (Nat.mul m size)=true:=by rw[bM,hl];exact Nat.beq_refl _
  have a4:cf Go.Ab.dQ cs=true:=by rw[hU,List.all_eq_true];exact hc
  have a5:Nat.ble (Nat.add off (Nat.mul (min m n) size)) row.n=true:=by rw[Nat.ble_eq];exact hn
  rw[a1,a2,a3,a4,a5]
  rfl
 simp only[h3,tC,hb,cond_false,hr,q,cond_true,qx]
 rfl
theorem So{row:Rw}{ls new:List AV}{base k o:Nat}(s:row.lG base k=some ls)(hk:ls.length=k)(ho:o+new.length<=k):(row.put (base+o) new).lG base k=some (ls.take o++(new++ls.drop (o+new.length))):=by
 obtain⟨s1,s2⟩:=eR.1 s
 have hn:base+o+new.length<=row.n:=by omega
 refine eR.2 ⟨by show base+k<=row.n;exact s1,?_⟩
 have sD:row.toL=row.toL.take base++(ls++row.toL.drop (base+k)):=by
  rw[s2,<-List.drop_drop,List.take_append_drop,List.take_append_drop]
 have E5:(row.toL.take base).length=base:=by rw[List.length_take,eN];omega
 have e1:=w8 ls (row.toL.drop (base+k)) new o (by omega) (row.toL.take base)
 rw[<-sD,E5]at e1
 rw[tA hn,e1,List.drop_append_of_le_length (by rw[E5];exact Nat.le_refl _)]
 rw[show List.drop base (row.toL.take base)=[]from by rw[List.drop_eq_nil_iff,E5];exact Nat.le_refl _,List.nil_append]
 rw[List.take_append_of_le_length (by rw[w9 _ _ _ (by omega)];omega)]
 rw[show List.take k (put ls o new)=put ls o new from by rw[List.take_of_length_le];rw[w9 _ _ _ (by omega)];omega]
 rw[put_eq]
theorem MP{size:Nat}{d s:Od}{r sz off n:Nat}{sv v:Sv}{E:En}{T T':Tq}{t:Tm}{H H':Hq}{h:Hp}{b c:AV}(hT:TV E H.next T t)(S:SR E H h)(hs:bB s t=some (uS b))(Ko:V E H.next sv b)(hd:bB d t=some (uS c))
 (hk:(n=0/\dH c=true)∨ ∃ id base,(E.K r).av=.ff id base (E.K r).n sz/\c=.ff id (base+off*sz) n sz/\off+n<=(E.K r).n)(e:(RS size sv r sz off n T H).val=some (v,T',H')):
 ∃ a h' E',Ev (fun _ _=>jV size (bB d) (bB s) t h) (.ok a h')/\Nx E E' H H' h h'/\SR E' H' h'/\V E' H'.next v a/\TV E' H'.next T' t:=by
 unfold RS at e
 split at e
 ·rename_i ty x hr
  obtain⟨hb,e⟩:=eF e
  rw[Bool.and_eq_true,Bool.and_eq_true]at hb
  obtain⟨b0,b1,b2⟩:=hb
  have b0:0<size:=by simpa using b0
  have b1:=beq_true b1
  have b2:=beq_true b2
  split at e
  ·rename_i y H1 hy
   split at e
   ·rename_i t2 x2 hr2
    obtain⟨rfl,rfl,rfl⟩:=aU e
    obtain⟨E1,F,cs,c1,c2⟩:=yj S Ko hy
    have q:=(S.row _ _ hr).2
    have fY:cs.length=y.length*size:=by rw[c2.length (EV.length ty),b2]
    have lrm:LR E1.G ty x (E1.K r) h.aL.get:=by rw[F.K];exact LR.mono F.g (fun _ _ _ e=>e) q
    rw[bp,bp]
    by_cases h0:min y.length n=0
    ·have zl:x.take off++(y.take (min y.length n)++x.drop (Nat.add off (min y.length n)))=x:=by
      rw[h0,List.take_zero,List.nil_append]
      exact List.take_append_drop _ _
     rw[zl]
     obtain⟨S1,X1⟩:=MN F.S hr2 rfl (R':=.l ty x) lrm
     refine⟨.int .i64 (.ofNat 0),h,E1,?_,F.X.trans X1,S1,?_,hT.mono (F.X.trans X1).e (F.X.trans X1).le⟩
     ·rcases hk with⟨hn,hc⟩|⟨id,base,k1,k2,k3⟩
      ·exact Ev.const (Jv (by rw[hd,fJ hc]) hs c1)
      ·exact Ev.const (Sm (by rw[hd,k2];rfl) hs c1 h0)
     ·rw[h0];exact gm
    ·rcases hk with⟨hn,hc⟩|⟨id,base,k1,k2,k3⟩
     ·subst hn;rw[Nat.min_zero]at h0;exact(h0 rfl).elim
     ·rcases lrm.2 with⟨k,_⟩|⟨xt,Mz,row,ls,p1,p2,p3,p4⟩
      ·rw[F.K,k1]at k;cases k
      ·rw[F.K,k1]at p1
       injection p1 with a1 a2 a3 a4
       subst a1;subst a2
       have hxn:x.length=(E.K r).n:=q.1
       have hls:ls.length=(E1.K r).n*size:=by rw[p4.length (EV.length ty),F.K,hxn,b2]
       obtain⟨w,hw⟩: ∃ w,w=min y.length n:=⟨_,rfl⟩
       have hwn:w<=n:=by rw[hw];exact Nat.min_le_right _ _
       have hwy:w<=y.length:=by rw[hw];exact Nat.min_le_left _ _
       have hyl:(y.take w).length=w:=by rw[List.length_take];exact Nat.min_eq_left hwy
       have hcw:(cs.take (w*size)).length=w*size:=by
        rw[List.length_take,fY];exact Nat.min_eq_left (Nat.mul_le_mul_right _ hwy)
       have hm:off*size+w*size<=(E.K r).n*size:=by rw[<-Nat.add_mul];exact Nat.mul_le_mul_right _ (by omega)
       have p3':row.lG base ((E1.K r).n*size)=some ls:=by rw[b2];exact p3
       obtain⟨s1,_⟩:=eR.1 p3'
       rw[F.K]at s1
       have ps:=So (o:=off*size) (new:=cs.take (w*size)) p3' hls (by rw[hcw,F.K];exact hm)
       have he:=MO p4 (by have:=c2.take (EV.length ty) w;rw[<-b2]at this;exact this) off
       rw[hyl,<-b2]at he
       rw[hcw]at ps
       have jB:ly (E1.K r).av=some id:=by rw[F.K,k1];rfl
       have hR:RV E1 H1.next (jz h id (some (row.put (base+off*size) (cs.take (w*size))))) (E1.K r) (.l ty (x.take off++(y.take w++x.drop (off+w)))):=by
        refine⟨?_,.inr ⟨id,base,_,_,by rw[F.K,k1,b1,b2],by rw[jL,if_pos rfl],by rw[<-b2];exact ps,he⟩⟩
        rw[F.K,<-hxn,List.length_append,List.length_append,List.length_take,hyl,List.length_drop]
        omega
       obtain⟨S1,X1⟩:=Bq F.S hr2 rfl rfl jB hR
       rw[<-hw]
       refine⟨.int .i64 (.ofNat w),_,E1,Ev.const ?_,F.X.trans X1,S1,gm,hT.mono (F.X.trans X1).e (F.X.trans X1).le⟩
       have:=Sn (size:=size) (by rw[hd,k2];rfl) hs c1 h0 p2 b0 b1 fY (kG.dQ (EV.dQ ty) c2) (by rw[b1,<-hw];omega)
       rw[b1,<-hw]at this
       exact this
   ·cases e
  ·cases e
 ·cases e
theorem MQ(size:Nat)(d s:Od):eS (Mm size d s) (fun _ _=>jV size (bB d) (bB s)):=by
 intro E T t H h v T' H' hT hH e
 unfold Mm at e
 split at e
 ·rename_i sv hs
  obtain⟨b,hb,HD⟩:=nN hT hs
  split at e
  ·rename_i r sz hd
   obtain⟨c,hc,gh⟩:=nN hT hd
   split at e
   ·rename_i ty x hr
    refine MP hT hH hb HD hc ?_ e
    have q:=(hH.row _ _ hr).2
    cases gh with
    |os h1 h2=>
     rcases h2 with⟨h2,h3⟩|⟨id,base,h2⟩
     ·exact .inl ⟨by have:=q.1;omega,h2⟩
     ·exact .inr ⟨id,base,h2,by rw[h2,q.1,Nat.zero_mul,Nat.add_zero],by have:=q.1;omega⟩
   ·cases e
  ·rename_i r sz off n hd
   obtain⟨c,hc,gh⟩:=nN hT hd
   refine MP hT hH hb HD hc ?_ e
   cases gh with
   |se h1 h2 h3 h4=>exact .inl ⟨rfl,h2⟩
   |ss h1 h2 h3=>exact .inr ⟨_,_,h2,rfl,h3⟩
  ·cases e
 ·cases e
end Lf
end Go.Ab

noncomputable section
namespace Go.Ab
namespace Lf
theorem FO(size bytes:Nat)(s x:Od):eS (Bl size bytes s x) (fun _ _=>aO size bytes (bB s) (bB x)):=by
 intro E T t H h v T' H' hT hH e
 unfold Bl at e
 split at e
 ·rename_i sv hs
  split at e
  ·rename_i xv hx
   obtain⟨a,ha,yk⟩:=bz hT hs
   obtain⟨b,hb,HD⟩:=bz hT hx
   obtain⟨rfl,c,h',E',e1,X,S',rm⟩:=MM hH ha yk hb HD e
   exact⟨c,h',E',Ev.const e1,X,S',rm,hT.mono X.e X.le⟩
  ·cases e
 ·cases e
theorem XY:SR ⟨fun _=>⟨.any,0⟩,fun _=>.any,fun _=>none,fun _=>.any⟩ ⟨0,.nil⟩ ⟨0,.nil⟩:=
 ⟨(fun _ _ e=>by cases e),(fun _ _ _ o=>by obtain⟨_,e,_⟩:=o;cases e),(fun _ _ o=>by obtain⟨_,e,_⟩:=o;cases e),(fun _ _ e=>by cases e)⟩
theorem Dn{z:List AV}{t:Ty}{x:den t}(e:Hs z=some ⟨t,x⟩)(G:Nat->Option Rw):EV G t x z:=by
 unfold Hs at e
 split at e
 ·rename_i t' ht
  split at e
  ·rename_i l hl
   split at e
   ·rename_i y q hy
    cases e
    obtain⟨E',c,d,F,hcd,hev,hd⟩:=sM t _ _ _ l [] z x q XY (ud hl) hy
    have:d=[]:=by cases hd;rfl
    rw[this,List.append_nil]at hcd
    rw[hcd]
    refine EV.mono (fun id row k=>?_) _ _ _ hev
    have:=(F.S.g id row k).1
    exact absurd this (Nat.not_lt_zero _)
   ·cases e
  ·cases e
 ·cases e
theorem Bt{G:Nat->Option Rw}{t:Ty}{x:den t}{z:List AV}(h:EV G t x z): ∀ n,kG (EV G t) (List.replicate n x) (fX n z)
 |0=>rfl
 |n+1=>by
  rw[List.replicate_succ]
  show kG _ _ (app z (fX n z))
  rw[bp]
  exact⟨z,_,rfl,h,Bt h n⟩
theorem MR(size bytes:Nat)(z:List AV)(s x:Od):eS (Mj size bytes z s x) (fun _ _=>rY size bytes z (bB s) (bB x)):=by
 intro E T t H h v T' H' hT hH e
 unfold Mj at e
 split at e
 ·rename_i sv hs
  split at e
  ·rename_i xv hx
   split at e
   ·rename_i k n hn
    obtain⟨_,e⟩:=eF e
    split at e
    ·rename_i ty y hz
     obtain⟨hb,e⟩:=eF e
     obtain⟨h0,e⟩:=Lf.T.aX e
     rw[Bool.and_eq_true]at hb
     have hb1:=beq_true hb.1
     obtain⟨a,ha,yk⟩:=bz hT hs
     obtain⟨b,Cf,HD⟩:=bz hT hx
     have:=iE HD hn;subst this
     obtain⟨j,rfl⟩:=Int.eq_ofNat_of_zero_le (by simpa using h0)
     have hy:=Bt (Dn hz E.G) (j:Int).toNat
     obtain⟨rfl,c,h',E',e1,X,S',rm⟩:=FN hH yk hy (z:=Nat.beq j 0) (fun q=>by have:=beq_true q;subst this;rfl) e
     refine⟨c,h',E',Ev.const ?_,X,S',rm,hT.mono X.e X.le⟩
     unfold rY
     rw[ha,Cf]
     rw[List.length_replicate]at e1
     show(bif sA a&&Nat.beq j 0 then Go.Ab.Ro.ok a h else tw size bytes h (uS a) j (fX j z))=_
     rw[hb1];exact e1
    ·cases e
   ·cases e
  ·cases e
 ·cases e
theorem vn(G:Nat->Option Rw): ∀ (l:List UInt8),kG (EV G (.int .u8)) (l.map fun b=>Int.ofNat b.toNat) (l.map fun b=>AV.int .u8 (.ofNat b.toNat))
 | []=>rfl
 |b::l=>⟨[_],_,rfl,rfl,vn G l⟩
theorem MS(bytes:Nat)(s x:Od):eS (Mk bytes s x) (fun _ _=>tx bytes (bB s) (bB x)):=by
 intro E T t H h v T' H' hT hH e
 unfold Mk at e
 split at e
 ·rename_i sv hs
  split at e
  ·rename_i xv hx
   split at e
   ·rename_i k y hn
    obtain⟨_,e⟩:=eF e
    obtain⟨a,ha,yk⟩:=bz hT hs
    obtain⟨b,Cf,HD⟩:=bz hT hx
    have:=qf HD hn;subst this
    have hl:y.data.toList.length=y.size:=Array.length_toList
    obtain⟨rfl,c,h',E',e1,X,S',rm⟩:=FN hH yk (vn E.G y.data.toList) (z:=Nat.beq y.size 0) (fun q=>by have:=beq_true q;rw[<-hl]at this;rw[List.eq_nil_of_length_eq_zero this];rfl) e
    refine⟨c,h',E',Ev.const ?_,X,S',rm,hT.mono X.e X.le⟩
    unfold tx
    rw[ha,Cf]
    rw[List.length_map,hl]at e1
    exact e1
   ·cases e
  ·cases e
 ·cases e
theorem Dp{G:Nat->Option Rw}: ∀ {x:List Int} {cs:List AV},kG (EV G (.int .u8)) x cs->xq cs=some x
 | [],cs,h=>by
  have h:cs=[]:=h
  subst h
  rfl
 |a::x,cs,h=>by
  obtain⟨c,d,rfl,h1,h2⟩:=h
  have h1:c=[AV.int .u8 a]:=h1
  subst h1
  show(match xq d with|some r=>some (a::r)|none=>none)=_
  rw[Dp h2]
theorem Sp(x:Od):eS (XG x) (fun _ _=>wu (bB x)):=by
 intro E T t H h v T' H' hT hH e
 unfold XG at e
 split at e
 ·rename_i xv hx
  split at e
  ·rename_i y h1 hn
   obtain⟨rfl,rfl,rfl⟩:=aU e
   obtain⟨b,Cf,HD⟩:=bz hT hx
   obtain⟨E1,F,cs,c1,c2⟩:=yj hH HD hn
   refine⟨.sc (.string (wq y)),h,E1,Ev.const ?_,F.X,F.S,.c rfl (fun q=>(q rfl).elim),hT.mono F.X.e F.X.le⟩
   unfold wu wO
   rw[Cf]
   show(match dk h (uS b)with|some (n,cs)=>(match xq cs with|some l=>bif Nat.beq (len l) n then Go.Ab.Ro.ok (.sc (.string (wq l))) h else .bad|none=>.bad)|none=>.bad)=_
   rw[c1]
   show(match xq cs with|some l=>bif Nat.beq (len l) y.length then Go.Ab.Ro.ok (.sc (.string (wq l))) h else .bad|none=>.bad)=_
   rw[Dp c2]
   show(bif Nat.beq (len y) y.length then Go.Ab.Ro.ok (.sc (.string (wq y))) h else .bad)=_
   rw[bM,Nat.beq_refl]
   rfl
  ·cases e
 ·cases e
theorem Jw(x:Od):eS (FB x) (fun _ _=>pf (bB x)):=by
 intro E T t H h v T' H' hT hH e
 unfold FB at e
 split at e
 ·rename_i xv hx
  split at e
  ·rename_i k y hn
   obtain⟨rfl,rfl,rfl⟩:=aU e
   obtain⟨b,Cf,HD⟩:=bz hT hx
   have:=qf HD hn;subst this
   have hl:y.data.toList.length=y.size:=Array.length_toList
   obtain⟨S,X⟩:=VB hH (t:=.int .u8) (rw:=wM (y.data.toList.map fun b=>AV.int .u8 (.ofNat b.toNat))) (by rw[iQ];exact vn E.G y.data.toList)
   refine⟨.ff h.next 0 y.size 1,_,_,Ev.const ?_,X,S,?_,hT.mono X.e X.le⟩
   ·unfold pf
    rw[Cf]
   ·have hv:=V.os (E:=E.row H.next ⟨.ff h.next 0 (y.data.toList.map fun b=>Int.ofNat b.toNat).length (Lf.size (.int .u8)),(y.data.toList.map fun b=>Int.ofNat b.toNat).length⟩) (N:=(eK H (.l (.int .u8) (y.data.toList.map fun b=>Int.ofNat b.toNat))).next) (r:=H.next) (sz:=1) (Nat.lt_succ_self _) (.inr ⟨h.next,0,by show(if H.next=H.next then _ else _:Kr).av=AV.ff _ _ (if H.next=H.next then _ else _:Kr).n _;rw[if_pos rfl];rfl⟩)
    have e2:((E.row H.next ⟨.ff h.next 0 (y.data.toList.map fun b=>Int.ofNat b.toNat).length (Lf.size (.int .u8)),(y.data.toList.map fun b=>Int.ofNat b.toNat).length⟩).K H.next).av=.ff h.next 0 y.size 1:=by
     show(if H.next=H.next then _ else _:Kr).av=_
     rw[if_pos rfl]
     show AV.ff _ _ _ _=_
     rw[List.length_map,hl];rfl
    rw[e2]at hv
    exact hv
  ·cases e
 ·cases e
theorem Sq{T:Tq}{l c:Od}{lv cv:Sv}{k k':IntKind}{m n:Int}(h:Jk l c=true)(h1:jS l T=some lv)(h2:jS c T=some cv)(e1:toN lv=some (k,m))(e2:toN cv=some (k',n)):m=n:=by
 unfold Jk at h
 split at h
 ·have:=beq_true h;subst this
  rw[h1]at h2;cases h2
  rw[e1]at e2;cases e2;rfl
 ·cases h1;cases h2;cases e1;cases e2
  exact ga.1 h
 ·cases h
theorem MT(size bytes:Nat)(z:List AV)(l c:Od):eS (Ml size bytes z l c) (fun _ _=>m0 size bytes z (bB l) (bB c)):=by
 intro E T t H h v T' H' hT hH e
 unfold Ml at e
 split at e
 ·rename_i lv hl
  split at e
  ·rename_i cv hc
   split at e
   ·rename_i k l' hln
    split at e
    ·rename_i k' c' hcn
     split at e
     ·rename_i ty y hz
      obtain⟨hb,e⟩:=eF e
      obtain⟨h0,e⟩:=Lf.T.aX e
      obtain⟨rfl,rfl,rfl⟩:=aU e
      rw[Bool.and_eq_true]at hb
      have hb1:=beq_true hb.1
      simp only[Bool.and_eq_true,decide_eq_true_eq]at h0
      obtain⟨⟨h1,h2⟩,h3⟩:=h0
      obtain⟨a,ha,yk⟩:=bz hT hl
      obtain⟨b,Cf,HD⟩:=bz hT hc
      have:=iE yk hln;subst this
      have:=iE HD hcn;subst this
      have heq:Jk l c=true->l'=c':=fun q=>Sq q hl hc hln hcn
      obtain⟨m,rfl⟩:=Int.eq_ofNat_of_zero_le h1
      obtain⟨n,rfl⟩:=Int.eq_ofNat_of_zero_le (Int.le_trans h1 h2)
      have hmn:m<=n:=by omega
      have h3:n*bytes<=70368744177664:=h3
      have hk:m0 size bytes z (bB l) (bB c) t h=bif Nat.beq n 0 then .ok .p' h else .ok (.ff h.next 0 m size) (dw h ⟨Nat.mul n (len z),z,.nil⟩):=by
       unfold m0
       rw[ha,Cf]
       show(bif Nat.ble m n&&Nat.ble (Nat.mul n bytes) 70368744177664 then(bif Nat.beq n 0 then Go.Ab.Ro.ok .p' h else .ok (.ff h.next 0 m size) (dw h ⟨Nat.mul n (len z),z,.nil⟩))else .bad)=_
       rw[show Nat.ble m n=true from by rw[Nat.ble_eq];exact hmn,show Nat.ble (Nat.mul n bytes) 70368744177664=true from by rw[Nat.ble_eq];exact h3]
       rfl
      have ain:=Bt (Dn hz E.G) n
      simp only[Int.toNat_natCast]
      cases hn:Nat.beq n 0 with
      |true=>
       have Vb:=beq_true hn
       subst Vb
       have hm0:m=0:=by omega
       subst hm0
       rw[hn]at hk
       have Qb:SR (E.row H.next ⟨.p',0⟩) (eK H (.l ty (List.replicate 0 y))) h/\Nx E (E.row H.next ⟨.p',0⟩) H (eK H (.l ty (List.replicate 0 y))) h h:=
        kQ hH rfl (fun _ _ e=>e) (Nat.le_refl _) (fun _ _ _=>rfl) (fun _ e=>by cases e) ⟨rfl,.inl ⟨rfl,rfl⟩⟩ rfl
       refine⟨.p',h,_,Ev.const hk,Qb.2,Qb.1,?_,hT.mono Qb.2.e Qb.2.le⟩
       have K0:(E.row H.next ⟨.p',0⟩).K H.next=⟨.p',0⟩:=if_pos rfl
       cases hq:Jk l c with
       |true=>
        have:=V.os (E:=E.row H.next ⟨.p',0⟩) (N:=(eK H (.l ty (List.replicate 0 y))).next) (r:=H.next) (sz:=size) (Nat.lt_succ_self _) (.inl (by rw[K0];exact⟨rfl,rfl⟩))
        rw[K0]at this;exact this
       |false=>
        have:=V.se (E:=E.row H.next ⟨.p',0⟩) (N:=(eK H (.l ty (List.replicate 0 y))).next) (r:=H.next) (sz:=size) (off:=0) (Nat.lt_succ_self _) (by rw[K0];rfl) (by rw[K0]) rfl
        rw[K0]at this;exact this
      |false=>
       rw[hn]at hk
       obtain⟨S,X⟩:=VB hH (t:=ty) (x:=List.replicate n y) (rw:=⟨Nat.mul n (len z),z,.nil⟩) (by rw[GS];exact ain)
       refine⟨_,_,_,Ev.const hk,X,S,?_,hT.mono X.e X.le⟩
       have K0:(E.row H.next ⟨.ff h.next 0 (List.replicate n y).length (Lf.size ty),(List.replicate n y).length⟩).K H.next=⟨.ff h.next 0 n size,n⟩:=by
        show(if H.next=H.next then _ else _)=_
        rw[if_pos rfl,List.length_replicate,hb1]
       cases hq:Jk l c with
       |true=>
        have aio:m=n:=by have:=heq hq;omega
        subst aio
        have:=V.os (E:=E.row H.next ⟨.ff h.next 0 (List.replicate m y).length (Lf.size ty),(List.replicate m y).length⟩) (N:=(eK H (.l ty (List.replicate m y))).next) (r:=H.next) (sz:=size) (Nat.lt_succ_self _) (.inr (by rw[K0];exact⟨_,_,rfl⟩))
        rw[K0]at this;exact this
       |false=>
        have:=V.ss (E:=E.row H.next ⟨.ff h.next 0 (List.replicate n y).length (Lf.size ty),(List.replicate n y).length⟩) (N:=(eK H (.l ty (List.replicate n y))).next) (r:=H.next) (sz:=size) (off:=0) (n:=m) (id:=h.next) (base:=0) (Nat.lt_succ_self _) (by rw[K0]) (by rw[K0];show 0+m<=n;omega)
        rw[Nat.zero_mul]at this;exact this
     ·cases e
    ·cases e
   ·cases e
  ·cases e
 ·cases e
def oy(call:eL)(ao:aA):Prop:= ∀ (E:En) (f:FuncId) (args:List Sv) (as:List AV) (H:Hq) (h:Hp) (v:Sv) (H':Hq),Vs E H.next args as->SR E H h->(call f args H).val=some (v,H')->
 ∃ c h' E',Ev (fun n d=>ao n d f as h) (.ok c h')/\Nx E E' H H' h h'/\SR E' H' h'/\V E' H'.next v c
section
variable {call:eL}{ao:aA}(C:oy call ao)
include C
theorem MU(f:FuncId)(args:List Od):eS (Mn call f args) (fun n d=>an (ao n d) f (args.map bB)):=by
 intro E T t H h v T' H' hT hH e
 unfold Mn at e
 split at e
 ·rename_i vs hv
  obtain⟨p,e1,e2⟩:=Lf.T.dh e
  obtain⟨rfl,rfl,rfl⟩:=aU e2
  obtain⟨cs,hc,gh⟩:=Bm hT hv
  obtain⟨c,h',E',k,X,S,w⟩:=C E f vs cs H h p.1 p.2 gh hH e1
  refine⟨c,h',E',?_,X,S,w,hT.mono X.e X.le⟩
  unfold an
  simp only[hc]
  exact k
 ·cases e
theorem Jx(f:Od)(args:List Od):eS (FD call f args) (fun n d=>iy (ao n d) (bB f) (args.map bB)):=by
 intro E T t H h v T' H' hT hH e
 unfold FD at e
 split at e
 ·rename_i g cap hg
  split at e
  ·rename_i vs hv
   obtain⟨p,e1,e2⟩:=Lf.T.dh e
   obtain⟨rfl,rfl,rfl⟩:=aU e2
   obtain⟨a,ha,yk⟩:=bz hT hg
   obtain⟨cs,hc,gh⟩:=Bm hT hv
   cases yk with
   |fn xE=>
    rename_i l'
    rw[bp]at e1
    obtain⟨c,h',E',k,X,S,w⟩:=C E g _ _ H h p.1 p.2 (gh.app xE) hH e1
    refine⟨c,h',E',?_,X,S,w,hT.mono X.e X.le⟩
    unfold iy
    simp only[ha,hc,bp]
    exact k
  ·cases e
 ·cases e
omit C in
theorem MV{h:Hp}: ∀ (l:List Sv) (cs:List AV) (E:En) (H:Hq),SR E H h->Vs E H.next l cs->
 ∃ E',Nx E E' H ⟨(j1 l H.next).2,H.aL⟩ h h/\SR E' ⟨(j1 l H.next).2,H.aL⟩ h/\Vs E' (j1 l H.next).2 (j1 l H.next).1 cs:=by
 intro l
 induction l with
 |nil=>intro cs E H S v;exact⟨E,Nx.refl _ _ _,S,v⟩
 |cons a l ih=>
  intro cs E H S v
  have plain: ∀ (c:AV) (cs':List AV),cs=c::cs'->V E H.next a c->Vs E H.next l cs'-> ∃ E',Nx E E' H ⟨(j1 l H.next).2,H.aL⟩ h h/\SR E' ⟨(j1 l H.next).2,H.aL⟩ h/\Vs E' (j1 l H.next).2 (a::(j1 l H.next).1) cs:=by
   rintro c cs' rfl va vl
   obtain⟨E',n1,s1,v1⟩:=ih cs' E H S vl
   exact⟨E',n1,s1,.cons (va.mono n1.e n1.le) v1⟩
  cases v with
  |cons va vl=>
   rename_i c cs'
   cases a with
   |c m t x=>
    cases t with
    |ae t=>
     cases hm:Nat.beq m 0 with
     |false=>
      have e:j1 (.c m (.ae t) x::l) H.next=(.c m (.ae t) x::(j1 l H.next).1,(j1 l H.next).2):=by
       show(bif Nat.beq m 0 then _ else _)=_
       rw[hm];rfl
      rw[e]
      exact plain c cs' rfl va vl
     |true=>
      have e:j1 (.c m (.ae t) x::l) H.next=(.c H.next (.ae t) x::(j1 l (Nat.add H.next 1)).1,(j1 l (Nat.add H.next 1)).2):=by
       show(bif Nat.beq m 0 then _ else _)=_
       rw[hm];rfl
      rw[e]
      let E1:En:=⟨E.K,fun r=>if r=H.next then c else E.tk r,E.G,E.A⟩
      let H1:Hq:=⟨Nat.add H.next 1,H.aL⟩
      have el:w7 E E1 H.next:=⟨fun _ _=>rfl,fun r hr=>if_neg (Nat.ne_of_lt hr),fun _ _ e=>e,rfl⟩
      have hle:H.next<=H1.next:=Nat.le_add_right _ 1
      have n0:Nx E E1 H H1 h h:=⟨el,hle,Nat.le_refl _,fun r _ a b=>.inl ⟨r,a,b⟩,fun _ _ a=>.inl a,fun _ _ _=>rfl⟩
      have s1:SR E1 H1 h:=⟨fun r R hr=>⟨Nat.lt_of_lt_of_le (S.row r R hr).1 hle,RV.mono el hle (fun _ _ _ _ k=>k) (S.row r R hr).2⟩,S.inj,S.lt,S.g⟩
      obtain⟨E',n1,s2,v1⟩:=ih cs' E1 H1 s1 (vl.mono el hle)
      refine⟨E',n0.trans n1,s2,.cons ?_ v1⟩
      cases va with
      |c k _=>
       refine .c (EV.mono (fun _ _ e=>n1.e.G _ _ e) _ _ _ k) fun _=>⟨Nat.lt_of_lt_of_le (Nat.lt_succ_self H.next) n1.le,?_⟩
       rw[n1.e.tk H.next (Nat.lt_succ_self H.next)]
       exact(if_pos rfl).symm
    | _=>exact plain c cs' rfl va vl
   | _=>exact plain c cs' rfl va vl
omit C in
theorem Sr(b:Od){f:fh}{g:OpN}(k:eS f g):eS (XI b f) g:=by
 intro E T t H h v T' H' hT hH e
 unfold XI at e
 split at e
 ·rename_i i
  cases hi:Nat.blt i 512 with
  |false=>rw[hi]at e;exact k E T t H h v T' H' hT hH e
  |true=>
   rw[hi]at e
   simp only[cond_true]at e
   split at e
   ·rename_i l hl
    obtain⟨a,ha,yk⟩:=hT i _ (bH.1 hi) hl
    cases yk with
    |ag hl'=>
     rename_i l'
     obtain⟨E1,n1,s1,v1⟩:=MV l l' E H hH hl'
     have tj:TV E1 (j1 l H.next).2 (T.put i (some (.ag (j1 l H.next).1))) t:=by
      have:=(hT.mono n1.e n1.le)
      intro j w hj hw
      rw[Tq.jA _ _ _ _ (bH.1 hi) hj]at hw
      split at hw
      ·rename_i e1
       subst e1
       cases hw
       exact⟨_,ha,.ag v1⟩
      ·exact this j w hj hw
     obtain⟨c,h',E',k1,k2,k3,k4,k5⟩:=k E1 _ t ⟨(j1 l H.next).2,H.aL⟩ h v T' H' tj s1 e
     exact⟨c,h',E',k1,n1.trans k2,k3,k4,k5⟩
   ·exact k E T t H h v T' H' hT hH e
 ·exact k E T t H h v T' H' hT hH e
omit C in
theorem MW(a:Od):eS (Mo a) (fun _ _=>rZ (bB a)):=db (by
 intro E T t H h v T' H' hT hH e
 unfold Mo at e
 split at e
 ·rename_i r sz hw
  split at e
  ·rename_i ty x hr
   obtain⟨c1,e⟩:=Lf.T.aX e
   obtain⟨rfl,rfl,rfl⟩:=aU e
   obtain⟨c,hc,gh⟩:=bz hT hw
   refine⟨rfl,rfl,c,?_,gh⟩
   have jN:Nat.beq x.length 0=false:=by cases q:Nat.beq x.length 0 with
    |true=>rw[q]at c1;cases c1
    |false=>rfl
   rcases Di gh (hH.row _ _ hr).2 with⟨_,rfl⟩|⟨id,base,row,ls,rfl,_,_,k4,_⟩
   ·cases jN
   ·unfold rZ
    rw[hc]
    simp only[jN,k4,cond_false]
  ·cases e
 ·rename_i r sz off n hw
  split at e
  ·rename_i g l hr
   cases hn:Nat.beq n 0 with
   |true=>rw[hn]at e;cases e
   |false=>
    rw[hn]at e
    obtain⟨rfl,rfl,rfl⟩:=aU e
    obtain⟨c,hc,gh⟩:=bz hT hw
    refine⟨rfl,rfl,c,?_,gh⟩
    obtain⟨id,row,k1,k2,_⟩:=(hH.row _ _ hr).2
    cases gh with
    |xo _ h2=>
     rw[k1]at h2
     cases h2
     unfold rZ
     rw[hc]
     simp only[hn,k2,cond_false]
  ·cases e
 ·cases e)
omit C in
theorem Ss:eS (fun t h=>okV (.a .any) t h) (fun _ _=>Go.Ab.It):=by
 intro E T t H h v T' H' hT hH e
 obtain⟨rfl,rfl,rfl⟩:=aU e
 exact⟨.any,h,E,Ev.const rfl,Nx.refl _ _ _,hH,.a rfl,hT⟩
theorem Su(o:ku):eS (yc call o) (fun n d=>Fw (ao n d) o):=by
 cases o<;>first|exact RW|skip
 case mv=>exact yf _
 case pk=>exact Mw _ _ _
 case nw=>exact RY _
 case bx=>exact RZ _
 case bd=>exact Jq _ _
 case rw=>exact R3 _ _ _ _
 case ld=>exact MJ _ _ _
 case sto=>exact Sr _ (Jt _ _ _)
 case nl=>exact RX _
 case bn=>exact R8 _ _ _
 case un=>exact XT _ _
 case bys=>exact Jw _
 case bs=>exact Sp _
 case fn=>exact XN _ _
 case mk=>exact MT _ _ _ _ _
 case slS=>exact FM _ _ _
 case slN=>exact FK _ _ _ _
 case slA=>exact FL _ _ _ _ _
 case fa=>exact zy _ _
 case fd=>exact Jp _ _ _ _
 case ixS=>exact Sf _ _ _
 case ixA=>exact Sg _ _ _ _
 case ix=>exact Ju _ _ _ _ _
 case ixT=>exact FJ _ _
 case ex=>exact Dh _ _
 case lnT=>exact MG _
 case ln=>exact R4 _
 case ap=>exact FO _ _ _ _
 case apZ=>exact MR _ _ _ _ _
 case apS=>exact MS _ _ _
 case emp=>exact Sh _ _ _
 case mrk=>exact MW _
 case min=>exact Sb _ _
 case max=>exact Sc _ _
 case cap=>exact Si _
 case map=>exact Ss
 case cpy=>exact MQ _ _ _
 case call=>exact MU C _ _
 case callV=>exact Jx C _ _
end
end Lf
end Go.Ab
