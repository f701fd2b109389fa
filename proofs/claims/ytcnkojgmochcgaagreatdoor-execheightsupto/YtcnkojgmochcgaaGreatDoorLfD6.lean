import Derived.Test.YtcnkojgmochcgaaGreatDoorLfD2
noncomputable section
namespace Go.Ab
namespace Lf
theorem np{i n:Int}:bF i n=true↔0<=i/\i<n:=by unfold bF;simp
theorem NG(size:Nat)(a i:Od):eT (Nf size a i) (fun _ _=>bt size (cf a) (cf i)):=dC (by
 intro E T t H h v T' H' hT hH e
 unfold Nf at e
 split at e
 ·rename_i iv XK
  split at e
  ·rename_i k n hn
   obtain⟨c,hc,fL⟩:=bX hT XK
   have:=gP fL hn;subst this
   have kH: ∀ {id off m sz:Nat} {j:Nat},n=(j:Int)->cf a t=some (.dV id off m sz)->j<m->sz=size->bt size (cf a) (cf i) t h=.ok (.ref id (off+j*size)) h:=by
    intro id off m sz j hj h1 h2 h3
    subst hj
    unfold bt
    rw[hc]
    show(match cf a t with
     |some (.dV id off n sz)=>bif Nat.blt j n&&Nat.beq sz size then Go.Ab.Ro.ok (.ref id (Nat.add off (Nat.mul j size))) h else .bad
     |some (.iw n cs)=>bif Nat.blt j n then .ok (.gj (dp (Nat.mul j size) cs)) h else .bad
     | _=>.bad)=_
    rw[h1]
    simp only[ct.2 h2,h3,Nat.beq_refl]
    rfl
   have conv: ∀ {m:Nat},bF n (Int.ofNat m)=true-> ∃ j:Nat,n=(j:Int)/\n.toNat=j/\j<m:=by
    intro m q
    obtain⟨q1,q2⟩:=np.1 q
    exact⟨n.toNat,by omega,rfl,by have:(Int.ofNat m)=(m:Int):=rfl;omega⟩
   split at e
   ·rename_i r s ha
    obtain⟨p,hp,kK⟩:=bX hT ha
    have key: ∀ {t':Ty} {x:List (den t')} {S':Nat->Option Rw},LR E.G t' x (E.K r) S'->(bif Nat.beq s size then Lf.T.ck (bF n (Int.ofNat x.length)) (okV (.re r s n.toNat 0) T H)else Lf.T.bad).val=some (v,T',H')->H'=H/\T'=T/\ ∃ c,bt size (cf a) (cf i) t h=.ok c h/\V E H.next v c:=by
     intro t' x S' q e
     cases hs:Nat.beq s size with
     |false=>rw[hs]at e;cases e
     |true=>
      rw[hs]at e
      have hs:=beq_true hs
      obtain⟨q1,e⟩:=Lf.T.dj e
      obtain⟨rfl,rfl,rfl⟩:=bA e
      obtain⟨j,hj,Lz,fO⟩:=conv q1
      have q2:=Ax kK q
      cases kK with
      |os h1 h2=>
       rcases h2 with⟨h2,h3⟩|⟨id,base,h2⟩
       ·rw[q.1,h3]at fO;omega
       ·rw[h2]at hp
        rw[q.1]at fO
        refine⟨rfl,rfl,_,kH hj hp fO hs,?_⟩
        rw[Lz]
        have:=V.re (i:=j) (o:=0) h1 h2 fO
        rw[Nat.add_zero,hs]at this
        rw[hs];exact this
    split at e
    ·rename_i t' x hr;exact key (hH.row _ _ hr).2 e
    ·rename_i t' x hr;exact key (hH.row _ _ hr).2 e
    ·cases e
   ·rename_i r s off m ha
    obtain⟨p,hp,kK⟩:=bX hT ha
    cases hs:Nat.beq s size with
    |false=>rw[hs]at e;cases e
    |true=>
     rw[hs]at e
     have hs:=beq_true hs
     obtain⟨q1,e⟩:=Lf.T.dj e
     obtain⟨rfl,rfl,rfl⟩:=bA e
     obtain⟨j,hj,Lz,fO⟩:=conv q1
     cases kK with
     |se _ _ _ _=>omega
     |ss h1 h2 h3=>
      rename_i id base
      refine⟨rfl,rfl,_,kH hj hp fO hs,?_⟩
      rw[Lz]
      have:=V.re (i:=off+j) (o:=0) h1 h2 (by omega)
      rw[Nat.add_zero,Nat.add_mul,<-Nat.add_assoc,hs]at this
      rw[hs];exact this
   ·rename_i r s off m ha
    obtain⟨p,hp,kK⟩:=bX hT ha
    split at e
    ·rename_i k0 j
     cases hs:(Nat.beq s size&&Nat.blt j m)with
     |false=>rw[hs]at e;cases e
     |true=>
      rw[hs]at e
      rw[Bool.and_eq_true]at hs
      obtain⟨rfl,rfl,rfl⟩:=bA e
      cases hn
      cases kK with
      |xo h1 h2=>
       have BH:=beq_true hs.1
       refine⟨rfl,rfl,_,kH rfl hp (ct.1 hs.2) BH,?_⟩
       have:=V.rf (o:=off+j*s) h1 h2
       rw[BH]at this
       rw[BH];exact this
    ·cases e
   ·rename_i m ty x ha
    obtain⟨p,hp,kK⟩:=bX hT ha
    cases hs:Nat.beq size (Lf.size ty)with
    |false=>rw[hs]at e;cases e
    |true=>
     rw[hs]at e
     have hs:=beq_true hs
     obtain⟨q1,e⟩:=Lf.T.dj e
     obtain⟨rfl,rfl,rfl⟩:=bA e
     obtain⟨j,hj,Lz,fO⟩:=conv q1
     rw[Lz]
     cases kK with
     |c k _=>
      obtain⟨b,hb,k⟩:=k
      cases hb
      rcases k with⟨_,k⟩|⟨ls,k1,k2|⟨id,base,row,k2,k3,k4⟩⟩
      ·subst k;simp at fO
      ·subst k2
       refine⟨rfl,rfl,.gj (ls.drop (j*size)),?_,?_⟩
       ·unfold bt
        rw[hc,hp,hj]
        show(bif Nat.blt j x.length then Go.Ab.Ro.ok (.gj (dp (Nat.mul j size) ls)) h else .bad)=_
        rw[ct.2 fO,jg];rfl
       ·have h1:=k1.get (EV.length ty) fO (aE ty)
        have:=V.zp (r:=(ls.drop (j*size)).drop size) (pR (E:=E) (N:=H'.next) rfl ty _ _ h1)
        rw[hs,List.take_append_drop]at this
        rw[hs];exact this
      ·subst k2
       refine⟨rfl,rfl,_,kH hj hp fO hs.symm,?_⟩
       obtain⟨_,e2,e3⟩:=rI (N:=H'.next) fO k4 k1
       have hl:(mN ty (x.getD j (aE ty))).length=Lf.size ty:=by
        rw[e2.length,(rI (N:=H'.next) fO k4 k1).1 |> EV.length ty _ _]
       refine .zr e2 k3 ?_
       rw[hl,hs];exact e3
   ·cases e
  ·cases e
 ·cases e)
theorem NH(n size:Nat)(a i:Od):eT (Ng n size a i) (fun _ _=>oB n size (cf a) (cf i)):=dC (by
 intro E T t H h v T' H' hT hH e
 unfold Ng at e
 split at e
 ·rename_i k j XK
  obtain⟨c,hc,fL⟩:=bX hT XK
  cases fL
  cases hj:Nat.blt j n with
  |false=>rw[hj]at e;cases e
  |true=>
   rw[hj]at e
   simp only[cond_true]at e
   have hk:oB n size (cf a) (cf i) t h=(match cf a t with
    |some (.ref id off)=>bif Nat.blt j n then Go.Ab.Ro.ok (.ref id (Nat.add off (Nat.mul j size))) h else .bad
    |some (.gj cs)=>bif Nat.blt j n then .ok (.gj (dp (Nat.mul j size) cs)) h else .bad
    | _=>.bad):=by unfold oB;rw[hc];rfl
   rw[hk,hj]
   split at e
   ·rename_i r o ha
    obtain⟨rfl,rfl,rfl⟩:=bA e
    obtain⟨p,hp,kK⟩:=bX hT ha
    rw[hp]
    cases kK with
    |rf h1 h2=>exact⟨rfl,rfl,_,rfl,.rf h1 h2⟩
   ·rename_i l ha
    obtain⟨p,hp,kK⟩:=bX hT ha
    rw[hp]
    cases hb:Nat.ble (Nat.mul j size) (len l)with
    |false=>rw[hb]at e;cases e
    |true=>
     rw[hb]at e
     obtain⟨rfl,rfl,rfl⟩:=bA e
     have hle:j*size<=l.length:=by have:=Nat.le_of_ble_eq_true hb;rwa [cF]at this
     rw[jg]
     cases kK with
     |zp k=>
      rename_i l' r
      refine⟨rfl,rfl,_,rfl,?_⟩
      rw[jg,List.drop_append_of_le_length (by rw[<-k.length];exact hle)]
      exact .zp (k.drop _)
     |zr k g s=>
      rename_i l' id o row
      refine⟨rfl,rfl,_,rfl,?_⟩
      refine .zr (k.drop _) g ?_
      obtain⟨s1,s2⟩:=ek.1 s
      rw[List.length_drop]
      refine ek.2 ⟨by have e1:Nat.add o (Nat.mul j size)=o+j*size:=rfl;have e2:Nat.mul j size=j*size:=rfl;omega,?_⟩
      rw[s2,List.drop_take,List.drop_drop]
      rfl
   ·cases e
 ·cases e)
theorem xD{E:En}{N:Nat}{k:IntKind}: ∀ {l:List Sv} {l':List AV} {r:List Int},Vs E N l l'->Cy k l=some r->l'=r.map fun n=>.int k n
 | [],_,_,.nil,e=>by cases e;rfl
 |v::l,_,r,.cons hv h,e=>by
  change (match toN v with|some (k',n)=>(bif ka k k' then(match Cy k l with|some r=>some (n::r)|none=>none)else none)|none=>none)=some r at e
  split at e
  ·rename_i k' n hn
   obtain⟨hk,e⟩:=cD e
   split at e
   ·rename_i r' hr
    cases e
    have:=eY.1 hk;subst this
    rw[gP hv hn,xD h hr];rfl
   ·cases e
  ·cases e
theorem F6(n size:Nat)(agg:Bool)(a i:Od):eT (yD n size agg a i) (fun _ _=>kF n size agg (cf a) (cf i)):=dC (by
 intro E T t H h v T' H' hT hH e
 unfold yD at e
 split at e
 ·rename_i cs ha
  obtain⟨p,hp,kK⟩:=bX hT ha
  cases kK with
  |ag gu=>
   rename_i l'
   split at e
   ·rename_i k j hi
    obtain⟨c,hc,fL⟩:=bX hT hi
    cases fL
    cases hb:Nat.blt j n with
    |false=>rw[hb]at e;cases e
    |true=>
     rw[hb]at e
     obtain⟨e1,rfl,rfl⟩:=l4 e
     obtain⟨r,h1,h2⟩:=nn gu e1
     refine⟨rfl,rfl,r,?_,h2⟩
     unfold kF
     rw[hp,hc]
     show(bif Nat.blt j n then(match part agg l' (Nat.mul j size) size with|some v=>Go.Ab.Ro.ok v h|none=>.bad)else .bad)=_
     rw[hb,h1];rfl
   ·rename_i m k0 x hi
    obtain⟨c,hc,fL⟩:=bX hT hi
    have:=gP fL rfl;subst this
    cases Q4:(agg|| !(Nat.beq size 1))with
    |true=>rw[Q4]at e;cases e
    |false=>
     rw[Q4]at e
     rw[Bool.or_eq_false_iff]at Q4
     simp only[cond_false]at e
     split at e
     ·rename_i w l
      split at e
      ·rename_i k y hk
       split at e
       ·rename_i nl hnl
        cases hlen:Nat.beq (len nl) n with
        |false=>rw[hlen]at e;cases e
        |true=>
         rw[hlen]at e
         obtain⟨q1,e⟩:=Lf.T.dj e
         obtain⟨rfl,rfl,rfl⟩:=bA e
         obtain⟨x1,x2⟩:=np.1 q1
         obtain⟨j,rfl⟩:=Int.eq_ofNat_of_zero_le x1
         have hj:j<n:=by have:(Int.ofNat n)=(n:Int):=rfl;omega
         have hl:=xD gu hnl
         have akN:nl.length=n:=by have:=beq_true hlen;rwa [cF]at this
         have pO:size=1:=by cases hq:Nat.beq size 1 with
          |true=>exact beq_true hq
          |false=>rw[hq]at Q4;cases Q4.2
         refine⟨rfl,rfl,.int k (nl.getD j 0),?_,fI⟩
         unfold kF
         rw[hp,hc]
         show(bif Nat.blt j n then(match part agg l' (Nat.mul j size) size with|some v=>Go.Ab.Ro.ok v h|none=>.bad)else .bad)=_
         have WY:part agg l' (Nat.mul j size) size=some (.int k (nl.getD j 0)):=by
          rw[Q4.1,pO,hl,show Nat.mul j 1=j from Nat.mul_one j]
          have Lz:j<nl.length:=by omega
          have ht:((nl.map fun n=>AV.int k n).drop j).take 1=[AV.int k (nl.getD j 0)]:=by
           rw[List.drop_eq_getElem_cons (by simpa using Lz)]
           simp[List.getD_eq_getElem?_getD,List.getElem?_eq_getElem Lz]
          unfold part
          rw[qF (by rw[ht];rfl),ht];rfl
         rw[ct.2 hj,WY];rfl
       ·cases e
      ·cases e
     ·cases e
   ·cases e
 ·cases e)
theorem CH(a i:Od):eT (uE a i) (fun _ _=>cC (cf a) (cf i)):=dC (by
 intro E T t H h v T' H' hT hH e
 unfold uE at e
 split at e
 ·rename_i w hw
  split at e
  ·rename_i b s hs
   split at e
   ·rename_i iv XK
    split at e
    ·rename_i k n hn
     obtain⟨q1,e⟩:=Lf.T.dj e
     obtain⟨rfl,rfl,rfl⟩:=bA e
     obtain⟨c,hc,fL⟩:=bX hT hw
     obtain⟨d,hd,LH⟩:=bX hT XK
     have:=ov fL hs;subst this
     have:=gP LH hn;subst this
     obtain⟨x1,x2⟩:=np.1 q1
     obtain⟨j,rfl⟩:=Int.eq_ofNat_of_zero_le x1
     have hj:j<s.data.toList.length:=by have:(Int.ofNat s.size)=(s.size:Int):=rfl;have e2:s.data.toList.length=s.size:=Array.length_toList
                                        omega
     refine⟨rfl,rfl,_,?_,fI⟩
     unfold cC
     rw[hc,hd]
     show(match kE s.data.toList j with|some b=>Go.Ab.Ro.ok (.int .u8 b.toNat) h|none=>.bad)=_
     rw[fQ,List.getElem?_eq_getElem hj]
     simp[List.getD_eq_getElem?_getD,List.getElem?_eq_getElem hj]
    ·cases e
   ·cases e
  ·cases e
 ·cases e)
theorem DZ{E:En}{N:Nat}{T:Tq}{t:Tm}(hT:TV E N T t){o:Option Od}{d:Sv}{l:Bool}{n:Int}{m:Nat}(hd:toN d=some (.i64,(m:Int)))(e:wP o T d=some (l,n))(h0:0<=n):mL (o.map cf) t m=some n.toNat:=by
 unfold wP at e
 cases o with
 |none=>
  simp only at e
  rw[hd]at e
  cases e
  simp[mL]
 |some o=>
  simp only at e
  split at e
  ·rename_i w hw
   split at e
   ·rename_i k n' hn
    cases e
    obtain⟨c,hc,fL⟩:=bX hT hw
    have:=gP fL hn;subst this
    obtain⟨j,rfl⟩:=Int.eq_ofNat_of_zero_le h0
    show(match cf o t with|some (.int _ (.ofNat n))=>some n| _=>none)=_
    rw[hc];rfl
   ·cases e
  ·cases e
theorem F7{l u n:Int}:dy l u n=true↔0<=l/\l<=u/\u<=n:=by unfold dy;simp
theorem s6{E:En}{N:Nat}{T:Tq}{t:Tm}(hT:TV E N T t){lo hi:Option Od}{d:Sv}{l1 l2:Bool}{l u n:Int}{m:Nat}(hd:toN d=some (.i64,(m:Int)))(hn:n=m)(e1:wP lo T (.i .i64 0)=some (l1,l))(e2:wP hi T d=some (l2,u))(hc:dy l u n=true):
 bounds (lo.map cf) (hi.map cf) t m=some (l.toNat,u.toNat)/\l.toNat<=u.toNat/\u.toNat<=m:=by
 obtain⟨h1,h2,h3⟩:=F7.1 hc
 have a1:=DZ hT (m:=0) rfl e1 h1
 have a2:=DZ hT hd e2 (by omega)
 unfold bounds
 rw[a1,a2]
 have b1:Nat.ble l.toNat u.toNat=true:=by rw[Nat.ble_eq];omega
 have b2:Nat.ble u.toNat m=true:=by rw[Nat.ble_eq];omega
 simp only[b1,b2]
 exact⟨rfl,by omega,by omega⟩
theorem xE{a:AV}(h:qu a=true):dH a=true:=by cases a<;>first|exact h|rfl
theorem qH{size:Nat}{x:eR}{lo hi:Option eR}{t:Tm}{h:Hp}{a:AV}(hx:x t=some a)(he:qu a=false):cB size x lo hi t h=mM size x lo hi t h:=by
 unfold cB;rw[hx];simp only[he];rfl
theorem pT{size:Nat}{x:eR}{lo hi:Option eR}{t:Tm}{h:Hp}{a:AV}{l u:Nat}(hx:x t=some a)(he:dH a=true)(hb:bounds lo hi t 0=some (l,u)):cB size x lo hi t h=.ok a h:=by
 cases sC:qu a with
 |true=>unfold cB;rw[hx];simp only[sC,hb];rfl
 |false=>
  have:a=.eD:=by cases a<;>first|rfl|(cases sC;done)|(cases he;done)|(rename_i v0;have k:qu (.sc v0)=true:=he;rw[k]at sC;cases sC)
  subst this
  rw[qH hx sC]
  unfold mM
  rw[hx]
  simp only[hb]
theorem rJ{size:Nat}{x:eR}{lo hi:Option eR}{t:Tm}{h:Hp}{id off n sz l u:Nat}(hx:x t=some (.dV id off n sz))(hb:bounds lo hi t n=some (l,u))(hs:sz=size):cB size x lo hi t h=.ok (.dV id (off+l*size) (u - l) sz) h:=by
 rw[qH hx rfl]
 unfold mM
 rw[hx]
 simp only[hb,hs,Nat.beq_refl]
 rfl
theorem Az(size:Nat)(a:Od)(lo hi:Option Od): ∀ (E:En) (T:Tq) (t:Tm) (H:Hq) (h:Hp) (v:Sv) (T':Tq) (H':Hq),TV E H.next T t->SR E H h->(rD size a lo hi T H).val=some (v,T',H')->H'=H/\T'=T/\ ∃ c,cB size (cf a) (lo.map cf) (hi.map cf) t h=.ok c h/\V E H.next v c:=by
 intro E T t H h v T' H' hT hH e
 unfold rD at e
 split at e
 ·rename_i w hw
  split at e
  ·rename_i m hm
   split at e
   ·rename_i k n hn
    split at e
    ·rename_i ll l hl
     split at e
     ·rename_i lu u hu
      obtain⟨p,hp,kK⟩:=bX hT hw
      obtain⟨q,q1,_,q3,q4⟩:=DV hH kK hm
      rw[q1]at hn;cases hn
      have bd:=fun hc=>s6 (n:=(q:Int)) hT q1 rfl hl hu hc
      split at e
      ·rename_i z
       cases hz:qu z with
       |false=>rw[hz]at e;cases e
       |true=>
        rw[hz]at e
        obtain⟨c1,e⟩:=Lf.T.dj e
        obtain⟨rfl,rfl,rfl⟩:=bA e
        obtain⟨b1,_,_⟩:=bd c1
        cases kK with
        |a Xf=>
         have hem:=xE hz
         have:q=0:=q4 hem
         subst this
         exact⟨rfl,rfl,p,pT hp hem b1,.a Xf⟩
      ·rename_i r s
       cases hs:Nat.beq s size with
       |false=>rw[hs]at e;cases e
       |true=>
        rw[hs]at e
        have hs:=beq_true hs
        obtain⟨c1,e⟩:=Lf.T.dj e
        obtain⟨rfl,rfl,rfl⟩:=bA e
        obtain⟨b1,b2,b3⟩:=bd c1
        cases kK with
        |os h1 h2=>
         rcases h2 with⟨h2,h3⟩|⟨id,base,h2⟩
         ·have:q=0:=q4 h2
          subst this
          have e1:l.toNat=0:=by omega
          have e2:u.toNat - l.toNat=0:=by omega
          rw[e2,e1]
          exact⟨rfl,rfl,_,pT hp h2 b1,.se h1 h2 h3 rfl⟩
         ·rw[h2]at hp q3
          have:(E.K r).n=q:=by cases q3;rfl
          refine⟨rfl,rfl,_,rJ hp (by rw[this];exact b1) hs,?_⟩
          rw[<-hs]
          exact .ss h1 h2 (by omega)
      ·rename_i r s off m'
       cases hs:Nat.beq s size with
       |false=>rw[hs]at e;cases e
       |true=>
        rw[hs]at e
        have hs:=beq_true hs
        obtain⟨c1,e⟩:=Lf.T.dj e
        obtain⟨rfl,rfl,rfl⟩:=bA e
        obtain⟨b1,b2,b3⟩:=bd c1
        cases kK with
        |se h1 h2 h3 h4=>
         have:q=0:=q4 h2
         subst this
         have e1:l.toNat=0:=by omega
         have e2:u.toNat - l.toNat=0:=by omega
         rw[e2,e1,h4]
         exact⟨rfl,rfl,_,pT hp h2 b1,.se h1 h2 h3 rfl⟩
        |ss h1 h2 h3=>
         rename_i id base
         have:m'=q:=by cases q3;rfl
         subst this
         refine⟨rfl,rfl,_,rJ hp b1 hs,?_⟩
         rw[<-hs]
         have:=V.ss (off:=off+l.toNat) (n:=u.toNat - l.toNat) h1 h2 (by omega)
         rw[Nat.add_mul,<-Nat.add_assoc]at this
         exact this
      ·rename_i r s off m'
       cases hs:((ll&&lu)&&(Nat.beq s size&&dy l u (q:Int)))with
       |false=>rw[hs]at e;cases e
       |true=>
        rw[hs]at e
        rw[Bool.and_eq_true,Bool.and_eq_true,Bool.and_eq_true]at hs
        obtain⟨rfl,rfl,rfl⟩:=bA e
        obtain⟨b1,b2,b3⟩:=bd hs.2.2
        have BH:=beq_true hs.2.1
        cases kK with
        |xo h1 h2=>
         rename_i id
         have:m'=q:=by cases q3;rfl
         subst this
         refine⟨rfl,rfl,_,rJ hp b1 BH,?_⟩
         rw[<-BH]
         exact .xo h1 h2
      ·rename_i m' ty x
       cases hs:Nat.beq size (Lf.size ty)with
       |false=>rw[hs]at e;cases e
       |true=>
        rw[hs]at e
        have hs:=beq_true hs
        obtain⟨c1,e⟩:=Lf.T.dj e
        obtain⟨rfl,rfl,rfl⟩:=bA e
        obtain⟨b1,b2,b3⟩:=bd c1
        cases kK with
        |c k _=>
         obtain⟨b,hb,k⟩:=k
         cases hb
         rcases k with⟨k,kx⟩|⟨ls,k1,k2|⟨id,base,row,k2,k3,k4⟩⟩
         ·have:q=0:=q4 k
          subst this
          subst kx
          exact⟨rfl,rfl,_,pT hp k b1,.c ⟨_,rfl,.inl ⟨k,by simp⟩⟩ fun h=>(h rfl).elim⟩
         ·subst k2
          have:x.length=q:=by cases q3;rfl
          have hle:((x.drop l.toNat).take (u.toNat - l.toNat)).length=u.toNat - l.toNat:=by rw[List.length_take,List.length_drop];omega
          refine⟨rfl,rfl,.iw (u.toNat - l.toNat) (tk (Nat.mul (u.toNat - l.toNat) size) (dp (Nat.mul l.toNat size) ls)),?_,?_⟩
          ·rw[qH hp rfl]
           unfold mM
           rw[hp]
           simp only[this,b1]
           rfl
          ·refine .c ⟨_,rfl,.inr ⟨_,(k1.drop (EV.length ty) l.toNat).take (EV.length ty) (u.toNat - l.toNat),.inl ?_⟩⟩ fun h=>(h rfl).elim
           rw[hle,oP,jg,hs];rfl
         ·subst k2
          have:x.length=q:=by cases q3;rfl
          obtain⟨a1,a2,a3⟩:=yM (id:=0) rfl k4 k1 (off:=l.toNat) (m:=u.toNat - l.toNat) (by omega)
          refine⟨rfl,rfl,_,rJ hp (by rw[this];exact b1) hs.symm,?_⟩
          refine .c ⟨_,rfl,rG (id:=id) (base:=base+l.toNat*Lf.size ty) ?_ k3 ?_ a3⟩ fun h=>(h rfl).elim
          ·rw[a1,hs]
          ·rw[a1];exact a2
      ·cases e
     ·cases e
    ·cases e
   ·cases e
  ·cases e
 ·cases e
theorem CI(size:Nat)(a:Od)(lo hi:Option Od):eT (rD size a lo hi) (fun _ _=>cB size (cf a) (lo.map cf) (hi.map cf)):=dC (Az size a lo hi)
theorem CJ(n size:Nat)(a:Od)(lo hi:Option Od):eT (yE n size a lo hi) (fun _ _=>gq n size (cf a) (lo.map cf) (hi.map cf)):=dC (by
 intro E T t H h v T' H' hT hH e
 unfold yE at e
 split at e
 ·rename_i r o ha
  split at e
  ·rename_i l hl
   split at e
   ·rename_i u hu
    split at e
    ·rename_i cs gu
     cases hs:(Nat.ble (Nat.add o (Nat.mul n size)) (len cs)&&(dy l u (Int.ofNat n)&&Nat.blt 0 size))with
     |false=>rw[hs]at e;cases e
     |true=>
      rw[hs]at e
      rw[Bool.and_eq_true,Bool.and_eq_true]at hs
      obtain⟨rfl,rfl,rfl⟩:=bA e
      obtain⟨b1,b2,b3⟩:=s6 (n:=(n:Int)) (m:=n) hT rfl rfl hl hu hs.2.1
      obtain⟨p,hp,kK⟩:=bX hT ha
      obtain⟨id,row,k1,k2,k3⟩:=s5 hH gu
      cases kK with
      |rf h1 h2=>
       rw[k1]at h2;cases h2
       refine⟨rfl,rfl,_,?_,.xo (id:=id) h1 k1⟩
       unfold gq
       rw[hp]
       have q:=hs.1
       rw[cF,k3.length,eM]at q
       simp only[b1,k2,q]
       rfl
    ·cases e
   ·cases e
  ·cases e
 ·cases e)
theorem CK(a:Od)(lo hi:Option Od):eT (yF a lo hi) (fun _ _=>dG (cf a) (lo.map cf) (hi.map cf)):=dC (by
 intro E T t H h v T' H' hT hH e
 unfold yF at e
 split at e
 ·rename_i w hw
  split at e
  ·rename_i s hs
   split at e
   ·rename_i l hl
    split at e
    ·rename_i u hu
     cases hc:dy l u (Int.ofNat s.size)with
     |false=>rw[hc]at e;cases e
     |true=>
      rw[hc]at e
      obtain⟨rfl,rfl,rfl⟩:=bA e
      obtain⟨b1,b2,b3⟩:=s6 (n:=(s.size:Int)) (m:=s.size) hT rfl rfl hl hu hc
      obtain⟨p,hp,kK⟩:=bX hT hw
      have:=ov kK hs;subst this
      refine⟨rfl,rfl,_,?_,.a rfl⟩
      unfold dG
      rw[hp]
      simp only[b1]
    ·cases e
   ·cases e
  ·cases e
 ·cases e)
theorem NI(x y z:Od):eT (Ta x y z) (fun _ _=>uW (cf x) (cf y) (cf z)):=dC (by
 intro E T t H h v T' H' hT hH e
 unfold Ta at e
 split at e
 ·rename_i k hy
  split at e
  ·rename_i k' hz
   obtain⟨c,hc,fL⟩:=bX hT hy
   obtain⟨d,hd,LH⟩:=bX hT hz
   cases fL;cases LH
   have key: ∀ {w:Sv} {p:AV},cf x t=some (sy p)->V E H.next w p->(dH p=true∨(∃ id o n s,p=.dV id o n s)∨ ∃ n cs,p=.iw n cs)->uW (cf x) (cf y) (cf z) t h=.ok .eD h:=by
    intro w p h1 h2 h3
    unfold uW
    rw[hc,hd,h1]
    rcases h3 with h3|⟨_,_,_,_,rfl⟩|⟨_,_,rfl⟩
    ·rw[fl h3];rfl
    ·rfl
    ·rfl
   split at e
   ·rename_i w hx
    cases hw:dH w with
    |false=>rw[hw]at e;cases e
    |true=>
     rw[hw]at e
     obtain⟨rfl,rfl,rfl⟩:=bA e
     obtain⟨p,hp,kK⟩:=mP hT hx
     refine⟨rfl,rfl,_,key hp kK ?_,.a rfl⟩
     cases kK;exact .inl hw
   ·rename_i hx
    obtain⟨rfl,rfl,rfl⟩:=bA e
    obtain⟨p,hp,kK⟩:=mP hT hx
    refine⟨rfl,rfl,_,key hp kK ?_,.a rfl⟩
    cases kK with
    |os _ h2=>rcases h2 with⟨h2,_⟩|⟨_,_,h2⟩
              ·exact .inl h2
              ·exact .inr (.inl ⟨_,_,_,_,h2⟩)
   ·rename_i hx
    obtain⟨rfl,rfl,rfl⟩:=bA e
    obtain⟨p,hp,kK⟩:=mP hT hx
    refine⟨rfl,rfl,_,key hp kK ?_,.a rfl⟩
    cases kK with
    |se _ h2 _ _=>exact .inl h2
    |ss _ _ _=>exact .inr (.inl ⟨_,_,_,_,rfl⟩)
   ·rename_i hx
    obtain⟨rfl,rfl,rfl⟩:=bA e
    obtain⟨p,hp,kK⟩:=mP hT hx
    refine⟨rfl,rfl,_,key hp kK ?_,.a rfl⟩
    cases kK
    exact .inr (.inl ⟨_,_,_,_,rfl⟩)
   ·rename_i hx
    obtain⟨rfl,rfl,rfl⟩:=bA e
    obtain⟨p,hp,kK⟩:=mP hT hx
    refine⟨rfl,rfl,_,key hp kK ?_,.a rfl⟩
    cases kK with
    |c k _=>
     obtain⟨b,hb,k⟩:=k
     cases hb
     rcases k with⟨k,_⟩|⟨_,_,k|⟨_,_,_,k,_⟩⟩
     ·exact .inl k
     ·exact .inr (.inr ⟨_,_,k⟩)
     ·exact .inr (.inl ⟨_,_,_,_,k⟩)
   ·cases e
  ·cases e
 ·cases e)
theorem NJ(x:Od):eT (eH x) (fun _ _=>qS (cf x)):=dC (by
 intro E T t H h v T' H' hT hH e
 unfold eH at e
 split at e
 ·rename_i w hx
  cases hw:dH w with
  |false=>rw[hw]at e;cases e
  |true=>
   rw[hw]at e
   obtain⟨rfl,rfl,rfl⟩:=bA e
   obtain⟨p,hp,kK⟩:=mP hT hx
   cases kK
   rw[fl hw]at hp
   refine⟨rfl,rfl,_,?_,.i⟩
   unfold qS
   rw[hp]
 ·cases e)
end Lf
end Go.Ab

noncomputable section
namespace Go.Ab
namespace Lf
def lM(G:Nat->Option Rw)(h:Hp)(t:Ty)(a:AV)(x:List (den t)):Prop:=
 (dH a=true/\x=[])∨ ∃ id base row ls,a=.dV id base x.length (size t)/\h.aU.get id=some row/\row.jd base (x.length*size t)=some ls/\jH (EV G t) x ls
theorem uI{t:Ty}{s:Sv}{a:AV}{x:List (den t)}{E:En}{H H1:Hq}{h:Hp}(S:SR E H h)(hv:V E H.next s a)(e:Ar t s H=some (x,H1)): ∃ E1,Fz E E1 H H1 h/\lM E1.G h t a x:=by
 unfold Ar at e
 split at e
 ·rename_i r sz
  split at e
  ·rename_i t' y hr
   split at e
   ·rename_i p hp
    cases p
    cases e
    refine⟨E,Fz.refl S,?_⟩
    rcases Ax hv (S.row _ _ hr).2 with k|⟨id,base,row,ls,k1,_,_,k2,k3,k4⟩
    ·exact .inl k
    ·exact .inr ⟨id,base,row,ls,k1,k2,k3,k4⟩
   ·cases e
  ·cases e
 ·rename_i r sz off n
  split at e
  ·rename_i t' y hr
   split at e
   ·rename_i p hp
    cases p
    cases e
    refine⟨E,Fz.refl S,?_⟩
    rcases Q3 hv (S.row _ _ hr).2 with⟨k1,k2,k3,_⟩|⟨id,base,row,ls,k1,k2,_,_,k3,k4,k5⟩
    ·subst k3;exact .inl ⟨k1,by simp⟩
    ·obtain⟨a1,a2,a3⟩:=yM rfl k4 k5 k2 (id:=0)
     exact .inr ⟨id,base+off*size t,row,_,by rw[a1];exact k1,k3,by rw[a1];exact a2,a3⟩
   ·cases e
  ·cases e
 ·obtain⟨hb,e⟩:=cD e
  cases e
  cases hv
  exact⟨E,Fz.refl S,.inl ⟨hb,rfl⟩⟩
 ·rename_i r sz off n
  split at e
  ·rename_i l hr
   have hb:=beq_true (cD e).1
   replace e:=(cD e).2
   unfold QU at e
   have hle:=Nat.le_of_ble_eq_true (cD e).1
   replace e:=(cD e).2
   rw[cF]at hle
   rw[jg]at e
   obtain⟨id,row,k1,k2,k3,_⟩:=(S.row _ _ hr).2
   obtain⟨E1,c,d,F,e1,e2,e3⟩:=CE (qG t) n E H h _ _ x H1 S (k3.drop off) e
   refine⟨E1,F,?_⟩
   cases hv with
   |xo h1 h2=>
    rw[k1]at h2;cases h2
    have hc:=e2.length (EV.length t)
    have hlen:=k3.length
    refine .inr ⟨id,off,row,c,by rw[e3,hb],k2,?_,e2⟩
    refine ek.2 ⟨?_,?_⟩
    ·have:=congrArg List.length e1
     rw[List.length_drop,List.length_append,hc]at this
     rw[<-eM];omega
    ·rw[e1,<-hc,List.take_left]
  ·cases e
 ·cases e
structure Kl(E:En)(H H2:Hq)(a:AV):Prop where
 n:H2.next=H.next
 sub: ∀ r R,H2.aU.get r=some R->H.aU.get r=some R
 id: ∀ id,jN a=some id-> ∃ r,own H r/\ ¬ own H2 r/\jN (E.K r).av=some id
 only: ∀ r,own H r-> ¬ own H2 r->jN (E.K r).av=jN a
theorem D0{E:En}{H:Hq}{r:Nat}{R:Row}{a:AV}(hr:H.aU.get r=some R)(lv:R.live=true)(hi:jN (E.K r).av=jN a):Kl E H (iD H r none) a:=by
 have no: ¬ own (iD H r none) r:=by rintro⟨Q,q,_⟩;rw[eW,if_pos rfl]at q;cases q
 refine⟨rfl,fun q Q e=>?_,fun id e=>⟨r,⟨R,hr,lv⟩,no,by rw[hi];exact e⟩,fun q o n=>?_⟩
 ·rw[eW]at e
  split at e
  ·cases e
  ·exact e
 ·by_cases k:q=r
  ·rw[k];exact hi
  ·obtain⟨Q,q1,q2⟩:=o
   exact(n ⟨Q,by rw[eW,if_neg k];exact q1,q2⟩).elim
theorem yP{s:Sv}{a:AV}{E:En}{H H2:Hq}(hv:V E H.next s a)(e:kill s H=some H2):Kl E H H2 a:=by
 unfold kill at e
 split at e
 ·cases e
  cases hv with
  |a h=>exact⟨rfl,fun _ _ e=>e,fun id k=>by cases a<;>first|(cases h;done)|(cases k;done),fun r o n=>(n o).elim⟩
 ·split at e
  ·rename_i hr
   cases e
   cases hv with
   |os h1 h2=>exact D0 hr rfl rfl
  ·cases e
 ·split at e
  ·rename_i hr
   cases e
   cases hv with
   |se h1 h2 h3 h4=>exact D0 hr rfl rfl
   |ss h1 h2 h3=>exact D0 hr rfl (by rw[h2];rfl)
  ·cases e
 ·split at e
  ·rename_i hr
   cases e
   cases hv with
   |xo h1 h2=>exact D0 hr rfl (by rw[h2];rfl)
  ·cases e
 ·cases e
theorem nq{b n:Nat}:roomy b n=true↔n*b<=70368744177664/\n<=70368744177664:=by unfold roomy;simp
theorem Jl{r:Rw}{off k:Nat}{l:List AV}(h:r.jd off k=some l): ∃ p,r.sub off k=some p/\p.toL=l:=by
 obtain⟨a,b⟩:=ek.1 h
 have hb:Nat.ble (Nat.add off k) r.n=true:=by rw[Nat.ble_eq];exact a
 have hs:r.sub off k=some (bif Nat.beq off 0 then r.upto k else uq (r.cells k off)):=by unfold Rw.sub;rw[hb];rfl
 exact⟨_,hs,by rw[(zE hs).1,b]⟩
theorem Tp{E:En}{H H2:Hq}{h:Hp}(S:SR E H h){t:Ty}{a:AV}{x y:List (den t)}{cs:List AV}{bytes:Nat}{z:Bool}(hd:lM E.G h t a x)(hk:Kl E H H2 a)(hy:jH (EV E.G t) y cs)(hz:z=true->y=[])(hr:roomy bytes (x.length+y.length)=true):
 ∃ c h' E',(bif qu a&&z then Go.Ab.Ro.ok a h else qT (size t) bytes h (sy a) y.length cs)=.ok c h'/\Nx E E' H (dP H2 (.l t (x++y))) h h'/\SR E' (dP H2 (.l t (x++y))) h'/\V E' (dP H2 (.l t (x++y))).next (.os H2.next (size t)) c:=by
 obtain⟨r1,r2⟩:=nq.1 hr
 have Jm: ∀ (k:Kr),(∀ id,jN k.av=some id->jN a=some id)->RV E H.next h k (.l t (x++y))->SR (E.row H.next k) (dP H2 (.l t (x++y))) h/\Nx E (E.row H.next k) H (dP H2 (.l t (x++y))) h h:=by
  intro k h1 h2
  refine jj S hk.n hk.sub (Nat.le_refl _) (fun _ _ _=>rfl) (fun id e=>?_) h2 rfl
  obtain⟨r,o,no,er⟩:=hk.id id (h1 id e)
  exact⟨S.lt r id o er,.inr ⟨r,o,no,er⟩⟩
 have K0: ∀ k:Kr,(E.row H.next k).K H2.next=k:=fun k=>by rw[hk.n];exact if_pos rfl
 have Q5: ∀ k:Kr,((dH k.av=true/\k.n=0)∨ ∃ id base,k.av=.dV id base k.n (size t))->V (E.row H.next k) (dP H2 (.l t (x++y))).next (.os H2.next (size t)) k.av:=by
  intro k wA
  have:=V.os (E:=E.row H.next k) (N:=(dP H2 (.l t (x++y))).next) (r:=H2.next) (sz:=size t) (Nat.lt_succ_self _) (by rw[K0];exact wA)
  rwa [K0]at this
 have AA: ∀ av:AV,dH av=true->x=[]->y=[]-> ∃ E',Nx E E' H (dP H2 (.l t (x++y))) h h/\SR E' (dP H2 (.l t (x++y))) h/\V E' (dP H2 (.l t (x++y))).next (.os H2.next (size t)) av:=by
  intro av ha hx hy
  obtain⟨S',X⟩:=Jm ⟨av,0⟩ (fun id e=>by rw[show jN av=none from FY ha]at e;cases e) ⟨by rw[hx,hy];rfl,.inl ⟨ha,by rw[hx,hy];rfl⟩⟩
  exact⟨_,X,S',Q5 ⟨av,0⟩ (.inl ⟨ha,rfl⟩)⟩
 cases hc:(qu a&&z)with
 |true=>
  rw[Bool.and_eq_true]at hc
  have he:=xE hc.1
  have hx:x=[]:=by
   rcases hd with⟨_,k⟩|⟨id,base,row,ls,k,_⟩
   ·exact k
   ·rw[k]at he;cases he
  obtain⟨E',X,S',v⟩:=AA a he hx (hz hc.2)
  exact⟨a,h,E',rfl,X,S',v⟩
 |false=>
  simp only[cond_false]
  have fF:=hy.length (EV.length t)
  have CG:fB dU cs=true:=by rw[hI,List.all_eq_true];exact fun q hq=>hy.dU (EV.dU t) q hq
  by_cases hy0:y=[]
  ·subst hy0
   rcases hd with⟨k,hx⟩|⟨id,base,row,ls,k1,k2,k3,k4⟩
   ·obtain⟨E',X,S',v⟩:=AA .eD rfl hx rfl
    exact⟨.eD,h,E',by rw[fl k];rfl,X,S',v⟩
   ·obtain⟨S',X⟩:=Jm ⟨a,x.length⟩ (fun id e=>e) ⟨by simp,.inr ⟨id,base,row,ls,k1,k2,k3,by simpa using k4⟩⟩
    refine⟨a,h,_,?_,X,S',Q5 ⟨a,x.length⟩ (.inr ⟨id,base,k1⟩)⟩
    subst k1;rfl
  ·have Fk:0<y.length:=List.length_pos_iff.2 hy0
   have Wj:Nat.beq y.length 0=false:=by cases q:Nat.beq y.length 0 with
    |false=>rfl
    |true=>have:=beq_true q;omega
   have Ts:Nat.beq (len cs) (Nat.mul y.length (size t))=true:=by rw[cF,fF];exact Nat.beq_refl _
   rcases hd with⟨k,hx⟩|⟨id,base,row,ls,k1,k2,k3,k4⟩
   ·subst hx
    rw[fl k]
    simp only[List.length_nil,Nat.zero_add]at r1 r2
    have hT:(SR (E.row H.next ⟨.dV h.next 0 y.length (size t),y.length⟩) (dP H2 (.l t ([]++y))) (dK h (uq cs))/\Nx E (E.row H.next ⟨.dV h.next 0 y.length (size t),y.length⟩) H (dP H2 (.l t ([]++y))) h (dK h (uq cs))):=by
     refine jj S hk.n hk.sub (Nat.le_succ _) (fun i hi _=>by rw[fJ,if_neg (by omega)]) (fun i e=>by cases e;exact⟨Nat.lt_succ_self _,.inl (Nat.le_refl _)⟩) ?_ rfl
     refine⟨rfl,.inr ⟨h.next,0,uq cs,cs,rfl,by rw[fJ,if_pos rfl],?_,hy⟩⟩
     refine ek.2 ⟨by rw[<-eM,hJ,fF,Nat.zero_add];exact Nat.le_refl _,?_⟩
     rw[hJ]
     show cs=List.take (y.length*size t) _
     rw[<-fF,List.drop_zero,List.take_length]
    refine⟨_,_,_,?_,hT.2,hT.1,Q5 _ (.inr ⟨h.next,0,rfl⟩)⟩
    show(bif Nat.beq y.length 0 then Go.Ab.Ro.ok .eD h else bif Nat.ble (Nat.mul y.length bytes) 70368744177664&&(fB dU cs&&(Nat.beq (len cs) (Nat.mul y.length (size t))&&Nat.ble y.length 70368744177664))then .ok (.dV h.next 0 y.length (size t)) (dK h (uq cs))else .bad)=_
    rw[Wj,CG,Ts,show Nat.ble (Nat.mul y.length bytes) 70368744177664=true from by rw[Nat.ble_eq];exact r1,show Nat.ble y.length 70368744177664=true from by rw[Nat.ble_eq];exact r2]
    rfl
   ·subst k1
    obtain⟨p,p1,p2⟩:=Jl k3
    obtain⟨r,o,no,er⟩:=hk.id id rfl
    have hT:(SR (E.row H.next ⟨.dV h.next 0 (x.length+y.length) (size t),x.length+y.length⟩) (dP H2 (.l t (x++y))) (dK (gY h id none) (p.app cs))/\Nx E (E.row H.next ⟨.dV h.next 0 (x.length+y.length) (size t),x.length+y.length⟩) H (dP H2 (.l t (x++y))) h (dK (gY h id none) (p.app cs))):=by
     refine jj S hk.n hk.sub (Nat.le_succ _) (fun i hi q=>?_) (fun i e=>by cases e;exact⟨Nat.lt_succ_self _,.inl (Nat.le_refl _)⟩) ?_ rfl
     ·rw[fJ,if_neg (by show ¬ i=h.next;omega),iX,if_neg]
      intro ei
      exact q r o no (by rw[ei];exact er)
     ·have sR:=k4.app hy
      have hlen:=sR.length (EV.length t)
      refine⟨by rw[List.length_append],.inr ⟨h.next,0,p.app cs,ls++cs,rfl,by rw[fJ];exact if_pos rfl,?_,sR⟩⟩
      refine ek.2 ⟨by rw[<-eM,qV,p2,hlen,Nat.zero_add,List.length_append];exact Nat.le_refl _,?_⟩
      rw[qV,p2]
      show ls++cs=List.take ((x.length+y.length)*size t) _
      rw[<-List.length_append (as:=x),<-hlen,List.drop_zero,List.take_length]
    refine⟨_,_,_,?_,hT.2,hT.1,Q5 _ (.inr ⟨h.next,0,rfl⟩)⟩
    show(bif Nat.beq y.length 0 then Go.Ab.Ro.ok (.dV id base x.length (size t)) h else match h.aU.get id with
     |none=>.bad
     |some cs'=>match cs'.sub base (Nat.mul x.length (size t))with
      |none=>.bad
      |some pre=>bif Nat.ble (Nat.mul (Nat.add x.length y.length) bytes) 70368744177664&&(Nat.beq (size t) (size t)&&(fB dU cs&&(Nat.beq (len cs) (Nat.mul y.length (size t))&&Nat.ble (Nat.add x.length y.length) 70368744177664)))then
       .ok (.dV h.next 0 (Nat.add x.length y.length) (size t)) (dK (gY h id none) (pre.app cs))else .bad)=_
    have p1':row.sub base (Nat.mul x.length (size t))=some p:=p1
    rw[Wj]
    simp only[cond_false,k2,p1']
    rw[CG,Ts,Nat.beq_refl,show Nat.ble (Nat.mul (Nat.add x.length y.length) bytes) 70368744177664=true from by rw[Nat.ble_eq];exact r1,show Nat.ble (Nat.add x.length y.length) 70368744177664=true from by rw[Nat.ble_eq];exact r2]
    rfl
theorem CL{E:En}{H H':Hq}{h:Hp}(S:SR E H h){bytes:Nat}{t:Ty}{s:Sv}{a:AV}{y:List (den t)}{cs:List AV}{z:Bool}{T T':Tq}{v:Sv}(hv:V E H.next s a)(hy:jH (EV E.G t) y cs)(hz:z=true->y=[])(e:(S9 bytes t s y T H).val=some (v,T',H')):
 T'=T/\ ∃ c h' E',(bif qu a&&z then Go.Ab.Ro.ok a h else qT (size t) bytes h (sy a) y.length cs)=.ok c h'/\Nx E E' H H' h h'/\SR E' H' h'/\V E' H'.next v c:=by
 unfold S9 at e
 split at e
 ·rename_i x H1 hx
  split at e
  ·rename_i H2 hH2
   obtain⟨q,e⟩:=Lf.T.dj e
   obtain⟨rfl,rfl,rfl⟩:=bA e
   obtain⟨E1,F,D⟩:=uI S hv hx
   have k:=yP (F.v hv) hH2
   obtain⟨c,h',E',e1,X,S',nF⟩:=Tp F.S D k (hy.mono (EV.mono F.g t)) hz q (z:=z)
   rw[dn]
   exact⟨rfl,c,h',E',e1,F.X.trans X,S',nF⟩
  ·cases e
 ·cases e
theorem NK{h:Hp}{b:AV}{n:Nat}{cs:List AV}(hz:Lv b=true)(e:dZ h (sy b)=some (n,cs)):n=0:=by
 cases b with
 |dV id off m s=>
  have hz:=beq_true (show Nat.beq m 0=true from hz)
  change (match h.aU.get id with|some cs=>(match cs.jd off (Nat.mul m s)with|some l=>some (m,l)|none=>none)|none=>none)=some (n,cs)at e
  split at e
  ·split at e
   ·cases e;exact hz
   ·cases e
  ·cases e
 |iw m l=>
  have hz':=beq_true (show Nat.beq m 0=true from hz)
  cases e;exact hz'
 |eD=>cases e;rfl
 |mI=>cases e;rfl
 |sc v=>
  have:dH (.sc v)=true:=hz
  rw[fl this]at e
  cases e;rfl
 | _=>cases hz
theorem pf{size bytes:Nat}{s x:Od}{t:Tm}{h:Hp}{a b:AV}{n:Nat}{cs:List AV}(h1:cf s t=some a)(h2:cf x t=some b)(h3:dZ h (sy b)=some (n,cs)):
 aQ size bytes (cf s) (cf x) t h=(bif qu a&&Lv b then Go.Ab.Ro.ok a h else qT size bytes h (sy a) n cs):=by
 unfold aQ
 rw[h1,h2]
 show(bif qu a&&Lv b then Go.Ab.Ro.ok a h else nI size bytes (wO (cf s)) (wO (cf x)) t h)=_
 congr 1
 unfold nI
 rw[show wO (cf s) t=some (sy a)from by unfold wO;rw[h1],show wO (cf x) t=some (sy b)from by unfold wO;rw[h2]]
 simp only[h3]
theorem pg{E:En}{H:Hq}{h:Hp}(S:SR E H h){v:Sv}{b:AV}{n:Nat}{l:List Sv}(hv:V E H.next v b)(e:rE v H=some (n,l)):
 ∃ cs,dZ h (sy b)=some (n,cs)/\Vs E H.next l cs/\(n=0->Lv b=true)/\((dH b=true/\n=0/\l=[])∨ ∃ r s off id row,v=.xo r s off n/\b=.dV id off n s/\h.aU.get id=some row/\row.jd off (n*s)=some cs):=by
 unfold rE at e
 split at e
 ·obtain⟨hb,e⟩:=cD e
  cases e
  cases hv with
  |a hl=>
   refine⟨[],by rw[fl hb];rfl,.nil,fun _=>?_,.inl ⟨hb,rfl,rfl⟩⟩
   cases b<;>first|rfl|(cases hl;done)|exact hb
 ·rename_i r s off m
  split at e
  ·rename_i l0 hl
   have hle:=Nat.le_of_ble_eq_true (cD e).1
   replace e:=(cD e).2
   cases e
   obtain⟨id,row,k1,k2,k3⟩:=s5 S hl
   cases hv with
   |xo h1 h2=>
    rw[k1]at h2;cases h2
    rw[cF,k3.length]at hle
    have Xt:off+n*s<=row.toL.length:=hle
    rw[oP,jg]
    have eE:=(k3.drop off).take (n*s)
    have hs:row.jd off (n*s)=some ((row.toL.drop off).take (n*s)):=CD Xt
    refine⟨_,?_,eE,fun hn=>by subst hn;rfl,.inr ⟨r,s,off,id,row,rfl,rfl,k2,hs⟩⟩
    show(match h.aU.get id with|some cs=>(match cs.jd off (Nat.mul n s)with|some l=>some (n,l)|none=>none)|none=>none)=_
    rw[k2]
    have mh:row.jd off (Nat.mul n s)=_:=hs
    simp only[mh]
  ·cases e
 ·cases e
theorem eO{α:Type}{b:Bool}{x:T α}{r:α}(h:(bif b then x else T.bad).val=some r):b=true/\x.val=some r:=by
 cases b with
 |true=>exact⟨rfl,h⟩
 |false=>cases h
theorem Jn{size bytes:Nat}{sv xv v:Sv}{T T':Tq}{E:En}{H H':Hq}{h:Hp}{t:Tm}{s x:Od}{a b:AV}(S:SR E H h)(hs:cf s t=some a)(GG:V E H.next sv a)(hx:cf x t=some b)(Ib:V E H.next xv b)(e:(IV size bytes sv xv T H).val=some (v,T',H')):
 T'=T/\ ∃ c h' E',aQ size bytes (cf s) (cf x) t h=.ok c h'/\Nx E E' H H' h h'/\SR E' H' h'/\V E' H'.next v c:=by
 unfold IV at e
 obtain⟨hb,e⟩:=eO e
 rw[Bool.and_eq_true,Bool.and_eq_true]at hb
 have typed: ∀ {ty:Ty},(bif Nat.beq size (Lf.size ty)then(match S4 ty xv H with|some (new,h1)=>S9 bytes ty sv new T h1|none=>.bad)else .bad).val=some (v,T',H')->T'=T/\ ∃ c h' E',aQ size bytes (cf s) (cf x) t h=.ok c h'/\Nx E E' H H' h h'/\SR E' H' h'/\V E' H'.next v c:=by
  intro ty e
  obtain⟨hz,e⟩:=eO e
  have hz:=beq_true hz
  split at e
  ·rename_i new H1 hn
   obtain⟨E1,F,k⟩:=CF S Ib hn
   obtain⟨cs,c1,c2⟩:=xC F.S k
   obtain⟨rfl,c,h',E',e1,X,S',nF⟩:=CL F.S (F.v GG) c2 (z:=Lv b) (fun q=>List.eq_nil_of_length_eq_zero (NK q c1)) e
   refine⟨rfl,c,h',E',?_,F.X.trans X,S',nF⟩
   rw[pf hs hx c1,hz];exact e1
  ·cases e
 split at e
 ·
  rename_i l hl
  obtain⟨cs,c1,_,c3,_⟩:=pg S Ib hl
  have hzb:=c3 rfl
  have res: ∀ w:Sv,w=v/\T'=T/\H'=H->V E H.next w a->(qu a=true∨dH a=true∨ ∃ id o n z,a=.dV id o n z)->T'=T/\ ∃ c h' E',aQ size bytes (cf s) (cf x) t h=.ok c h'/\Nx E E' H H' h h'/\SR E' H' h'/\V E' H'.next v c:=by
   rintro w ⟨rfl,rfl,rfl⟩ hw hc
   refine⟨rfl,a,h,E,?_,Nx.refl _ _ _,S,hw⟩
   rw[pf hs hx c1,hzb]
   cases he:qu a with
   |true=>rfl
   |false=>
    rcases hc with hc|hc|⟨id,o,n,z,hc⟩
    ·rw[he]at hc;cases hc
    ·have:a=.eD:=by cases a<;>first|rfl|(cases he;done)|(cases hc;done)|(rename_i v0;have k:qu (.sc v0)=true:=hc;rw[k]at he;cases he)
     subst this
     rfl
    ·subst hc;rfl
  split at e
  ·obtain⟨hw,e⟩:=eO e
   cases GG with
   |a hl=>exact res _ (bA e) (.a hl) (.inl hw)
  ·refine res _ (bA e) GG (.inr ?_)
   cases GG with
   |os h1 h2=>
    rcases h2 with⟨h2,_⟩|⟨_,_,h2⟩
    ·exact .inl h2
    ·exact .inr ⟨_,_,_,_,h2⟩
  ·refine res _ (bA e) GG (.inr ?_)
   cases GG with
   |se _ h2 _ _=>exact .inl h2
   |ss _ _ _=>exact .inr ⟨_,_,_,_,rfl⟩
  ·refine res _ (bA e) GG (.inr ?_)
   cases GG with
   |xo _ _=>exact .inr ⟨_,_,_,_,rfl⟩
  ·cases e
 ·rename_i m new hm hl
  have Wl:m=0->False:=fun k=>hm k
  obtain⟨cs,c1,c2,c3,c4⟩:=pg S Ib hl
  split at e
  ·rename_i n oL ho
   split at e
   ·rename_i H2 hH2
    obtain⟨hr,e⟩:=eO e
    rw[Bool.and_eq_true]at hr
    obtain⟨rfl,rfl,rfl⟩:=bA e
    obtain⟨r1,r2⟩:=nq.1 hr.1
    obtain⟨ds,d1,d2,d3,d4⟩:=pg S GG ho
    have k:=yP GG hH2
    have aiq:0<m:=Nat.pos_of_ne_zero fun q=>Wl q
    obtain⟨r',s',akO,sE,ND,x1,x2,x3,x4⟩: ∃ r s off id row,xv=.xo r s off m/\b=.dV id off m s/\h.aU.get id=some row/\row.jd off (m*s)=some cs:=by
     rcases c4 with⟨_,q,_⟩|q
     ·omega
     ·exact q
    have mh:s'=size:=by have q:=beq_true hb.2.1;rw[x1]at q;exact q
    have fF:cs.length=m*size:=by
     obtain⟨q1,q2⟩:=ek.1 x4
     rw[q2,List.length_take,List.length_drop,eM,mh];rw[mh]at q1;omega
    have Wj:Nat.beq m 0=false:=by cases q:Nat.beq m 0 with
     |false=>rfl
     |true=>have:=beq_true q;omega
    have Ts:Nat.beq (len cs) (Nat.mul m size)=true:=by rw[cF,fF];exact Nat.beq_refl _
    have hzb:Lv b=false:=by rw[x2];exact Wj
    have CG:fB dU cs=true:=by
     rw[hI,List.all_eq_true]
     refine c2.BU fun q hq=>?_
     have:=hr.2;rw[hI,List.all_eq_true]at this;exact this q hq
    have pO:0<size:=ct.1 hb.2.2
    rw[dn]
    refine⟨rfl,?_⟩
    rw[pf hs hx c1,hzb,Bool.and_false,cond_false]
    have Q5:V (E.row H.next ⟨.ref h.next 0,0⟩) (dP H2 (.o 0 (oL++new))).next (.xo H2.next size 0 (Nat.add n m)) (.dV h.next 0 (n+m) size):=by
     refine .xo (id:=h.next) (Nat.lt_succ_self _) ?_
     show(if H2.next=H.next then _ else _:Kr).av=_
     rw[if_pos k.n]
    rcases d4 with⟨q1,q2,q3⟩|⟨r1',NL,NM,Tt,afn,y1,y2,y3,y4⟩
    ·subst q2;subst q3
     rw[fl q1]
     simp only[Nat.add_eq,Nat.zero_add]at r1 r2
     have hT:SR (E.row H.next ⟨.ref h.next 0,0⟩) (dP H2 (.o 0 ([]++new))) (dK h (uq cs))/\Nx E (E.row H.next ⟨.ref h.next 0,0⟩) H (dP H2 (.o 0 ([]++new))) h (dK h (uq cs)):=by
      refine jj S k.n k.sub (Nat.le_succ _) (fun i hi _=>by rw[fJ,if_neg (by omega)]) (fun i e=>by cases e;exact⟨Nat.lt_succ_self _,.inl (Nat.le_refl _)⟩) ?_ rfl
      exact⟨h.next,uq cs,rfl,by rw[fJ,if_pos rfl],by rw[hJ];exact c2,fun h=>(h rfl).elim⟩
     rw[Nat.zero_add]at Q5
     refine⟨_,_,_,?_,hT.2,hT.1,Q5⟩
     show(bif Nat.beq m 0 then Go.Ab.Ro.ok .eD h else bif Nat.ble (Nat.mul m bytes) 70368744177664&&(fB dU cs&&(Nat.beq (len cs) (Nat.mul m size)&&Nat.ble m 70368744177664))then .ok (.dV h.next 0 m size) (dK h (uq cs))else .bad)=_
     rw[Wj,CG,Ts,show Nat.ble (Nat.mul m bytes) 70368744177664=true from by rw[Nat.ble_eq];exact r1,show Nat.ble m 70368744177664=true from by rw[Nat.ble_eq];exact r2]
     rfl
    ·have BH:NL=size:=by have q:=beq_true hb.1;rw[y1]at q;exact q
     subst BH
     subst y2
     obtain⟨p,p1,p2⟩:=Jl y4
     obtain⟨r,o,no,er⟩:=k.id Tt rfl
     have hT:SR (E.row H.next ⟨.ref h.next 0,0⟩) (dP H2 (.o 0 (oL++new))) (dK (gY h Tt none) (p.app cs))/\Nx E (E.row H.next ⟨.ref h.next 0,0⟩) H (dP H2 (.o 0 (oL++new))) h (dK (gY h Tt none) (p.app cs)):=by
      refine jj S k.n k.sub (Nat.le_succ _) (fun i hi q=>?_) (fun i e=>by cases e;exact⟨Nat.lt_succ_self _,.inl (Nat.le_refl _)⟩) ?_ rfl
      ·rw[fJ,if_neg (by show ¬ i=h.next;omega),iX,if_neg]
       intro ei
       exact q r o no (by rw[ei];exact er)
      ·refine⟨h.next,p.app cs,rfl,by rw[fJ];exact if_pos rfl,?_,fun h=>(h rfl).elim⟩
       rw[qV,p2]
       change dZ h (.dV Tt NM n NL)=some (n,ds)at d1
       have:ds=ds:=rfl
       exact d2.app c2
     refine⟨_,_,_,?_,hT.2,hT.1,Q5⟩
     show(bif Nat.beq m 0 then Go.Ab.Ro.ok (.dV Tt NM n NL) h else match h.aU.get Tt with
      |none=>.bad
      |some cs'=>match cs'.sub NM (Nat.mul n NL)with
       |none=>.bad
       |some pre=>bif Nat.ble (Nat.mul (Nat.add n m) bytes) 70368744177664&&(Nat.beq NL NL&&(fB dU cs&&(Nat.beq (len cs) (Nat.mul m NL)&&Nat.ble (Nat.add n m) 70368744177664)))then
        .ok (.dV h.next 0 (Nat.add n m) NL) (dK (gY h Tt none) (pre.app cs))else .bad)=_
     have p1':afn.sub NM (Nat.mul n NL)=some p:=p1
     rw[Wj]
     simp only[cond_false,y3,p1']
     rw[CG,Ts,Nat.beq_refl,show Nat.ble (Nat.mul (Nat.add n m) bytes) 70368744177664=true from by rw[Nat.ble_eq];exact r1,show Nat.ble (Nat.add n m) 70368744177664=true from by rw[Nat.ble_eq];exact r2]
     rfl
   ·cases e
  ·split at e
   ·exact typed e
   ·cases e
 ·split at e
  ·exact typed e
  ·cases e
end Lf
end Go.Ab

noncomputable section
namespace Go.Ab
namespace Lf
theorem Jo{E:En}{H:Hq}{h:Hp}(S:SR E H h){r:Nat}{R R':Row}(hr:H.aU.get r=some R)(lv:R.live=true)(hR:RV E H.next h (E.K r) R'):SR E (iD H r (some R')) h/\Nx E E H (iD H r (some R')) h h:=by
 have ow: ∀ q,own (iD H r (some R')) q->own H q:=by
  rintro q ⟨Q,a,b⟩
  rw[eW]at a
  split at a
  ·rename_i e;rw[e];exact⟨R,hr,lv⟩
  ·exact⟨Q,a,b⟩
 refine⟨⟨?_,?_,?_,?_⟩,⟨uF.refl _ _,Nat.le_refl _,Nat.le_refl _,fun q id o e=>.inl ⟨q,ow q o,e⟩,fun _ _ e=>.inl e,fun _ _ _=>rfl⟩⟩
 ·intro q Q hq
  rw[eW]at hq
  split at hq
  ·rename_i e;subst e;cases hq;exact⟨(S.row _ _ hr).1,hR⟩
  ·exact S.row _ _ hq
 ·exact fun a b i oa ob ea eb=>S.inj a b i (ow a oa) (ow b ob) ea eb
 ·exact fun a i oa ea=>S.lt a i (ow a oa) ea
 ·intro i row e
  obtain⟨a,b,c⟩:=S.g i row e
  exact⟨a,b,fun q oq=>c q (ow q oq)⟩
theorem Jp{G:Nat->Option Rw}{t:Ty}{x y:List (den t)}{ls cs:List AV}(e:jH (EV G t) x ls)(k:jH (EV G t) y cs)(off:Nat):jH (EV G t) (x.take off++(y++x.drop (off+y.length))) (ls.take (off*size t)++(cs++ls.drop (off*size t+y.length*size t))):=by
 have h1:=e.take (EV.length t) off
 have h2:=e.drop (EV.length t) (off+y.length)
 rw[Nat.add_mul]at h2
 exact h1.app (k.app h2)
theorem F9{size:Nat}{d s:Od}{t:Tm}{h:Hp}{b:AV}{m:Nat}{cs:List AV}(h1:cf d t=some .eD)(h2:cf s t=some b)(h3:dZ h b=some (m,cs)):jL size (cf d) (cf s) t h=.ok (.int .i64 (.ofNat 0)) h:=by
 unfold jL
 rw[h1,h2]
 simp only[h3]
theorem NN{size:Nat}{d s:Od}{t:Tm}{h:Hp}{b:AV}{m id off n sz:Nat}{cs:List AV}(h1:cf d t=some (.dV id off n sz))(h2:cf s t=some b)(h3:dZ h b=some (m,cs))(h0:min m n=0):jL size (cf d) (cf s) t h=.ok (.int .i64 (.ofNat 0)) h:=by
 unfold jL
 rw[h1,h2]
 simp only[h3,qW,h0]
 rfl
theorem NO{size:Nat}{d s:Od}{t:Tm}{h:Hp}{b:AV}{m id off n sz:Nat}{cs:List AV}{row:Rw}(h1:cf d t=some (.dV id off n sz))(h2:cf s t=some b)(h3:dZ h b=some (m,cs))(h0:min m n≠0)(hr:h.aU.get id=some row)(hz:0<size)(hs:sz=size)
 (hl:cs.length=m*size)(hc: ∀ a,a∈cs->dU a=true)(hn:off+min m n*size<=row.n):jL size (cf d) (cf s) t h=.ok (.int .i64 (.ofNat (min m n))) (gY h id (some (row.put off (cs.take (min m n*size))))):=by
 unfold jL
 rw[h1,h2]
 have hb:Nat.beq (min m n) 0=false:=by
  cases q:Nat.beq (min m n) 0 with
  |false=>rfl
  |true=>exact(h0 (Nat.eq_of_beq_eq_true q)).elim
 have q:((Nat.blt 0 size&&(Nat.beq sz size&&(Nat.beq (len cs) (Nat.mul m size)&&fB Go.Ab.dU cs)))&&Nat.ble (Nat.add off (Nat.mul (min m n) size)) row.n)=true:=by
  have a1:Nat.blt 0 size=true:=by simpa using hz
  have a2:Nat.beq sz size=true:=by rw[hs];exact Nat.beq_refl _
  have a3:Nat.beq (len cs) (Nat.mul m size)=true:=by rw[cF,hl];exact Nat.beq_refl _
  have a4:fB Go.Ab.dU cs=true:=by rw[hI,List.all_eq_true];exact hc
  have a5:Nat.ble (Nat.add off (Nat.mul (min m n) size)) row.n=true:=by rw[Nat.ble_eq];exact hn
  rw[a1,a2,a3,a4,a5]
  rfl
 simp only[h3,qW,hb,cond_false,hr,q,cond_true,oP]
 rfl
theorem D2{row:Rw}{ls new:List AV}{base k o:Nat}(s:row.jd base k=some ls)(hk:ls.length=k)(ho:o+new.length<=k):(row.put (base+o) new).jd base k=some (ls.take o++(new++ls.drop (o+new.length))):=by
 obtain⟨s1,s2⟩:=ek.1 s
 have hn:base+o+new.length<=row.n:=by omega
 refine ek.2 ⟨by show base+k<=row.n;exact s1,?_⟩
 have oD:row.toL=row.toL.take base++(ls++row.toL.drop (base+k)):=by
  rw[s2,<-List.drop_drop,List.take_append_drop,List.take_append_drop]
 have B3:(row.toL.take base).length=base:=by rw[List.length_take,eM];omega
 have e1:=uG ls (row.toL.drop (base+k)) new o (by omega) (row.toL.take base)
 rw[<-oD,B3]at e1
 rw[pL hn,e1,List.drop_append_of_le_length (by rw[B3];exact Nat.le_refl _)]
 rw[show List.drop base (row.toL.take base)=[]from by rw[List.drop_eq_nil_iff,B3];exact Nat.le_refl _,List.nil_append]
 rw[List.take_append_of_le_length (by rw[uH _ _ _ (by omega)];omega)]
 rw[show List.take k (put ls o new)=put ls o new from by rw[List.take_of_length_le];rw[uH _ _ _ (by omega)];omega]
 rw[put_eq]
theorem Jq{t:Ty}{v:Sv}{a:AV}{x:List (den t)}{E:En}{H H1:Hq}{h:Hp}(S:SR E H h)(hv:V E H.next v a)(e:IZ t v H=some (x,H1)): ∃ E1,Fz E E1 H H1 h/\ ∃ cs,dZ h (sy a)=some (x.length,cs)/\jH (EV E1.G t) x cs:=by
 unfold IZ at e
 split at e
 ·rename_i r hr
  cases e
  obtain⟨E1,F,D⟩:=uI S hv hr
  refine⟨E1,F,?_⟩
  rcases D with⟨d1,rfl⟩|⟨id,base,row,ls,d1,d2,d3,d4⟩
  ·exact⟨[],by rw[fl d1];rfl,rfl⟩
  ·refine⟨ls,?_,d4⟩
   rw[d1]
   show(match h.aU.get id with|some cs=>(match cs.jd base (Nat.mul x.length (size t))with|some l=>some (x.length,l)|none=>none)|none=>none)=_
   rw[d2]
   have s':row.jd base (Nat.mul x.length (size t))=some ls:=d3
   simp only[s']
 ·obtain⟨E1,F,kc⟩:=CF S hv e
  obtain⟨cs,c1,c2⟩:=xC F.S kc
  exact⟨E1,F,cs,c1,c2⟩
theorem Jr{size:Nat}{d s:Od}{r sz off n:Nat}{sv v:Sv}{E:En}{T T':Tq}{t:Tm}{H H':Hq}{h:Hp}{b c:AV}(hT:TV E H.next T t)(S:SR E H h)(hs:cf s t=some (sy b))(GG:V E H.next sv b)(hd:cf d t=some (sy c))
 (hk:(n=0/\dH c=true)∨ ∃ id base,(E.K r).av=.dV id base (E.K r).n sz/\c=.dV id (base+off*sz) n sz/\off+n<=(E.K r).n)(e:(Ni size sv r sz off n T H).val=some (v,T',H')):
 ∃ a h' E',Ev (fun _ _=>jL size (cf d) (cf s) t h) (.ok a h')/\Nx E E' H H' h h'/\SR E' H' h'/\V E' H'.next v a/\TV E' H'.next T' t:=by
 unfold Ni at e
 split at e
 ·rename_i ty x hr
  obtain⟨hb,e⟩:=eO e
  rw[Bool.and_eq_true,Bool.and_eq_true]at hb
  obtain⟨b0,b1,b2⟩:=hb
  have b0:0<size:=by simpa using b0
  have b1:=beq_true b1
  have b2:=beq_true b2
  split at e
  ·rename_i y H1 hy
   split at e
   ·rename_i t2 x2 Wh
    obtain⟨rfl,rfl,rfl⟩:=bA e
    obtain⟨E1,F,cs,c1,c2⟩:=Jq S GG hy
    have q:=(S.row _ _ hr).2
    have fF:cs.length=y.length*size:=by rw[c2.length (EV.length ty),b2]
    have lrm:LR E1.G ty x (E1.K r) h.aU.get:=by rw[F.K];exact LR.mono F.g (fun _ _ _ e=>e) q
    rw[dn,dn]
    by_cases h0:min y.length n=0
    ·have wG:x.take off++(y.take (min y.length n)++x.drop (Nat.add off (min y.length n)))=x:=by
      rw[h0,List.take_zero,List.nil_append]
      exact List.take_append_drop _ _
     rw[wG]
     obtain⟨S1,X1⟩:=Jo F.S Wh rfl (R':=.l ty x) lrm
     refine⟨.int .i64 (.ofNat 0),h,E1,?_,F.X.trans X1,S1,?_,hT.mono (F.X.trans X1).e (F.X.trans X1).le⟩
     ·rcases hk with⟨hn,hc⟩|⟨id,base,k1,k2,k3⟩
      ·exact Ev.const (F9 (by rw[hd,fl hc]) hs c1)
      ·exact Ev.const (NN (by rw[hd,k2];rfl) hs c1 h0)
     ·rw[h0];exact fI
    ·rcases hk with⟨hn,hc⟩|⟨id,base,k1,k2,k3⟩
     ·subst hn;rw[Nat.min_zero]at h0;exact(h0 rfl).elim
     ·rcases lrm.2 with⟨k,_⟩|⟨sE,Jc,row,ls,p1,p2,p3,p4⟩
      ·rw[F.K,k1]at k;cases k
      ·rw[F.K,k1]at p1
       injection p1 with a1 a2 a3 a4
       subst a1;subst a2
       have hxn:x.length=(E.K r).n:=q.1
       have To:ls.length=(E1.K r).n*size:=by rw[p4.length (EV.length ty),F.K,hxn,b2]
       obtain⟨w,hw⟩: ∃ w,w=min y.length n:=⟨_,rfl⟩
       have hwn:w<=n:=by rw[hw];exact Nat.min_le_right _ _
       have hwy:w<=y.length:=by rw[hw];exact Nat.min_le_left _ _
       have XL:(y.take w).length=w:=by rw[List.length_take];exact Nat.min_eq_left hwy
       have hcw:(cs.take (w*size)).length=w*size:=by
        rw[List.length_take,fF];exact Nat.min_eq_left (Nat.mul_le_mul_right _ hwy)
       have hm:off*size+w*size<=(E.K r).n*size:=by rw[<-Nat.add_mul];exact Nat.mul_le_mul_right _ (by omega)
       have p3':row.jd base ((E1.K r).n*size)=some ls:=by rw[b2];exact p3
       obtain⟨s1,_⟩:=ek.1 p3'
       rw[F.K]at s1
       have ps:=D2 (o:=off*size) (new:=cs.take (w*size)) p3' To (by rw[hcw,F.K];exact hm)
       have he:=Jp p4 (by have:=c2.take (EV.length ty) w;rw[<-b2]at this;exact this) off
       rw[XL,<-b2]at he
       rw[hcw]at ps
       have gK:jN (E1.K r).av=some id:=by rw[F.K,k1];rfl
       have hR:RV E1 H1.next (gY h id (some (row.put (base+off*size) (cs.take (w*size))))) (E1.K r) (.l ty (x.take off++(y.take w++x.drop (off+w)))):=by
        refine⟨?_,.inr ⟨id,base,_,_,by rw[F.K,k1,b1,b2],by rw[iX,if_pos rfl],by rw[<-b2];exact ps,he⟩⟩
        rw[F.K,<-hxn,List.length_append,List.length_append,List.length_take,XL,List.length_drop]
        omega
       obtain⟨S1,X1⟩:=yO F.S Wh rfl rfl gK hR
       rw[<-hw]
       refine⟨.int .i64 (.ofNat w),_,E1,Ev.const ?_,F.X.trans X1,S1,fI,hT.mono (F.X.trans X1).e (F.X.trans X1).le⟩
       have:=NO (size:=size) (by rw[hd,k2];rfl) hs c1 h0 p2 b0 b1 fF (jH.dU (EV.dU ty) c2) (by rw[b1,<-hw];omega)
       rw[b1,<-hw]at this
       exact this
   ·cases e
  ·cases e
 ·cases e
theorem Js(size:Nat)(d s:Od):eT (I0 size d s) (fun _ _=>jL size (cf d) (cf s)):=by
 intro E T t H h v T' H' hT hH e
 unfold I0 at e
 split at e
 ·rename_i sv hs
  obtain⟨b,hb,GH⟩:=mP hT hs
  split at e
  ·rename_i r sz hd
   obtain⟨c,hc,fL⟩:=mP hT hd
   split at e
   ·rename_i ty x hr
    refine Jr hT hH hb GH hc ?_ e
    have q:=(hH.row _ _ hr).2
    cases fL with
    |os h1 h2=>
     rcases h2 with⟨h2,h3⟩|⟨id,base,h2⟩
     ·exact .inl ⟨by have:=q.1;omega,h2⟩
     ·exact .inr ⟨id,base,h2,by rw[h2,q.1,Nat.zero_mul,Nat.add_zero],by have:=q.1;omega⟩
   ·cases e
  ·rename_i r sz off n hd
   obtain⟨c,hc,fL⟩:=mP hT hd
   refine Jr hT hH hb GH hc ?_ e
   cases fL with
   |se h1 h2 h3 h4=>exact .inl ⟨rfl,h2⟩
   |ss h1 h2 h3=>exact .inr ⟨_,_,h2,rfl,h3⟩
  ·cases e
 ·cases e
end Lf
end Go.Ab

noncomputable section
namespace Go.Ab
namespace Lf
theorem CM(size bytes:Nat)(s x:Od):eT (yG size bytes s x) (fun _ _=>aQ size bytes (cf s) (cf x)):=by
 intro E T t H h v T' H' hT hH e
 unfold yG at e
 split at e
 ·rename_i sv hs
  split at e
  ·rename_i xv hx
   obtain⟨a,ha,vM⟩:=bX hT hs
   obtain⟨b,hb,GH⟩:=bX hT hx
   obtain⟨rfl,c,h',E',e1,X,S',nF⟩:=Jn hH ha vM hb GH e
   exact⟨c,h',E',Ev.const e1,X,S',nF,hT.mono X.e X.le⟩
  ·cases e
 ·cases e
theorem Tu:SR ⟨fun _=>⟨.any,0⟩,fun _=>.any,fun _=>none,fun _=>.any⟩ ⟨0,.nil⟩ ⟨0,.nil⟩:=
 ⟨(fun _ _ e=>by cases e),(fun _ _ _ o=>by obtain⟨_,e,_⟩:=o;cases e),(fun _ _ o=>by obtain⟨_,e,_⟩:=o;cases e),(fun _ _ e=>by cases e)⟩
theorem AB{z:List AV}{t:Ty}{x:den t}(e:DO z=some ⟨t,x⟩)(G:Nat->Option Rw):EV G t x z:=by
 unfold DO at e
 split at e
 ·rename_i t' ht
  split at e
  ·rename_i l hl
   split at e
   ·rename_i y q hy
    cases e
    obtain⟨E',c,d,F,XJ,hev,hd⟩:=qG t _ _ _ l [] z x q Tu (rF hl) hy
    have:d=[]:=by cases hd;rfl
    rw[this,List.append_nil]at XJ
    rw[XJ]
    refine EV.mono (fun id row k=>?_) _ _ _ hev
    have:=(F.S.g id row k).1
    exact absurd this (Nat.not_lt_zero _)
   ·cases e
  ·cases e
 ·cases e
theorem yQ{G:Nat->Option Rw}{t:Ty}{x:den t}{z:List AV}(h:EV G t x z): ∀ n,jH (EV G t) (List.replicate n x) (fE n z)
 |0=>rfl
 |n+1=>by
  rw[List.replicate_succ]
  show jH _ _ (app z (fE n z))
  rw[dn]
  exact⟨z,_,rfl,h,yQ h n⟩
theorem Jt(size bytes:Nat)(z:List AV)(s x:Od):eT (IW size bytes z s x) (fun _ _=>n9 size bytes z (cf s) (cf x)):=by
 intro E T t H h v T' H' hT hH e
 unfold IW at e
 split at e
 ·rename_i sv hs
  split at e
  ·rename_i xv hx
   split at e
   ·rename_i k n hn
    obtain⟨_,e⟩:=eO e
    split at e
    ·rename_i ty y hz
     obtain⟨hb,e⟩:=eO e
     obtain⟨h0,e⟩:=Lf.T.dj e
     rw[Bool.and_eq_true]at hb
     have hb1:=beq_true hb.1
     obtain⟨a,ha,vM⟩:=bX hT hs
     obtain⟨b,BD,GH⟩:=bX hT hx
     have:=gP GH hn;subst this
     obtain⟨j,rfl⟩:=Int.eq_ofNat_of_zero_le (by simpa using h0)
     have hy:=yQ (AB hz E.G) (j:Int).toNat
     obtain⟨rfl,c,h',E',e1,X,S',nF⟩:=CL hH vM hy (z:=Nat.beq j 0) (fun q=>by have:=beq_true q;subst this;rfl) e
     refine⟨c,h',E',Ev.const ?_,X,S',nF,hT.mono X.e X.le⟩
     unfold n9
     rw[ha,BD]
     rw[List.length_replicate]at e1
     show(bif qu a&&Nat.beq j 0 then Go.Ab.Ro.ok a h else qT size bytes h (sy a) j (fE j z))=_
     rw[hb1];exact e1
    ·cases e
   ·cases e
  ·cases e
 ·cases e
theorem s8(G:Nat->Option Rw): ∀ (l:List UInt8),jH (EV G (.int .u8)) (l.map fun b=>Int.ofNat b.toNat) (l.map fun b=>AV.int .u8 (.ofNat b.toNat))
 | []=>rfl
 |b::l=>⟨[_],_,rfl,rfl,s8 G l⟩
theorem Ju(bytes:Nat)(s x:Od):eT (IX bytes s x) (fun _ _=>qU bytes (cf s) (cf x)):=by
 intro E T t H h v T' H' hT hH e
 unfold IX at e
 split at e
 ·rename_i sv hs
  split at e
  ·rename_i xv hx
   split at e
   ·rename_i k y hn
    obtain⟨_,e⟩:=eO e
    obtain⟨a,ha,vM⟩:=bX hT hs
    obtain⟨b,BD,GH⟩:=bX hT hx
    have:=ov GH hn;subst this
    have hl:y.data.toList.length=y.size:=Array.length_toList
    obtain⟨rfl,c,h',E',e1,X,S',nF⟩:=CL hH vM (s8 E.G y.data.toList) (z:=Nat.beq y.size 0) (fun q=>by have:=beq_true q;rw[<-hl]at this;rw[List.eq_nil_of_length_eq_zero this];rfl) e
    refine⟨c,h',E',Ev.const ?_,X,S',nF,hT.mono X.e X.le⟩
    unfold qU
    rw[ha,BD]
    rw[List.length_map,hl]at e1
    exact e1
   ·cases e
  ·cases e
 ·cases e
theorem Ga(x:Od):eT (Cz x) (fun _ _=>nH (cf x)):=by
 intro E T t H h v T' H' hT hH e
 unfold Cz at e
 split at e
 ·rename_i xv hx
  split at e
  ·rename_i k y hn
   obtain⟨rfl,rfl,rfl⟩:=bA e
   obtain⟨b,BD,GH⟩:=bX hT hx
   have:=ov GH hn;subst this
   have hl:y.data.toList.length=y.size:=Array.length_toList
   obtain⟨S,X⟩:=Q1 hH (t:=.int .u8) (rw:=uq (y.data.toList.map fun b=>AV.int .u8 (.ofNat b.toNat))) (by rw[hJ];exact s8 E.G y.data.toList)
   refine⟨.dV h.next 0 y.size 1,_,_,Ev.const ?_,X,S,?_,hT.mono X.e X.le⟩
   ·unfold nH
    rw[BD]
   ·have hv:=V.os (E:=E.row H.next ⟨.dV h.next 0 (y.data.toList.map fun b=>Int.ofNat b.toNat).length (Lf.size (.int .u8)),(y.data.toList.map fun b=>Int.ofNat b.toNat).length⟩) (N:=(dP H (.l (.int .u8) (y.data.toList.map fun b=>Int.ofNat b.toNat))).next) (r:=H.next) (sz:=1) (Nat.lt_succ_self _) (.inr ⟨h.next,0,by show(if H.next=H.next then _ else _:Kr).av=AV.dV _ _ (if H.next=H.next then _ else _:Kr).n _;rw[if_pos rfl];rfl⟩)
    have e2:((E.row H.next ⟨.dV h.next 0 (y.data.toList.map fun b=>Int.ofNat b.toNat).length (Lf.size (.int .u8)),(y.data.toList.map fun b=>Int.ofNat b.toNat).length⟩).K H.next).av=.dV h.next 0 y.size 1:=by
     show(if H.next=H.next then _ else _:Kr).av=_
     rw[if_pos rfl]
     show AV.dV _ _ _ _=_
     rw[List.length_map,hl];rfl
    rw[e2]at hv
    exact hv
  ·cases e
 ·cases e
theorem NP{T:Tq}{l c:Od}{lv cv:Sv}{k k':IntKind}{m n:Int}(h:FV l c=true)(h1:jG l T=some lv)(h2:jG c T=some cv)(e1:toN lv=some (k,m))(e2:toN cv=some (k',n)):m=n:=by
 unfold FV at h
 split at h
 ·have:=beq_true h;subst this
  rw[h1]at h2;cases h2
  rw[e1]at e2;cases e2;rfl
 ·cases h1;cases h2;cases e1;cases e2
  exact gx.1 h
 ·cases h
theorem Jv(size bytes:Nat)(z:List AV)(l c:Od):eT (IY size bytes z l c) (fun _ _=>lO size bytes z (cf l) (cf c)):=by
 intro E T t H h v T' H' hT hH e
 unfold IY at e
 split at e
 ·rename_i lv hl
  split at e
  ·rename_i cv hc
   split at e
   ·rename_i k l' hln
    split at e
    ·rename_i k' c' hcn
     split at e
     ·rename_i ty y hz
      obtain⟨hb,e⟩:=eO e
      obtain⟨h0,e⟩:=Lf.T.dj e
      obtain⟨rfl,rfl,rfl⟩:=bA e
      rw[Bool.and_eq_true]at hb
      have hb1:=beq_true hb.1
      simp only[Bool.and_eq_true,decide_eq_true_eq]at h0
      obtain⟨⟨h1,h2⟩,h3⟩:=h0
      obtain⟨a,ha,vM⟩:=bX hT hl
      obtain⟨b,BD,GH⟩:=bX hT hc
      have:=gP vM hln;subst this
      have:=gP GH hcn;subst this
      have heq:FV l c=true->l'=c':=fun q=>NP q hl hc hln hcn
      obtain⟨m,rfl⟩:=Int.eq_ofNat_of_zero_le h1
      obtain⟨n,rfl⟩:=Int.eq_ofNat_of_zero_le (Int.le_trans h1 h2)
      have hmn:m<=n:=by omega
      have h3:n*bytes<=70368744177664:=h3
      have hk:lO size bytes z (cf l) (cf c) t h=bif Nat.beq n 0 then .ok .mI h else .ok (.dV h.next 0 m size) (dK h ⟨Nat.mul n (len z),z,.nil⟩):=by
       unfold lO
       rw[ha,BD]
       show(bif Nat.ble m n&&Nat.ble (Nat.mul n bytes) 70368744177664 then(bif Nat.beq n 0 then Go.Ab.Ro.ok .mI h else .ok (.dV h.next 0 m size) (dK h ⟨Nat.mul n (len z),z,.nil⟩))else .bad)=_
       rw[show Nat.ble m n=true from by rw[Nat.ble_eq];exact hmn,show Nat.ble (Nat.mul n bytes) 70368744177664=true from by rw[Nat.ble_eq];exact h3]
       rfl
      have afr:=yQ (AB hz E.G) n
      simp only[Int.toNat_natCast]
      cases hn:Nat.beq n 0 with
      |true=>
       have QF:=beq_true hn
       subst QF
       have Wl:m=0:=by omega
       subst Wl
       rw[hn]at hk
       have LI:SR (E.row H.next ⟨.mI,0⟩) (dP H (.l ty (List.replicate 0 y))) h/\Nx E (E.row H.next ⟨.mI,0⟩) H (dP H (.l ty (List.replicate 0 y))) h h:=
        jj hH rfl (fun _ _ e=>e) (Nat.le_refl _) (fun _ _ _=>rfl) (fun _ e=>by cases e) ⟨rfl,.inl ⟨rfl,rfl⟩⟩ rfl
       refine⟨.mI,h,_,Ev.const hk,LI.2,LI.1,?_,hT.mono LI.2.e LI.2.le⟩
       have K0:(E.row H.next ⟨.mI,0⟩).K H.next=⟨.mI,0⟩:=if_pos rfl
       cases hq:FV l c with
       |true=>
        have:=V.os (E:=E.row H.next ⟨.mI,0⟩) (N:=(dP H (.l ty (List.replicate 0 y))).next) (r:=H.next) (sz:=size) (Nat.lt_succ_self _) (.inl (by rw[K0];exact⟨rfl,rfl⟩))
        rw[K0]at this;exact this
       |false=>
        have:=V.se (E:=E.row H.next ⟨.mI,0⟩) (N:=(dP H (.l ty (List.replicate 0 y))).next) (r:=H.next) (sz:=size) (off:=0) (Nat.lt_succ_self _) (by rw[K0];rfl) (by rw[K0]) rfl
        rw[K0]at this;exact this
      |false=>
       rw[hn]at hk
       obtain⟨S,X⟩:=Q1 hH (t:=ty) (x:=List.replicate n y) (rw:=⟨Nat.mul n (len z),z,.nil⟩) (by rw[Dj];exact afr)
       refine⟨_,_,_,Ev.const hk,X,S,?_,hT.mono X.e X.le⟩
       have K0:(E.row H.next ⟨.dV h.next 0 (List.replicate n y).length (Lf.size ty),(List.replicate n y).length⟩).K H.next=⟨.dV h.next 0 n size,n⟩:=by
        show(if H.next=H.next then _ else _)=_
        rw[if_pos rfl,List.length_replicate,hb1]
       cases hq:FV l c with
       |true=>
        have afs:m=n:=by have:=heq hq;omega
        subst afs
        have:=V.os (E:=E.row H.next ⟨.dV h.next 0 (List.replicate m y).length (Lf.size ty),(List.replicate m y).length⟩) (N:=(dP H (.l ty (List.replicate m y))).next) (r:=H.next) (sz:=size) (Nat.lt_succ_self _) (.inr (by rw[K0];exact⟨_,_,rfl⟩))
        rw[K0]at this;exact this
       |false=>
        have:=V.ss (E:=E.row H.next ⟨.dV h.next 0 (List.replicate n y).length (Lf.size ty),(List.replicate n y).length⟩) (N:=(dP H (.l ty (List.replicate n y))).next) (r:=H.next) (sz:=size) (off:=0) (n:=m) (id:=h.next) (base:=0) (Nat.lt_succ_self _) (by rw[K0]) (by rw[K0];show 0+m<=n;omega)
        rw[Nat.zero_mul]at this;exact this
     ·cases e
    ·cases e
   ·cases e
  ·cases e
 ·cases e
def qI(call:fP)(aR:bb):Prop:= ∀ (E:En) (f:FuncId) (args:List Sv) (as:List AV) (H:Hq) (h:Hp) (v:Sv) (H':Hq),Vs E H.next args as->SR E H h->(call f args H).val=some (v,H')->
 ∃ c h' E',Ev (fun n d=>aR n d f as h) (.ok c h')/\Nx E E' H H' h h'/\SR E' H' h'/\V E' H'.next v c
section
variable {call:fP}{aR:bb}(C:qI call aR)
include C
theorem Jw(f:FuncId)(args:List Od):eT (I1 call f args) (fun n d=>aj (aR n d) f (args.map cf)):=by
 intro E T t H h v T' H' hT hH e
 unfold I1 at e
 split at e
 ·rename_i vs hv
  obtain⟨p,e1,e2⟩:=Lf.T.dQ e
  obtain⟨rfl,rfl,rfl⟩:=bA e2
  obtain⟨cs,hc,fL⟩:=yJ hT hv
  obtain⟨c,h',E',k,X,S,w⟩:=C E f vs cs H h p.1 p.2 fL hH e1
  refine⟨c,h',E',?_,X,S,w,hT.mono X.e X.le⟩
  unfold aj
  simp only[hc]
  exact k
 ·cases e
theorem Gb(f:Od)(args:List Od):eT (CB call f args) (fun n d=>gH (aR n d) (cf f) (args.map cf)):=by
 intro E T t H h v T' H' hT hH e
 unfold CB at e
 split at e
 ·rename_i g cap hg
  split at e
  ·rename_i vs hv
   obtain⟨p,e1,e2⟩:=Lf.T.dQ e
   obtain⟨rfl,rfl,rfl⟩:=bA e2
   obtain⟨a,ha,vM⟩:=bX hT hg
   obtain⟨cs,hc,fL⟩:=yJ hT hv
   cases vM with
   |fn q8=>
    rename_i l'
    rw[dn]at e1
    obtain⟨c,h',E',k,X,S,w⟩:=C E g _ _ H h p.1 p.2 (fL.app q8) hH e1
    refine⟨c,h',E',?_,X,S,w,hT.mono X.e X.le⟩
    unfold gH
    simp only[ha,hc,dn]
    exact k
  ·cases e
 ·cases e
omit C in
theorem Jx{h:Hp}: ∀ (l:List Sv) (cs:List AV) (E:En) (H:Hq),SR E H h->Vs E H.next l cs->
 ∃ E',Nx E E' H ⟨(ji l H.next).2,H.aU⟩ h h/\SR E' ⟨(ji l H.next).2,H.aU⟩ h/\Vs E' (ji l H.next).2 (ji l H.next).1 cs:=by
 intro l
 induction l with
 |nil=>intro cs E H S v;exact⟨E,Nx.refl _ _ _,S,v⟩
 |cons a l ih=>
  intro cs E H S v
  have plain: ∀ (c:AV) (cs':List AV),cs=c::cs'->V E H.next a c->Vs E H.next l cs'-> ∃ E',Nx E E' H ⟨(ji l H.next).2,H.aU⟩ h h/\SR E' ⟨(ji l H.next).2,H.aU⟩ h/\Vs E' (ji l H.next).2 (a::(ji l H.next).1) cs:=by
   rintro c cs' rfl va vl
   obtain⟨E',n1,s1,v1⟩:=ih cs' E H S vl
   exact⟨E',n1,s1,.cons (va.mono n1.e n1.le) v1⟩
  cases v with
  |cons va vl=>
   rename_i c cs'
   cases a with
   |c m t x=>
    cases t with
    |aC t=>
     cases hm:Nat.beq m 0 with
     |false=>
      have e:ji (.c m (.aC t) x::l) H.next=(.c m (.aC t) x::(ji l H.next).1,(ji l H.next).2):=by
       show(bif Nat.beq m 0 then _ else _)=_
       rw[hm];rfl
      rw[e]
      exact plain c cs' rfl va vl
     |true=>
      have e:ji (.c m (.aC t) x::l) H.next=(.c H.next (.aC t) x::(ji l (Nat.add H.next 1)).1,(ji l (Nat.add H.next 1)).2):=by
       show(bif Nat.beq m 0 then _ else _)=_
       rw[hm];rfl
      rw[e]
      let E1:En:=⟨E.K,fun r=>if r=H.next then c else E.tk r,E.G,E.A⟩
      let H1:Hq:=⟨Nat.add H.next 1,H.aU⟩
      have el:uF E E1 H.next:=⟨fun _ _=>rfl,fun r hr=>if_neg (Nat.ne_of_lt hr),fun _ _ e=>e,rfl⟩
      have hle:H.next<=H1.next:=Nat.le_add_right _ 1
      have n0:Nx E E1 H H1 h h:=⟨el,hle,Nat.le_refl _,fun r _ a b=>.inl ⟨r,a,b⟩,fun _ _ a=>.inl a,fun _ _ _=>rfl⟩
      have s1:SR E1 H1 h:=⟨fun r R hr=>⟨Nat.lt_of_lt_of_le (S.row r R hr).1 hle,RV.mono el hle (fun _ _ _ _ k=>k) (S.row r R hr).2⟩,S.inj,S.lt,S.g⟩
      obtain⟨E',n1,s2,v1⟩:=ih cs' E1 H1 s1 (vl.mono el hle)
      refine⟨E',n0.trans n1,s2,.cons ?_ v1⟩
      cases va with
      |c k _=>
       refine .c (EV.mono (fun _ _ e=>n1.e.G _ _ e) _ _ _ k) fun _=>⟨Nat.lt_of_lt_of_le (Nat.lt_succ_self H.next) n1.le,?_⟩
       rw[n1.e.tk H.next (Nat.lt_succ_self H.next)]
       exact(if_pos rfl).symm
    | _=>exact plain c cs' rfl va vl
   | _=>exact plain c cs' rfl va vl
omit C in
theorem NQ(b:Od){f:eV}{g:XA}(k:eT f g):eT (Tb b f) g:=by
 intro E T t H h v T' H' hT hH e
 unfold Tb at e
 split at e
 ·rename_i i
  cases hi:Nat.blt i 512 with
  |false=>rw[hi]at e;exact k E T t H h v T' H' hT hH e
  |true=>
   rw[hi]at e
   simp only[cond_true]at e
   split at e
   ·rename_i l hl
    obtain⟨a,ha,vM⟩:=hT i _ (ct.1 hi) hl
    cases vM with
    |ag hl'=>
     rename_i l'
     obtain⟨E1,n1,s1,v1⟩:=Jx l l' E H hH hl'
     have qO:TV E1 (ji l H.next).2 (T.put i (some (.ag (ji l H.next).1))) t:=by
      have:=(hT.mono n1.e n1.le)
      intro j w hj hw
      rw[Tq.iM _ _ _ _ (ct.1 hi) hj]at hw
      split at hw
      ·rename_i e1
       subst e1
       cases hw
       exact⟨_,ha,.ag v1⟩
      ·exact this j w hj hw
     obtain⟨c,h',E',k1,k2,k3,k4,k5⟩:=k E1 _ t ⟨(ji l H.next).2,H.aU⟩ h v T' H' qO s1 e
     exact⟨c,h',E',k1,n1.trans k2,k3,k4,k5⟩
   ·exact k E T t H h v T' H' hT hH e
 ·exact k E T t H h v T' H' hT hH e
omit C in
theorem Jy(a:Od):eT (I2 a) (fun _ _=>qb (cf a)):=dC (by
 intro E T t H h v T' H' hT hH e
 unfold I2 at e
 split at e
 ·rename_i r sz hw
  split at e
  ·rename_i ty x hr
   obtain⟨c1,e⟩:=Lf.T.dj e
   obtain⟨rfl,rfl,rfl⟩:=bA e
   obtain⟨c,hc,fL⟩:=bX hT hw
   refine⟨rfl,rfl,c,?_,fL⟩
   have mW:Nat.beq x.length 0=false:=by cases q:Nat.beq x.length 0 with
    |true=>rw[q]at c1;cases c1
    |false=>rfl
   rcases Ax fL (hH.row _ _ hr).2 with⟨_,rfl⟩|⟨id,base,row,ls,rfl,_,_,k4,_⟩
   ·cases mW
   ·unfold qb
    rw[hc]
    simp only[mW,k4,cond_false]
  ·cases e
 ·rename_i r sz off n hw
  split at e
  ·rename_i g l hr
   cases hn:Nat.beq n 0 with
   |true=>rw[hn]at e;cases e
   |false=>
    rw[hn]at e
    obtain⟨rfl,rfl,rfl⟩:=bA e
    obtain⟨c,hc,fL⟩:=bX hT hw
    refine⟨rfl,rfl,c,?_,fL⟩
    obtain⟨id,row,k1,k2,_⟩:=(hH.row _ _ hr).2
    cases fL with
    |xo _ h2=>
     rw[k1]at h2
     cases h2
     unfold qb
     rw[hc]
     simp only[hn,k2,cond_false]
  ·cases e
 ·cases e)
omit C in
theorem NR:eT (fun t h=>okV (.a .any) t h) (fun _ _=>Go.Ab.E7):=by
 intro E T t H h v T' H' hT hH e
 obtain⟨rfl,rfl,rfl⟩:=bA e
 exact⟨.any,h,E,Ev.const rfl,Nx.refl _ _ _,hH,.a rfl,hT⟩
theorem NS(o:j5):eT (vE call o) (fun n d=>Cu (aR n d) o):=by
 cases o<;>first|exact Nl|skip
 case mv=>exact vI _
 case pk=>exact I' _ _ _
 case nw=>exact Np _
 case bx=>exact Nq _
 case bd=>exact F3 _ _
 case rw=>exact Ns _ _ _ _
 case ld=>exact Jk _ _ _
 case sto=>exact NQ _ (F5 _ _ _)
 case nl=>exact Nn _
 case bn=>exact Ny _ _ _
 case un=>exact Tl _ _
 case bys=>exact Ga _
 case fn=>exact Tg _ _
 case mk=>exact Jv _ _ _ _ _
 case slS=>exact CK _ _ _
 case slN=>exact CI _ _ _ _
 case slA=>exact CJ _ _ _ _ _
 case fa=>exact wR _ _
 case fd=>exact FZ _ _ _ _
 case ixS=>exact NG _ _ _
 case ixA=>exact NH _ _ _ _
 case ix=>exact F6 _ _ _ _ _
 case ixT=>exact CH _ _
 case ex=>exact Aw _ _
 case lnT=>exact Jh _
 case ln=>exact Nt _
 case ap=>exact CM _ _ _ _
 case apZ=>exact Jt _ _ _ _ _
 case apS=>exact Ju _ _ _
 case emp=>exact NI _ _ _
 case mrk=>exact Jy _
 case min=>exact NB _ _
 case max=>exact NC _ _
 case cap=>exact NJ _
 case map=>exact NR
 case cpy=>exact Js _ _ _
 case call=>exact Jw C _ _
 case callV=>exact Gb C _ _
end
end Lf
end Go.Ab
