import Derived.Test.YtcnkojgmochcgaaGreatDoorLfN
import Derived.Test.YtcnkojgmochcgaaGreatDoorVsL0
import Derived.Test.YtcnkojgmochcgaaGreatDoorVrC
import Derived.Test.YtcnkojgmochcgaaGreatDoorLfK
noncomputable section
namespace Go.Ab
open Go.Ab.Lf Go.Sort Go.Proofs
def rj:List AV->Option (List Int)
 | []=>some []
 |a::r=>match a,rj r with
  | .int .u64 x,some l=>some (x::l)
  | _,_=>none
theorem xe: ∀ {l:List AV} {d:List Int},rj l=some d->l=d.map (AV.int .u64)
 | [],d,h=>by cases h;rfl
 |a::r,d,h=>by
  unfold rj at h
  split at h
  ·rename_i x l h2
   cases h
   rw[xe h2]
   rfl
  ·cases h
theorem xf: ∀ (d:List Int),rj (d.map (AV.int .u64))=some d
 | []=>rfl
 |x::d=>by
  show(match AV.int .u64 x,rj (d.map (AV.int .u64))with| .int .u64 x,some l=>some (x::l)| _,_=>none)=_
  rw[xf d]
def fY(d:List Int)(i j:Nat):List Int:=d.take i++d.drop j++List.replicate (j - i) 0
def Ca(az:List AV)(h:Hp):Ro:=match az with
 | [.cR id off n 1,.int .i64 i,.int .i64 j]=>bif decide (n=0)then(bif decide (i=0)&&decide (j=0)then .ok (.cR id off n 1) h else .bad)else
  match h.aN.get id with
  |some row=>(match row.fy off n with
   |some ls=>(match rj ls with
    |some d=>bif decide (0<=i/\i<=j/\j<=(n:Int)/\n<=9223372036854775807)then .ok (.cR id off (n - (j.toNat - i.toNat)) 1) (eN h id (some (row.put off ((fY d i.toNat j.toNat).map (AV.int .u64)))))else .bad
    |none=>.bad)
   |none=>.bad)
  |none=>.bad
 | [a,.int .i64 i,.int .i64 j]=>bif cu a&&(decide (i=0)&&decide (j=0))then .ok a h else .bad
 | _=>.bad
def KJ(c:bP):bP:=fun f az h=>bif Nat.beq f 305 then Ca az h else c f az h
variable [Io]
theorem xg{g:G}{w:World}: ∀ {d:List Int} {us:List Value},bq g w (d.map (AV.int .u64)) us->us=d.map (Value.int .u64)
 | [],us,h=>by simpa[bq]using h
 |x::d,us,h=>by
  simp only[List.map_cons,bq,VR]at h
  obtain⟨v,l,rfl,rfl,h⟩:=h
  rw[xg h]
  rfl
theorem oW{g:G}{w:World}: ∀ (d:List Int),bq g w (d.map (AV.int .u64)) (d.map (Value.int .u64))
 | []=>by simp[bq]
 |x::d=>by
  simp only[List.map_cons,bq,VR]
  exact⟨_,_,rfl,rfl,oW d⟩
theorem Cb{g w h}(H:HR g w h)(q:Nat):Ext g w h g (Sort.ahead w q) h/\HR g (Sort.ahead w q) h:=by
 have E:Ext g w h g (Sort.ahead w q) h:=
  ⟨rfl,rfl,rfl,Nat.le_refl _,Nat.le_refl _,fun _ _ e=>e,fun _ _ _=>rfl,fun _=>Nat.le_refl _,fun _ i=>i,fun _ i=>.inl i,fun _ o=>.inl o⟩
 refine⟨E,H.fresh,?_,H.inj,H.cT,gz.ext H E⟩
 intro id cs e
 obtain⟨b,s,C,el,vs,hm,hw,hi,hv,hc⟩:=H.aN id cs e
 exact⟨b,s,C,el,vs,hm,hw,hi,bq.mono H E _ _ hv,hc⟩
omit [Io] in
theorem xh{α:Type}[Inhabited α](enc:α->Value)(o:Nat)(d:List α)(C:Array Value)(h:o+d.length<=C.size):
 putCells enc o d.toArray C=(C.toList.take o++d.map enc++C.toList.drop (o+(d.map enc).length)).toArray:=by
 apply Array.ext_getElem?
 intro k
 have l1:(C.toList.take o).length=o:=by simp;omega
 simp only[putCells,Array.getElem?_mapIdx,List.getElem?_toArray,List.size_toArray]
 by_cases h1:k<o
 ·rw[List.append_assoc,List.getElem?_append_left (by omega),List.getElem?_take_of_lt h1,Array.getElem?_toList]
  cases C[k]? with
  |none=>rfl
  |some y=>rw[Option.map_some,if_neg (by omega)]
 ·by_cases h2:k<o+d.length
  ·have hk:k<C.size:=by omega
   rw[List.append_assoc,List.getElem?_append_right (by omega),l1,List.getElem?_append_left (by simp;omega),Array.getElem?_eq_getElem hk,Option.map_some,if_pos ⟨by omega,h2⟩,List.getElem?_map]
   have hd:k - o<d.length:=by omega
   rw[List.getElem?_eq_getElem hd]
   simp[hd]
  ·rw[List.getElem?_append_right (by simp;omega),List.getElem?_drop,Array.getElem?_toList]
   rw[show o+(d.map enc).length+(k - (C.toList.take o++d.map enc).length)=k by simp;omega]
   cases C[k]? with
   |none=>rfl
   |some y=>rw[Option.map_some,if_neg (by omega)]
omit [Io] in
theorem rT{α:Type}[Inhabited α](enc:α->Value)(w:World)(b o:Nat)(d:Array α){C:Array Value}{el:TypeId}{fz:Nat×Nat}(hw:w.heap[b]? =some (.cells C el fz)):putRow enc w b o d=w.setRow b (putCells enc o d C):=by
 unfold putRow mapBlock World.setRow
 congr 1
 apply Array.ext_getElem?
 intro k
 simp only[Array.getElem?_modify]
 by_cases hk:b=k
 ·subst hk
  rw[hw]
  rfl
 ·simp[hk]
theorem P'{c:bP}(hc:cC Tryz.prog c):cC Tryz.prog (KJ c):=by
 intro f az h v h' e
 unfold KJ at e
 cases hf:Nat.beq f 305 with
 |false=>rw[hf]at e;exact hc f az h v h' e
 |true=>
  obtain rfl:=Nat.eq_of_beq_eq_true hf
  rw[hf,cond_true]at e
  refine⟨Tryz.call305,fun g w vs H hv=>?_⟩
  have same: ∀ (a:AV) (u:Value) (ad:Option Addr) (cp:Nat),u=.slice ad 0 cp->VR g w a u->Calls Tryz.prog 305 #[u,.int .i64 0,.int .i64 0] w fun e w'=> ∃ x g',e=.returned x/\Ext g w h g' w' h/\HR g' w' h/\VR g' w' a x:=by
   rintro a u ad cp rfl ha
   refine(Tryz.KI ad cp w).mono ?_
   rintro e w' ⟨rfl,rfl⟩
   exact⟨_,g,rfl,Ext.refl _ _ _,H,ha⟩
  unfold Ca at e
  split at e
  ·rename_i id off n i j
   simp only[bq]at hv
   obtain⟨va,l,rfl,ha,vi,l,rfl,hi,vj,l,rfl,hj,rfl⟩:=hv
   simp only[VR]at hi hj
   subst hi;subst hj
   cases h0:decide (n=0)with
   |true=>
    obtain rfl:n=0:=of_decide_eq_true h0
    rw[h0,cond_true]at e
    cases hb:(decide (i=0)&&decide (j=0))with
    |false=>rw[hb]at e;cases e
    |true=>
     rw[hb]at e
     cases e
     simp only[Bool.and_eq_true,decide_eq_true_eq]at hb
     obtain⟨rfl,rfl⟩:=hb
     have Q0:=ha
     simp only[VR]at ha
     rcases ha with⟨_,ad,rfl⟩|⟨b,s,cap,_,rfl,_⟩
     ·exact same _ _ _ _ rfl Q0
     ·exact same _ _ _ _ rfl Q0
   |false=>
    have hn:=of_decide_eq_false h0
    rw[h0,cond_false]at e
    split at e
    ·rename_i row hg
     split at e
     ·rename_i ls On
      split at e
      ·rename_i d hd
       cases hb:decide (0<=i/\i<=j/\j<=(n:Int)/\n<=9223372036854775807)with
       |false=>rw[hb]at e;cases e
       |true=>
        rw[hb]at e
        cases e
        obtain⟨b1,b2,b3,b4⟩:=of_decide_eq_true hb
        obtain⟨i,rfl⟩:=Int.eq_ofNat_of_zero_le b1
        obtain⟨j,rfl⟩:=Int.eq_ofNat_of_zero_le (Int.le_trans b1 b2)
        have b2:i<=j:=by omega
        have b3:j<=n:=by omega
        obtain rfl:=xe hd
        obtain⟨q1,q2,q3⟩:=eV On
        have Qa:d.length=n:=by rw[<-q2,List.length_map]
        simp only[VR]at ha
        rcases ha with⟨q,_⟩|⟨b,s,cap,hm,rfl,mS,Yi⟩
        ·exact(hn q).elim
        obtain⟨C,el,us,hw,_,cU,fh⟩:=H.row hg hm
        have Ri:=cU.length
        rw[da]at Ri
        have hud:(us.drop off).take n=d.map (Value.int .u64):=xg (by rw[q1];exact(cU.drop off).take n)
        have hC: ∀ k (hk:k<d.length),C[s+off+k]? =some (Value.int .u64 d[k]):=by
         intro k hk
         have:us[off+k]? =some (Value.int .u64 d[k]):=by
          have e:((us.drop off).take n)[k]? =some (Value.int .u64 d[k]):=by rw[hud];simp[hk]
          rw[List.getElem?_take_of_lt (by omega),List.getElem?_drop]at e
          exact e
         have:=fh _ _ this
         rwa [<-Nat.add_assoc]at this
        have hH:Holds (Value.int .u64) w b (s+off) d.toArray:=by
         intro k hk
         have qE:k<d.length:=by simpa using hk
         have hz:=(Array.getElem?_eq_some_iff.1 (hC k qE)).1
         refine⟨?_,?_⟩
         ·unfold World.cell?
          simp only[hw]
          show C[s+off+k]? =_
          rw[hC k qE]
          simp[qE]
         ·unfold World.frozen?
          simp only[hw]
          have:=el.ok (s+off+k) hz
          simpa using this
        have lx:s+off+d.length<=C.size:=by
         have h0:d.length - 1<d.length:=by omega
         have:=(Array.getElem?_eq_some_iff.1 (hC (d.length - 1) h0)).1
         omega
        have key:=Tryz.P8 b (s+off) cap i j d.toArray w hH (by simpa[Qa]using mS) (by simpa[Qa]using b4) b2 (by simpa[Qa]using b3)
        have Zp:d.toArray.size=n:=by simpa using Qa
        rw[Zp]at key
        refine key.mono ?_
        rintro e w' ⟨rfl,q,rfl⟩
        obtain⟨E1,H1⟩:=Cb H q
        have Qb:(fY d i j).length=n:=by unfold fY;simp;omega
        have eqW:putRow (Value.int .u64) (Sort.ahead w q) b (s+off) (d.toArray.toList.take i++d.toArray.toList.drop j++List.replicate (j - i) 0).toArray=(Sort.ahead w q).setRow b (putCells (Value.int .u64) (s+off) (fY d i j).toArray C):=rT _ _ _ _ _ hw
        have eqC:=xh (Value.int .u64) (s+off) (fY d i j) C (by rw[Qb];omega)
        rw[eqW,eqC]
        have kb:s+off+((fY d i j).map (Value.int .u64)).length<=C.size:=by rw[List.length_map,Qb];omega
        obtain⟨E2,H2⟩:=n8 H1 (C':=(C.toList.take (s+off)++(fY d i j).map (Value.int .u64)++C.toList.drop (s+off+((fY d i j).map (Value.int .u64)).length)).toArray)
         hg hm hw (by simp at kb ⊢;omega) (cs':=row.put off ((fY d i j).map (AV.int .u64))) (us:=us.take off++((fY d i j).map (Value.int .u64)++us.drop (off+((fY d i j).map (Value.int .u64)).length)))
         (by
          have XC:=bq.mono H E1 _ _ cU
          rw[lh (by rw[List.length_map,Qb];exact q3),put_eq,List.length_map,List.length_map]
          exact(XC.take _).append ((oW _).append (XC.drop _)))
         (fun j v e=>tp fh kb j v e (by omega))
        refine⟨_,g,rfl,E1.trans E2,H2,?_⟩
        simp only[VR]
        refine .inr ⟨b,s,cap,hm,?_,by omega,Nat.le_trans Yi ((E1.trans E2).rows b)⟩
        simp only[Int.toNat_natCast]
      ·cases e
     ·cases e
    ·cases e
  ·rename_i a i j hna
   simp only[bq]at hv
   obtain⟨va,l,rfl,ha,vi,l,rfl,hi,vj,l,rfl,hj,rfl⟩:=hv
   simp only[VR]at hi hj
   subst hi;subst hj
   cases hb:(cu a&&(decide (i=0)&&decide (j=0)))with
   |false=>rw[hb]at e;cases e
   |true=>
    rw[hb]at e
    cases e
    simp only[Bool.and_eq_true,decide_eq_true_eq]at hb
    obtain⟨he,rfl,rfl⟩:=hb
    have Q0:=ha
    cases v with
    |cS=>simp only[VR]at ha;obtain⟨ad,rfl⟩:=ha;exact same _ _ _ _ rfl Q0
    |iQ=>simp only[VR]at ha;obtain⟨ad,rfl⟩:=ha;exact same _ _ _ _ rfl Q0
    |sc x=>
     have he:isNil (.sc x)=true:=he
     unfold isNil at he
     split at he
     ·rename_i n c e
      injection e with e
      subst e
      obtain⟨he1,_⟩:=Bool.and_eq_true_iff.1 he
      obtain rfl:=Nat.eq_of_beq_eq_true he1
      simp only[VR]at ha
      obtain⟨rfl,_⟩:=ha
      exact same _ _ _ _ rfl Q0
     ·cases he
    | _=>cases he
  ·cases e
end Go.Ab

noncomputable section
namespace Go.Proofs.Vq
open Go.Ab Go.Ab.Lf Go.RowKit
set_option maxRecDepth 100000
def Qc(k:IntKind)(b:Int)(F:Int->Int):List AV->Option AV
 | [.int k' x]=>bif decide (k'=k)&&(decide (0<=x)&&decide (x<=b))then some (.int .i64 (F x))else none
 | _=>none
theorem uE[Io]{f:FuncId}{k:IntKind}{b:Int}{F:Int->Int}(hk: ∀ x,0<=x->x<=b->bL Tryz.prog f [.int k x] (.int .i64 (F x))){az:List AV}{v:AV}(h:Qc k b F az=some v):bL Tryz.prog f az v:=by
 unfold Qc at h
 split at h
 ·rename_i k' x
  cases hb:(decide (k'=k)&&(decide (0<=x)&&decide (x<=b)))with
  |false=>rw[hb]at h;cases h
  |true=>
   rw[hb]at h
   cases h
   simp only[Bool.and_eq_true,decide_eq_true_eq]at hb
   obtain⟨rfl,h1,h2⟩:=hb
   exact hk x h1 h2
 ·cases h
def oY(f:FuncId)(az:List AV):Option AV:=bif F6 f then KH f az else
 bif Nat.beq f 10 then(match az with| []=>some (.bool true)| _=>none)else
 bif Nat.beq f 49 then Qc .u32 4294967295 (lz 32) az else
 bif Nat.beq f 50 then Qc .u32 4294967295 (tz 32) az else
 bif Nat.beq f 52 then Qc .u64 18446744073709551615 (lz 64) az else
 bif Nat.beq f 53 then Qc .u64 18446744073709551615 (tz 64) az else none
theorem Qd: ∀ f az v,oY f az=some v-> @bL pq Tryz.prog f az v:=by
 intro f az v h
 unfold oY at h
 cases hc:F6 f with
 |true=>rw[hc]at h;exact yS f az v h
 |false=>
  rw[hc,cond_false]at h
  cases Qe:Nat.beq f 10 with
  |true=>
   rw[Qe,cond_true]at h
   obtain rfl:=Nat.eq_of_beq_eq_true Qe
   split at h
   ·cases h;exact abA
   ·cases h
  |false=>
   rw[Qe,cond_false]at h
   cases XD:Nat.beq f 49 with
   |true=>rw[XD,cond_true]at h;obtain rfl:=Nat.eq_of_beq_eq_true XD;exact @uE pq _ _ _ _ (fun x a b=>abv x a b) _ _ h
   |false=>
    rw[XD,cond_false]at h
    cases XE:Nat.beq f 50 with
    |true=>rw[XE,cond_true]at h;obtain rfl:=Nat.eq_of_beq_eq_true XE;exact @uE pq _ _ _ _ (fun x a b=>abx x a b) _ _ h
    |false=>
     rw[XE,cond_false]at h
     cases XF:Nat.beq f 52 with
     |true=>rw[XF,cond_true]at h;obtain rfl:=Nat.eq_of_beq_eq_true XF;exact @uE pq _ _ _ _ (fun x a b=>abw x a b) _ _ h
     |false=>
      rw[XF,cond_false]at h
      cases XG:Nat.beq f 53 with
      |true=>rw[XG,cond_true]at h;obtain rfl:=Nat.eq_of_beq_eq_true XG;exact @uE pq _ _ _ _ (fun x a b=>aby x a b) _ _ h
      |false=>rw[XG]at h;cases h
def Qf(f:FuncId)(az:List AV):Option AV:=match az with
 | [.agg m]=>bif @decide (f=56/\EV N0 KG xd m) (Classical.propDecidable _)then some (.int .i64 0)else none
 | _=>none
theorem Qg: ∀ f az v,Qf f az=some v-> @bL pq Tryz.prog f az v:=by
 intro f az v h
 unfold Qf at h
 split at h
 ·rename_i m
  cases hd: @decide (f=56/\EV N0 KG xd m) (Classical.propDecidable _)with
  |false=>rw[hd]at h;cases h
  |true=>
   rw[hd]at h
   cases h
   obtain⟨rfl,hm⟩:= @of_decide_eq_true _ (Classical.propDecidable _) hd
   exact abB hm
 ·cases h
def uF(f:FuncId):Bool:=Nat.beq f 56
def nK(c:bP):bP:=NP uF Qf (AL oY (KJ c))
def dD(n d:Nat):bP:=nK (ng Tryz.gt nK n d)
theorem KK(n d:Nat): @cC pq Tryz.prog (dD n d):=
 have hw: ∀ c,@cC pq Tryz.prog c-> @cC pq Tryz.prog (nK c):=fun _ hc=> @IH pq _ _ _ _ Qg (@yR pq _ _ Qd _ (@P' pq _ hc))
 hw _ (@qF pq _ _ (@tR pq _ Tryz.mixed) _ Tryz.gts _ hw n d)
theorem F7{f:FuncId}{az az':List AV}{v:AV}{h:Hp}(hf:uF f=true)(hz:mapA (mi 8 h) az=some az')(ht:Qf f az'=some v)(n d:Nat):dD n d f az h=.ok v h:=by
 show(Bool.rec (AL oY _ f az h) (match mapA (mi 8 h) az with|some kO=>(match Qf f kO with|some v=>Ro.ok v h|none=>AL oY (KJ (ng Tryz.gt nK n d)) f az h)|none=>AL oY (KJ (ng Tryz.gt nK n d)) f az h) (uF f):Ro)=_
 rw[hf,hz]
 dsimp only
 rw[ht]
theorem pT{f:FuncId}{az:List AV}{v:AV}{h:Hp}(hf:uF f=false)(hl:oY f az=some v)(n d:Nat):dD n d f az h=.ok v h:=by
 show(Bool.rec (AL oY _ f az h) (match mapA (mi 8 h) az with|some kO=>(match Qf f kO with|some v=>Ro.ok v h|none=>AL oY (KJ (ng Tryz.gt nK n d)) f az h)|none=>AL oY (KJ (ng Tryz.gt nK n d)) f az h) (uF f):Ro)=_
 rw[hf]
 show(match oY f az with|some v=>Ro.ok v h|none=>_)=_
 rw[hl]
theorem jw{f:FuncId}{b:bM}(hf:Tryz.xs.get f=some b)(hh:uF f=false){n d:Nat}{az:List AV}{h:Hp}(hl:oY f az=none)(h3:Nat.beq f 305=false):dD n (d+1) f az h=qV b.fb n (dD n d) az h:=by
 show(Bool.rec (AL oY _ f az h) (match mapA (mi 8 h) az with|some kO=>(match Qf f kO with|some v=>Ro.ok v h|none=>AL oY (KJ (ng Tryz.gt nK n (d+1))) f az h)|none=>AL oY (KJ (ng Tryz.gt nK n (d+1))) f az h) (uF f):Ro)=_
 rw[hh]
 show(match oY f az with|some v=>Ro.ok v h|none=>(bif Nat.beq f 305 then Ca az h else vU Tryz.gt n (dD n d) f az h))=_
 rw[hl]
 dsimp only
 rw[h3,cond_false]
 show vU Tryz.gt n (dD n d) f az h=_
 unfold vU
 rw[Tryz.Wj hf]
 rfl
theorem F9{az:List AV}{v:AV}{h h':Hp}(e:Ca az h=.ok v h')(n d:Nat):dD n d 305 az h=.ok v h':=e
theorem uG{f:FuncId}(h:F6 f=true):Nat.beq f 305=false:=by
 cases hb:Nat.beq f 305 with
 |false=>rfl
 |true=>obtain rfl:=Nat.eq_of_beq_eq_true hb;cases h
theorem Qh{f:FuncId}{b:bM}(hC:F6 f=true)(hf:Tryz.xs.get f=some b)(hb:QU f=some b): ∀ n d h,qV b.fb n (dD n d) [.cS] h=.bad/\qV b.fb n (dD n d) [.fg 0 []] h=.bad:=by
 unfold F6 at hC
 simp only[Bool.or_eq_true]at hC
 rcases hC with((((((((((((h|h)|h)|h)|h)|h)|h)|h)|h)|h)|h)|h)|h)|h
 ·obtain rfl:=Nat.eq_of_beq_eq_true h;obtain rfl:b=Tryz.Yz:=(Option.some.inj hf).symm;exact fun n d h=>⟨by kernel_rfl,by kernel_rfl⟩
 ·obtain rfl:=Nat.eq_of_beq_eq_true h;obtain rfl:b=Tryz.YA:=(Option.some.inj hf).symm;exact fun n d h=>⟨by kernel_rfl,by kernel_rfl⟩
 ·obtain rfl:=Nat.eq_of_beq_eq_true h;obtain rfl:b=Tryz.YB:=(Option.some.inj hf).symm;exact fun n d h=>⟨by kernel_rfl,by kernel_rfl⟩
 ·obtain rfl:=Nat.eq_of_beq_eq_true h;obtain rfl:b=Tryz.YC:=(Option.some.inj hf).symm;exact fun n d h=>⟨by kernel_rfl,by kernel_rfl⟩
 ·obtain rfl:=Nat.eq_of_beq_eq_true h;obtain rfl:b=Tryz.YD:=(Option.some.inj hf).symm;exact fun n d h=>⟨by kernel_rfl,by kernel_rfl⟩
 ·obtain rfl:=Nat.eq_of_beq_eq_true h;obtain rfl:b=Tryz.JB:=(Option.some.inj hf).symm;exact fun n d h=>⟨by kernel_rfl,by kernel_rfl⟩
 ·obtain rfl:=Nat.eq_of_beq_eq_true h;obtain rfl:b=Tryz.JC:=(Option.some.inj hf).symm;exact fun n d h=>⟨by kernel_rfl,by kernel_rfl⟩
 ·obtain rfl:=Nat.eq_of_beq_eq_true h;obtain rfl:b=Tryz.JD:=(Option.some.inj hf).symm;exact fun n d h=>⟨by kernel_rfl,by kernel_rfl⟩
 ·obtain rfl:=Nat.eq_of_beq_eq_true h;obtain rfl:b=Tryz.JE:=(Option.some.inj hf).symm;exact fun n d h=>⟨by kernel_rfl,by kernel_rfl⟩
 ·obtain rfl:=Nat.eq_of_beq_eq_true h;obtain rfl:b=Tryz.JF:=(Option.some.inj hf).symm;exact fun n d h=>⟨by kernel_rfl,by kernel_rfl⟩
 ·obtain rfl:=Nat.eq_of_beq_eq_true h;obtain rfl:b=Tryz.JG:=(Option.some.inj hf).symm;exact fun n d h=>⟨by kernel_rfl,by kernel_rfl⟩
 ·obtain rfl:=Nat.eq_of_beq_eq_true h;obtain rfl:b=Tryz.JH:=(Option.some.inj hf).symm;exact fun n d h=>⟨by kernel_rfl,by kernel_rfl⟩
 ·obtain rfl:=Nat.eq_of_beq_eq_true h;obtain rfl:b=Tryz.JI:=(Option.some.inj hf).symm;exact fun n d h=>⟨by kernel_rfl,by kernel_rfl⟩
 ·obtain rfl:=Nat.eq_of_beq_eq_true h;obtain rfl:b=Tryz.JJ:=(Option.some.inj hf).symm;exact fun n d h=>⟨by kernel_rfl,by kernel_rfl⟩
theorem sO: ∀ f b,QU f=some b->kU dD f b:=by
 intro f b hb n d az h c h' e
 have RO:=hb
 unfold QU at hb
 cases hx:exQ f with
 |true=>rw[hx]at hb;cases hb
 |false=>
  rw[hx,cond_false]at hb
  unfold exQ at hx
  simp only[Bool.or_eq_false_iff]at hx
  obtain⟨Qe,h56,XH,_,XD,XE,XF,XG⟩:=hx
  cases hC:F6 f with
  |false=>
   rw[jw hb h56 (by unfold oY;rw[hC,Qe,XD,XE,XF,XG];rfl) XH]
   exact e
  |true=>
   obtain⟨q1,q2⟩:=Qh hC hb RO n d h
   have hl:oY f az=none:=by
    unfold oY
    rw[hC,cond_true]
    unfold KH
    rw[hC,cond_true]
    cases h1:fx [.cS] az with
    |true=>obtain rfl:=eZ _ _ h1;rw[q1]at e;cases e
    |false=>
     rw[cond_false]
     cases h2:fx [.fg 0 []] az with
     |true=>obtain rfl:=eZ _ _ h2;rw[q2]at e;cases e
     |false=>rfl
   rw[jw hb h56 hl XH]
   exact e
end Go.Proofs.Vq

noncomputable section
namespace Go.Proofs.Vq
open Go.Ab Go.Ab.Lf Go.RowKit
set_option maxRecDepth 100000
theorem uH{P:gJ}{ptr:List Nat}{Q:gJ}{ti to:List Ty}{g:aL ti->Lf.T (aL to)}{pl q:List Pl}(h:((gg P ptr Q ti to g).f pl).val=some q): ∃ x y,pl=aX ti x/\(g x).val=some y/\q=aX to y:=by
 change (match toT ti pl with|some x=>(g x).map (aX to)|none=>.bad).val=some q at h
 split at h
 ·rename_i x hx
  obtain⟨y,h1,h2⟩:=T.z8 h
  exact⟨x,y,kW hx,h1,h2⟩
 ·cases h
theorem uI{P:gJ}{ptr:List Nat}{Q:gJ}{ti to:List Ty}{g:aL ti->Lf.T (aL to)}{x:aL ti}{y:aL to}(h:(g x).val=some y):((gg P ptr Q ti to g).f (aX ti x)).val=some (aX to y):=by
 show(match toT ti (aX ti x)with|some x=>(g x).map (aX to)|none=>.bad).val=_
 rw[jR]
 show((g x).bd fun a=>Lf.T.ok (aX to a)).val=_
 rw[Lf.T.Ep,h]
 rfl
abbrev rC(c:AV):bM:=Go.Ab.X.a8 8 [.tmp 2] fun _ _=>(Go.Ab.X.ah (Go.Ab.X.ai (Go.Ab.X.st 2 (Go.Ab.X.aa (Go.Ab.X.oC c)) Go.Ab.X.fi)) Go.Ab.X.aZ)
theorem KL(c0:AV)(f:FuncId):kU (fun _ _ _ _ h=>.ok c0 h) f (rC c0):=by
 intro n d az h c h' e
 have e:(ej (Nat.ble (len az) 8) (.ok c0 h) .bad:Go.Ab.Ro)=.ok c h':=e
 cases hb:Nat.ble (len az) 8 with
 |true=>rw[hb]at e;exact e
 |false=>rw[hb]at e;cases e
theorem AN(aM:aV):mw (fun _ _ _=>.bad) aM:=fun _ _ _ _ _ _ _ _ _ _ e=>by cases e
theorem F'{P Q:gJ}{ti to:List Ty}{g:aL ti->Lf.T (aL to)}{f:FuncId}{aM:aV}
 (k: ∀ x y args H0 (E0:En) h az,(g x).val=some y->dh P (aX ti x) e1=some (args,[],H0)->Vs E0 H0.next args az->SR E0 (dk H0) h-> ∃ c g',(g' x).val=some y/\(gg P [] Q ti to g').Ok f (fun _ _ _ _ h=>.ok c h)/\ ∀ n d,aM n (d+1) f az h=.ok c h):(gg P [] Q ti to g).Ok f aM:=by
 intro pl q args H0 E0 h az e hP hv hS
 obtain⟨x,y,rfl,h1,rfl⟩:=uH e
 obtain⟨c,g',hg,k1,k2⟩:=k x y args H0 E0 h az h1 hP hv hS
 obtain⟨c',h',E1,ws,H1,⟨M,hM⟩,r⟩:=k1 _ (aX to y) _ _ E0 h az (uI hg) hP hv hS
 have hM:=hM M M (Nat.le_refl _) (Nat.le_refl _)
 cases hM
 refine⟨_,_,E1,ws,H1,⟨1,fun n d _ hd=>?_⟩,r⟩
 obtain⟨d,rfl⟩: ∃ d',d=d'+1:=⟨d - 1,by omega⟩
 exact k2 n d
theorem AO{P Q:gJ}{ti to:List Ty}{g:aL ti->Lf.T (aL to)}{f:FuncId}{c:AV}(e: ∀ x y,(g x).val=some y->(iH P [] Q (fun _=>none) (rC c) 3 (fun _ _ _=>.bad) (aX ti x)).val=some (aX to y)):(gg P [] Q ti to g).Ok f (fun _ _ _ _ h=>.ok c h):=
 oE (AN _) (KL c f) rfl (bt _) (m:=3) rfl fun x y h=>e x y h
abbrev PI(t:Ty):gJ:=.cons (.im t) .nil
abbrev PO(t:Ty):gJ:=.cons (.ow t) .nil
theorem xi{t:Ty}{f:FuncId}{c:AV}(e:(iH (PI t) [] (PO t) (fun _=>none) (rC c) 3 (fun _ _ _=>.bad) (aX [.aB t] ([],()))).val=some (aX [.aB t] ([],()))):(gg (PI t) [] (PO t) [.aB t] [.aB t] fun x=>.ck (decide (List.length x.1=0)) (.ok ([],()))).Ok f (fun _ _ _ _ h=>.ok c h):=by
 refine AO ?_
 rintro⟨x,⟨⟩⟩ q h
 obtain⟨h1,h⟩:=Lf.T.bU h
 cases h
 obtain rfl:x=[]:=List.eq_nil_of_length_eq_zero (of_decide_eq_true h1)
 exact e
theorem ew{t:Ty}{f:FuncId}{b:bM}{B sz:Nat}(hb:QU f=some b)(hx:Tryz.xs.get f=some b)(o6:Nat.ble b.ntmps 512=true)(hC:F6 f=true)(hh:uF f=false)(hB:B*sz<=70368744177664/\B<=70368744177664)
 (e: ∀ x:List (den t),(iH (PI t) [] (PO t) (fun _=>none) b 3 (fun _ _ _=>.bad) (aX [.aB t] (x,()))).val=bK (!(Nat.beq (List.length x) 0)) (bK (roomy sz (0+List.length x)) (some (aX [.aB t] (app [] x,())))))
 (HH:(iH (PI t) [] (PO t) (fun _=>none) (rC .cS) 3 (fun _ _ _=>.bad) (aX [.aB t] ([],()))).val=some (aX [.aB t] ([],())))
 (Yd:(iH (PI t) [] (PO t) (fun _=>none) (rC .iQ) 3 (fun _ _ _=>.bad) (aX [.aB t] ([],()))).val=some (aX [.aB t] ([],())))
 (e3':(iH (PI t) [] (PO t) (fun _=>none) (rC (.sc (.slice none 0 0))) 3 (fun _ _ _=>.bad) (aX [.aB t] ([],()))).val=some (aX [.aB t] ([],())))
 (s2: ∀ n d h,qV b.fb n (dD n d) [.iQ] h=.ok .iQ h)(s3: ∀ n d h,qV b.fb n (dD n d) [.sc (.slice none 0 0)] h=.ok (.sc (.slice none 0 0)) h)(s4: ∀ n d h id base,qV b.fb n (dD n d) [.cR id base 0 (size t)] h=.ok .iQ h):
 (gg (PI t) [] (PO t) [.aB t] [.aB t] fun x=>.ck (decide (List.length x.1<=B)) (.ok (x.1,()))).Ok f dD:=by
 have lkE:oY f [.cS]=some .cS:=by unfold oY KH;rw[hC];rfl
 have lkI:oY f [.fg 0 []]=some .cS:=by unfold oY KH;rw[hC];rfl
 have nx: ∀ az,fx [.cS] az=false->fx [.fg 0 []] az=false->oY f az=none:=by
  intro az h1 h2
  unfold oY KH
  rw[hC,h1,h2]
  rfl
 have hN:(gg (PI t) [] (PO t) [.aB t] [.aB t] fun x=>.ck (decide (List.length x.1<=B)&& !decide (List.length x.1=0)) (.ok (x.1,()))).Ok f dD:=by
  refine oE (AN _) (sO f b hb) o6 (bt _) (m:=3) rfl ?_
  rintro⟨x,⟨⟩⟩ q h
  obtain⟨h1,h⟩:=Lf.T.bU h
  cases h
  simp only[Bool.and_eq_true,Bool.not_eq_true',decide_eq_true_eq,decide_eq_false_iff_not]at h1
  have c1:Nat.beq (List.length x) 0=false:=by
   cases hb:Nat.beq (List.length x) 0 with
   |false=>rfl
   |true=>exact(h1.2 (Nat.eq_of_beq_eq_true hb)).elim
  refine(e x).trans ?_
  rw[c1,show roomy sz (0+List.length x)=true from lG.2 ⟨by rw[Nat.zero_add];exact Nat.le_trans (Nat.mul_le_mul_right sz h1.1) hB.1,by have:=h1.1;omega⟩,bQ]
  rfl
 intro pl q args H0 E0 h az e0 hP hv hS
 obtain⟨⟨x,⟨⟩⟩,⟨y,⟨⟩⟩,rfl,h1,rfl⟩:=uH e0
 obtain⟨h2,h3⟩:=Lf.T.bU h1
 have h3:y=x:=by
  injection h3 with h3
  exact(congrArg Prod.fst h3).symm
 subst h3
 by_cases hy:y=[]
 ·subst hy
  have KM:some (([.c 1 (.aB t) []]:List Sv),([]:List Pl),(⟨2,.nil⟩:Hq))=some (args,[],H0):=(oG wL).symm.trans hP
  cases KM
  obtain⟨a,rfl,ha⟩: ∃ a,az=[a]/\EV E0.G (.aB t) [] [a]:=by
   cases hv with
   |cons ha hr=>
    cases hr
    cases ha with
    |c k _=>exact⟨_,rfl,k⟩
  have fin: ∀ c0:AV,(gg (PI t) [] (PO t) [.aB t] [.aB t] fun x=>.ck (decide (List.length x.1=0)) (.ok ([],()))).Ok f (fun _ _ _ _ h=>.ok c0 h)->(∀ n d,dD n (d+1) f [a] h=.ok c0 h)-> ∃ c h' E1 ws H1,Ev (fun n d=>dD n d f [a] h) (.ok c h')/\Ox E0 E1 (dk ⟨2,.nil⟩) H1 h h'/\SR E1 H1 h'/\dh (PO t) (aX [.aB t] ([],())) Lf.e1=some (ws,[],H1)/\Vs E1 H1.next ws (c::([]:List Nat).map E0.A):=by
   intro c0 k hc
   obtain⟨c,h',E1,ws,H1,⟨M,hM⟩,r⟩:=k _ (aX [.aB t] ([],())) _ _ E0 h [a] (uI (P:=PI t) (ptr:=[]) (Q:=PO t) (ti:=[.aB t]) (to:=[.aB t]) (x:=(([]:List (den t)),())) (y:=(([]:List (den t)),())) rfl) hP hv hS
   have hM:=hM M M (Nat.le_refl _) (Nat.le_refl _)
   cases hM
   refine⟨c0,h,E1,ws,H1,⟨1,fun n d _ hd=>?_⟩,r⟩
   obtain⟨d,rfl⟩: ∃ d',d=d'+1:=⟨d - 1,by omega⟩
   exact hc n d
  obtain⟨a',q1,k⟩: ∃ a',[a]=[a']/\zO E0.G t (EV E0.G t) [] a':=ha
  injection q1 with q1
  subst q1
  rcases k with⟨k,_⟩|⟨ls,k1,k2⟩
  ·cases a with
   |cS=>exact fin .cS (xi HH) fun n d=>pT hh lkE n (d+1)
   |iQ=>exact fin .iQ (xi Yd) fun n d=>(jw hx hh (nx _ rfl rfl) (uG hC)).trans (s2 n d h)
   |sc v=>
    obtain rfl:v=.slice none 0 0:=by
     have k:isNil (.sc v)=true:=k
     unfold isNil at k
     split at k
     ·rename_i n c e
      injection e with e
      subst e
      have k:(Nat.beq n 0&&Nat.beq c 0)=true:=by assumption
      rw[Bool.and_eq_true]at k
      obtain rfl:=Nat.eq_of_beq_eq_true k.1
      obtain rfl:=Nat.eq_of_beq_eq_true k.2
      rfl
     ·cases k
    exact fin _ (xi e3') fun n d=>(jw hx hh (nx _ rfl rfl) (uG hC)).trans (s3 n d h)
   | _=>cases k
  ·have hl:ls=[]:=k1
   subst hl
   rcases k2 with k2|⟨id,base,row,k2,_,_⟩
   ·subst k2
    exact fin .cS (xi HH) fun n d=>pT hh lkI n (d+1)
   ·subst k2
    exact fin .iQ (xi Yd) fun n d=>(jw hx hh (nx _ rfl rfl) (uG hC)).trans (s4 n d h id base)
 ·have hn:((gg (PI t) [] (PO t) [.aB t] [.aB t] fun x=>.ck (decide (List.length x.1<=B)&& !decide (List.length x.1=0)) (.ok (x.1,()))).f (aX [.aB t] (y,()))).val=some (aX [.aB t] (y,())):=by
   refine uI (P:=PI t) (ptr:=[]) (Q:=PO t) (ti:=[.aB t]) (to:=[.aB t]) (x:=(y,())) (y:=(y,())) ?_
   show(bif (decide (List.length y<=B)&& !decide (List.length y=0))then some (y,())else none)=_
   rw[show decide (List.length y<=B)=true from h2,decide_eq_false (fun q=>hy (List.eq_nil_of_length_eq_zero q))]
   rfl
  exact hN _ _ args H0 E0 h az hn hP hv hS
theorem KN:(hZ u64).Ok 67 dD:=ew (b:=Tryz.Yz) (B:=1099511627776) (sz:=8) (by kernel_rfl) (by kernel_rfl) rfl (by kernel_rfl) (by kernel_rfl) (by decide) (fun x=>by kernel_rfl) (by kernel_rfl) (by kernel_rfl) (by kernel_rfl) (fun n d h=>by kernel_rfl) (fun n d h=>by kernel_rfl) (fun n d h id base=>by kernel_rfl)
theorem KO:(hZ cr).Ok 69 dD:=ew (b:=Tryz.YA) (B:=1099511627776) (sz:=48) (by kernel_rfl) (by kernel_rfl) rfl (by kernel_rfl) (by kernel_rfl) (by decide) (fun x=>by kernel_rfl) (by kernel_rfl) (by kernel_rfl) (by kernel_rfl) (fun n d h=>by kernel_rfl) (fun n d h=>by kernel_rfl) (fun n d h id base=>by kernel_rfl)
theorem KP:(hZ i64).Ok 70 dD:=ew (b:=Tryz.YB) (B:=1099511627776) (sz:=8) (by kernel_rfl) (by kernel_rfl) rfl (by kernel_rfl) (by kernel_rfl) (by decide) (fun x=>by kernel_rfl) (by kernel_rfl) (by kernel_rfl) (by kernel_rfl) (fun n d h=>by kernel_rfl) (fun n d h=>by kernel_rfl) (fun n d h id base=>by kernel_rfl)
theorem KQ:(JO).Ok 71 dD:=ew (b:=Tryz.YC) (B:=549755813888) (sz:=88) (by kernel_rfl) (by kernel_rfl) rfl (by kernel_rfl) (by kernel_rfl) (by decide) (fun x=>by kernel_rfl) (by kernel_rfl) (by kernel_rfl) (by kernel_rfl) (fun n d h=>by kernel_rfl) (fun n d h=>by kernel_rfl) (fun n d h id base=>by kernel_rfl)
theorem KS:(hZ bZ).Ok 72 dD:=ew (b:=Tryz.YD) (B:=1099511627776) (sz:=24) (by kernel_rfl) (by kernel_rfl) rfl (by kernel_rfl) (by kernel_rfl) (by decide) (fun x=>by kernel_rfl) (by kernel_rfl) (by kernel_rfl) (by kernel_rfl) (fun n d h=>by kernel_rfl) (fun n d h=>by kernel_rfl) (fun n d h id base=>by kernel_rfl)
theorem Ga:(hZ pe).Ok 116 dD:=ew (b:=Tryz.JB) (B:=1099511627776) (sz:=40) (by kernel_rfl) (by kernel_rfl) rfl (by kernel_rfl) (by kernel_rfl) (by decide) (fun x=>by kernel_rfl) (by kernel_rfl) (by kernel_rfl) (by kernel_rfl) (fun n d h=>by kernel_rfl) (fun n d h=>by kernel_rfl) (fun n d h id base=>by kernel_rfl)
theorem Gb:(hZ iZ).Ok 117 dD:=ew (b:=Tryz.JC) (B:=1099511627776) (sz:=16) (by kernel_rfl) (by kernel_rfl) rfl (by kernel_rfl) (by kernel_rfl) (by decide) (fun x=>by kernel_rfl) (by kernel_rfl) (by kernel_rfl) (by kernel_rfl) (fun n d h=>by kernel_rfl) (fun n d h=>by kernel_rfl) (fun n d h id base=>by kernel_rfl)
theorem Gc:(hZ pf).Ok 118 dD:=ew (b:=Tryz.JD) (B:=1099511627776) (sz:=40) (by kernel_rfl) (by kernel_rfl) rfl (by kernel_rfl) (by kernel_rfl) (by decide) (fun x=>by kernel_rfl) (by kernel_rfl) (by kernel_rfl) (by kernel_rfl) (fun n d h=>by kernel_rfl) (fun n d h=>by kernel_rfl) (fun n d h id base=>by kernel_rfl)
theorem Gd:(hZ pg).Ok 120 dD:=ew (b:=Tryz.JE) (B:=1099511627776) (sz:=32) (by kernel_rfl) (by kernel_rfl) rfl (by kernel_rfl) (by kernel_rfl) (by decide) (fun x=>by kernel_rfl) (by kernel_rfl) (by kernel_rfl) (by kernel_rfl) (fun n d h=>by kernel_rfl) (fun n d h=>by kernel_rfl) (fun n d h id base=>by kernel_rfl)
theorem Ge:(hZ ph).Ok 121 dD:=ew (b:=Tryz.JF) (B:=1099511627776) (sz:=48) (by kernel_rfl) (by kernel_rfl) rfl (by kernel_rfl) (by kernel_rfl) (by decide) (fun x=>by kernel_rfl) (by kernel_rfl) (by kernel_rfl) (by kernel_rfl) (fun n d h=>by kernel_rfl) (fun n d h=>by kernel_rfl) (fun n d h id base=>by kernel_rfl)
theorem Gf:(hZ pj).Ok 122 dD:=ew (b:=Tryz.JG) (B:=1099511627776) (sz:=48) (by kernel_rfl) (by kernel_rfl) rfl (by kernel_rfl) (by kernel_rfl) (by decide) (fun x=>by kernel_rfl) (by kernel_rfl) (by kernel_rfl) (by kernel_rfl) (fun n d h=>by kernel_rfl) (fun n d h=>by kernel_rfl) (fun n d h id base=>by kernel_rfl)
theorem Gg:(hZ pn).Ok 123 dD:=ew (b:=Tryz.JH) (B:=1099511627776) (sz:=48) (by kernel_rfl) (by kernel_rfl) rfl (by kernel_rfl) (by kernel_rfl) (by decide) (fun x=>by kernel_rfl) (by kernel_rfl) (by kernel_rfl) (by kernel_rfl) (fun n d h=>by kernel_rfl) (fun n d h=>by kernel_rfl) (fun n d h id base=>by kernel_rfl)
theorem Gh:(hZ u8).Ok 124 dD:=ew (b:=Tryz.JI) (B:=1099511627776) (sz:=1) (by kernel_rfl) (by kernel_rfl) rfl (by kernel_rfl) (by kernel_rfl) (by decide) (fun x=>by kernel_rfl) (by kernel_rfl) (by kernel_rfl) (by kernel_rfl) (fun n d h=>by kernel_rfl) (fun n d h=>by kernel_rfl) (fun n d h id base=>by kernel_rfl)
theorem Gi:(hZ tI).Ok 221 dD:=ew (b:=Tryz.JJ) (B:=1099511627776) (sz:=64) (by kernel_rfl) (by kernel_rfl) rfl (by kernel_rfl) (by kernel_rfl) (by decide) (fun x=>by kernel_rfl) (by kernel_rfl) (by kernel_rfl) (by kernel_rfl) (fun n d h=>by kernel_rfl) (fun n d h=>by kernel_rfl) (fun n d h id base=>by kernel_rfl)
end Go.Proofs.Vq

noncomputable section
namespace Go.Ab.Lf
open Go.Ab
theorem xj{G:Nat->Option Rw}: ∀ {x:List (den (.int .u64))} {ls:List AV},fP (EV G (.int .u64)) x ls->ls=List.map (AV.int .u64) x
 | [],ls,h=>by have h:ls=[]:=h;subst h;rfl
 |y::x,ls,⟨c,r,e,h1,h2⟩=>by
  have h1:c=[.int .u64 y]:=h1
  subst e;subst h1
  rw[xj h2]
  rfl
theorem oZ{G:Nat->Option Rw}: ∀ (x:List (den (.int .u64))),fP (EV G (.int .u64)) x (List.map (AV.int .u64) x)
 | []=>rfl
 |y::x=>⟨[.int .u64 y],_,rfl,rfl,oZ x⟩
end Go.Ab.Lf
namespace Go.Proofs.Vq
open Go.Ab Go.Ab.Lf
set_option maxRecDepth 100000
theorem Gj{aM:aV}(k: ∀ n d az h v h',Ca az h=.ok v h'->aM n (d+1) 305 az h=.ok v h'):FA.Ok 305 aM:=by
 intro pl q args H0 E0 h az e hP hv hS
 obtain⟨⟨x,i0,j0,⟨⟩⟩,⟨y,⟨⟩⟩,rfl,h1,rfl⟩:=uH e
 obtain⟨i,hi⟩: ∃ i:Int,i=i0:=⟨i0,rfl⟩
 subst hi
 obtain⟨j,hj⟩: ∃ j:Int,j=j0:=⟨j0,rfl⟩
 subst hj
 obtain⟨h2,h3⟩:=Lf.T.bU h1
 have h3:y=List.take i.toNat x++List.drop j.toNat x:=by
  injection h3 with h3
  exact(congrArg Prod.fst h3).symm.trans (bQ _ _)
 obtain⟨b1,b2,b3,b4⟩:=of_decide_eq_true h2
 have b1:(0:Int)<=i:=b1
 have b2:(i:Int)<=j:=b2
 have b3:(j:Int)<=(List.length x:Int):=b3
 have b4:List.length x<=1099511627776:=b4
 have KM:some (([.os 1 1,.c 0 i64 i,.c 0 i64 j]:List Sv),([]:List Pl),cA e1 (.l u64 x))=some (args,[],H0):=by
  rw[<-hP]
  show _=_
  kernel_rfl
 cases KM
 obtain⟨rfl⟩:Nonempty (az=[(E0.K 1).av,.int .i64 i,.int .i64 j]):=by
  cases hv with
  |cons ha hr=>
   cases hr with
   |cons hb hr=>
    cases hr with
    |cons hc hr=>
     cases hr
     cases ha with
     |os _ _=>
      cases hb with
      |c hb _=>
       cases hc with
       |c hc _=>
        have hb:[_]=[AV.int .i64 i]:=hb
        have hc:[_]=[AV.int .i64 j]:=hc
        injection hb with hb
        injection hc with hc
        subst hb;subst hc
        exact⟨rfl⟩
 have g1:(dk (cA e1 (.l u64 x))).aN.get 1=some (.l u64 x):=by kernel_rfl
 have o1:own (dk (cA e1 (.l u64 x))) 1:=⟨_,g1,rfl⟩
 obtain⟨hx,hr⟩:=(hS.row 1 _ g1).2
 have BQ: ∀ r,own (cA e1 (.l u64 y)) r->r=1:=by
  rintro r ⟨R,a,_⟩
  rw[eH]at a
  split at a
  ·assumption
  ·cases a
 have fin: ∀ (c:AV) (h':Hp),Ca [(E0.K 1).av,.int .i64 i,.int .i64 j] h=.ok c h'->h'.next=h.next->fU c=fU (E0.K 1).av->(∀ id,fU (E0.K 1).av≠some id->h'.aN.get id=h.aN.get id)->
  LR E0.G u64 y ⟨c,y.length⟩ h'.aN.get-> ∃ c h' E1 ws H1,Ev (fun n d=>aM n d 305 [(E0.K 1).av,.int .i64 i,.int .i64 j] h) (.ok c h')/\Ox E0 E1 (dk (cA e1 (.l u64 x))) H1 h h'/\SR E1 H1 h'/\dh FA.Q (aX [.aB u64] (y,())) e1=some (ws,[],H1)/\Vs E1 H1.next ws (c::FA.ptr.map E0.A):=by
  intro c h' hd QC eC CW hlr
  obtain⟨E1,hE⟩: ∃ E1:En,E1=⟨fun r=>if r=1 then⟨c,y.length⟩else E0.K r,E0.tk,E0.G,E0.A⟩:=⟨_,rfl⟩
  have hK:E1.K 1=⟨c,y.length⟩:=by rw[hE];rfl
  refine⟨c,h',E1,[.os 1 1],cA e1 (.l u64 y),⟨1,fun n d _ uP=>?_⟩,?_,?_,?_,?_⟩
  ·obtain⟨d,rfl⟩: ∃ d',d=d'+1:=⟨d - 1,by omega⟩
   exact k n d _ h c h' hd
  ·refine⟨by rw[hE],by rw[hE];exact fun _ _ e=>e,by omega,fun r id o e=>?_,fun id row e=>.inl (by rw[hE]at e;exact e),fun id hi hn=>?_⟩
   ·obtain rfl:=BQ r o
    rw[hK]at e
    exact .inl ⟨1,o1,by rw[<-eC];exact e⟩
   ·exact CW id (hn 1 o1)
  ·refine⟨fun r R e=>?_,fun r r' id o o' _ _=>(BQ r o).trans (BQ r' o').symm,fun r id o e=>?_,fun id row e=>?_⟩
   ·rw[eH]at e
    split at e
    ·rename_i QP
     cases e
     have QP:r=1:=QP
     subst QP
     refine⟨Nat.lt_succ_self _,?_⟩
     rw[hK]
     show LR E1.G u64 y ⟨c,y.length⟩ h'.aN.get
     rw[hE]
     exact hlr
    ·cases e
   ·obtain rfl:=BQ r o
    rw[hK]at e
    rw[QC]
    exact hS.lt 1 id o1 (by rw[<-eC];exact e)
   ·rw[hE]at e
    obtain⟨a1,a2,a3⟩:=hS.g id row e
    refine⟨by omega,?_,fun r o=>?_⟩
    ·rw[CW id (a3 1 o1)];exact a2
    ·obtain rfl:=BQ r o
     rw[hK]
     show fU c≠_
     rw[eC]
     exact a3 1 o1
  ·show _=_
   kernel_rfl
  ·refine .cons ?_ .nil
   have jx:=V.os (E:=E1) (N:=(cA e1 (.l u64 y)).next) (r:=1) (sz:=1) (Nat.lt_succ_self _) (by
    rw[hK]
    obtain⟨q1,q2⟩:=hlr
    rcases q2 with⟨k1,k2⟩|⟨id,base,row,ls,k1,_⟩
    ·exact .inl ⟨k1,by show y.length=0;rw[k2];rfl⟩
    ·exact .inr ⟨id,base,k1⟩)
   rw[hK]at jx
   exact jx
 rcases hr with⟨he,rfl⟩|⟨id,base,row,ls,ha,hg,hs,hl⟩
 ·have b3:j<=0:=b3
  obtain rfl:i=0:=by omega
  obtain rfl:j=0:=by omega
  have hy:y=[]:=by rw[h3];rfl
  subst hy
  refine fin (E0.K 1).av h ?_ rfl rfl (fun _ _=>rfl) ⟨rfl,.inl ⟨he,rfl⟩⟩
  generalize (E0.K 1).av=a at he
  cases a with
  |cS=>rfl
  |iQ=>rfl
  |sc v=>
   show(bif cu (.sc v)&&(decide ((0:Int)=0)&&decide ((0:Int)=0))then Ro.ok (.sc v) h else .bad)=_
   rw[he];rfl
  | _=>cases he
 ·have On:=xj hl
  have hlen:List.length x=(E0.K 1).n:=hx
  rw[ha]
  rw[ha]at fin
  generalize (E0.K 1).n=n at*
  subst hlen
  obtain⟨i,rfl⟩:=Int.eq_ofNat_of_zero_le b1
  obtain⟨j,rfl⟩:=Int.eq_ofNat_of_zero_le (Int.le_trans b1 b2)
  have b2:i<=j:=by omega
  have b3:j<=List.length x:=by omega
  have h3:y=List.take i x++List.drop j x:=h3
  have Sk:y.length=List.length x - (j - i):=by rw[h3,List.length_append,List.length_take,List.length_drop];omega
  by_cases h0:List.length x=0
  ·obtain rfl:x=[]:=List.eq_nil_of_length_eq_zero h0
   have b3:j<=0:=b3
   obtain rfl:j=0:=by omega
   obtain rfl:i=0:=by omega
   have hy:y=[]:=by rw[h3];rfl
   subst hy
   refine fin _ h ?_ rfl rfl (fun _ _=>rfl) ⟨rfl,.inr ⟨id,base,row,ls,rfl,hg,hs,hl⟩⟩
   rfl
  ·have GK:row.fy base (List.length x)=some (List.map (AV.int .u64) x):=by
    rw[<-On]
    have:List.length x*size u64=List.length x:=Nat.mul_one _
    rw[<-this];exact hs
   have Qa:(fY x i j).length=List.length x:=by unfold fY;simp;omega
   refine fin (.cR id base (List.length x - (j - i)) 1) (eN h id (some (row.put base ((fY x i j).map (AV.int .u64))))) ?_ rfl rfl (fun nU kj=>?_) ⟨rfl,.inr ⟨id,base,row.put base ((fY x i j).map (AV.int .u64)),List.map (AV.int .u64) y,?_,?_,?_,oZ y⟩⟩
   ·show(bif decide (List.length x=0)then _ else match h.aN.get id with
     |some row=>(match row.fy base (List.length x)with
      |some ls=>(match rj ls with
       |some d=>bif decide (0<=(i:Int)/\(i:Int)<=(j:Int)/\(j:Int)<=(List.length x:Int)/\List.length x<=9223372036854775807)then Ro.ok (.cR id base (List.length x - ((j:Int).toNat - (i:Int).toNat)) 1) (eN h id (some (row.put base ((fY d (i:Int).toNat (j:Int).toNat).map (AV.int .u64)))))else .bad
       |none=>.bad)
      |none=>.bad)
     |none=>.bad)=_
    rw[decide_eq_false h0,cond_false,hg]
    dsimp only
    rw[GK]
    dsimp only
    rw[xf]
    dsimp only
    rw[decide_eq_true (show 0<=(i:Int)/\(i:Int)<=(j:Int)/\(j:Int)<=(List.length x:Int)/\List.length x<=9223372036854775807 from⟨by omega,by omega,by omega,by omega⟩),cond_true]
    simp only[Int.toNat_natCast]
   ·show(h.aN.set id _).get nU=_
    rw[Tr.eO,if_neg fun q=>kj (by rw[q];rfl)]
   ·rw[Sk];rfl
   ·show(h.aN.set id _).get id=_
    rw[Tr.eO,if_pos rfl]
   ·obtain⟨s1,s2⟩:=cP.1 GK
    have CM:=zW (o:=0) (new:=(fY x i j).map (AV.int .u64)) GK (by simp) (by rw[List.length_map,Qa];omega)
    obtain⟨s3,s4⟩:=cP.1 CM
    have e2:List.take 0 (List.map (AV.int .u64) x)++((fY x i j).map (AV.int .u64)++List.drop (0+((fY x i j).map (AV.int .u64)).length) (List.map (AV.int .u64) x))=(fY x i j).map (AV.int .u64):=by
     rw[List.take_zero,List.nil_append,List.drop_eq_nil_of_le (by simp[Qa]),List.append_nil]
    rw[e2]at s4
    refine cP.2 ⟨?_,?_⟩
    ·show base+y.length*size u64<=_
     rw[show y.length*size u64=y.length from Nat.mul_one _,Sk]
     have s3:base+List.length x<=(row.put (base+0) (List.map (AV.int .u64) (fY x i j))).n:=s3
     have:(row.put (base+0) (List.map (AV.int .u64) (fY x i j))).n=(row.put base (List.map (AV.int .u64) (fY x i j))).n:=rfl
     omega
    ·rw[show y.length*size u64=y.length from Nat.mul_one _]
     have s4:(fY x i j).map (AV.int .u64)=((row.put base (List.map (AV.int .u64) (fY x i j))).toL.drop base).take (List.length x):=s4
     have e3:List.take y.length ((fY x i j).map (AV.int .u64))=List.map (AV.int .u64) y:=by
      unfold fY
      rw[<-h3,List.map_append,List.take_append_of_le_length (by simp),List.take_of_length_le (by simp)]
     rw[<-e3]
     exact(congrArg (List.take y.length) s4).trans (by rw[List.take_take,Nat.min_eq_left (by omega)])
end Go.Proofs.Vq

noncomputable section
namespace Go.Proofs.Vq
open Go.Ab Go.Ab.Lf Go.RowKit
set_option maxRecDepth 100000
theorem uJ{k:IntKind}{F:Int->Int}{b:Int}{f:FuncId}(hf: ∀ x:Int,dh (Ps [.n k]) (aX [.int k] (x,())) Lf.e1=some ([.c 0 (.int k) x],[],Lf.e1))(hr: ∀ z x:Int,(iH (Ps [.n k]) [] (Ps [.n .i64]) (fun _=>none) (rC (.int .i64 z)) 3 (fun _ _ _=>.bad) (aX [.int k] (x,()))).val=some (aX [i64] (z,())))(hh:uF f=false)(hl: ∀ x:Int,0<=x->x<=b->oY f [.int k x]=some (.int .i64 (F x))):(QV k F b).Ok f dD:=by
 unfold QV
 refine F' ?_
 rintro⟨x,⟨⟩⟩ y args H0 E0 h az h1 hP hv hS
 obtain⟨h2,h3⟩:=Lf.T.bU h1
 simp only[Bool.and_eq_true,decide_eq_true_eq]at h2
 have KM:some (([.c 0 (.int k) x]:List Sv),([]:List Pl),Lf.e1)=some (args,[],H0):=(hf x).symm.trans hP
 cases KM
 have ha:az=[.int k x]:=by
  cases hv with
  |cons ha hr=>
   cases hr
   cases ha with
   |c kx _=>exact kx
 subst ha
 refine⟨.int .i64 (F x),fun _=>.ok (F x,()),h3,AO ?_,fun n d=>pT hh (hl x h2.1 h2.2) n (d+1)⟩
 rintro⟨x',⟨⟩⟩ y' h'
 cases h'
 exact hr (F x) x'
theorem uL{k:IntKind}{b:Int}{F:Int->Int}{x:Int}(h0:0<=x)(h1:x<=b):Qc k b F [.int k x]=some (.int .i64 (F x)):=by
 show(bif decide (k=k)&&(decide (0<=x)&&decide (x<=b))then some (AV.int .i64 (F x))else none)=_
 rw[decide_eq_true rfl,decide_eq_true h0,decide_eq_true h1]
 rfl
theorem KU:s49.Ok 49 dD:=uJ (fun x=>by kernel_rfl) (fun z x=>by kernel_rfl) rfl fun x h0 h1=>uL h0 h1
theorem KV:s50.Ok 50 dD:=uJ (fun x=>by kernel_rfl) (fun z x=>by kernel_rfl) rfl fun x h0 h1=>uL h0 h1
theorem KW:s52.Ok 52 dD:=uJ (fun x=>by kernel_rfl) (fun z x=>by kernel_rfl) rfl fun x h0 h1=>uL h0 h1
theorem KX:s53.Ok 53 dD:=uJ (fun x=>by kernel_rfl) (fun z x=>by kernel_rfl) rfl fun x h0 h1=>uL h0 h1
theorem KY:YQ.Ok 10 dD:=by
 unfold YQ
 refine F' ?_
 rintro⟨⟩ y args H0 E0 h az h1 hP hv hS
 have KM:some (([]:List Sv),([]:List Pl),Lf.e1)=some (args,[],H0):=hP
 cases KM
 cases hv
 refine⟨.bool true,fun _=>.ok (true,()),h1,AO ?_,fun n d=>pT rfl rfl n (d+1)⟩
 rintro⟨⟩ y' h'
 cases h'
 kernel_rfl
theorem XI(x:aL tM):(iH (Ps [PU .im]) [] (Ps [.n .i64]) (fun _=>none) (rC (.int .i64 0)) 3 (fun _ _ _=>.bad) (aX tM x)).val=some (aX [i64] (0,())):=by kernel_rfl
theorem KZ:(FQ Co).Ok 56 dD:=by
 unfold FQ
 refine F' ?_
 intro X y args H0 E0 h az h1 hP hv hS
 obtain⟨h2,h3⟩:=Lf.T.bU h1
 obtain rfl:=yO h2
 refine⟨.int .i64 0,fun _=>.ok (0,()),h3,AO ?_,?_⟩
 ·intro x' y' h'
  cases h'
  exact XI x'
 have KM:some (([.ag [.c 1 (.aB cr) bR.1,.c 2 (.aB pe) bR.2.1,.c 3 (.aB i64) bR.2.2.1,.c 4 (.aB iZ) bR.2.2.2.1,.c 5 (.aB iZ) bR.2.2.2.2.1,.c 6 (.aB pf) bR.2.2.2.2.2.1,.c 7 (.aB pg) bR.2.2.2.2.2.2.1,.c 0 i64 bR.2.2.2.2.2.2.2.1,.c 8 (.aB ph) bR.2.2.2.2.2.2.2.2.1,.c 9 (.aB pj) bR.2.2.2.2.2.2.2.2.2.1,.c 10 (.aB pn) bR.2.2.2.2.2.2.2.2.2.2.1]]:List Sv),([]:List Pl),(⟨11,.nil⟩:Hq))=some (args,[],H0):=by
  rw[<-hP]
  kernel_rfl
 cases KM
 have hG: ∀ id row,E0.G id=some row->h.aN.get id=some row:=fun id row g=>(hS.g id row g).2.1
 have Cp: ∀ {a:Sv} {l:List Sv} {m:List AV},Vs E0 11 (a::l) m-> ∃ c r,m=c::r/\V E0 11 a c/\Vs E0 11 l r:=by
  intro a l m hm
  cases hm with
  |cons p q=>exact⟨_,_,rfl,p,q⟩
 have XJ: ∀ {m:List AV},Vs E0 11 [] m->m=[]:=by
  intro m hm
  cases hm
  rfl
 have ev: ∀ {m:Nat} {t:Ty} {x:den t} {a:AV},V E0 11 (.c m t x) a->EV E0.G t x [a]:=by
  intro m t x a ha
  cases ha with
  |c kx _=>exact kx
 obtain⟨c0,r0,rfl,LO,hr0⟩:=Cp hv
 obtain rfl:=XJ hr0
 obtain⟨m,rfl,hm⟩: ∃ m,c0=.agg m/\Vs E0 11 [.c 1 (.aB cr) bR.1,.c 2 (.aB pe) bR.2.1,.c 3 (.aB i64) bR.2.2.1,.c 4 (.aB iZ) bR.2.2.2.1,.c 5 (.aB iZ) bR.2.2.2.2.1,.c 6 (.aB pf) bR.2.2.2.2.2.1,.c 7 (.aB pg) bR.2.2.2.2.2.2.1,.c 0 i64 bR.2.2.2.2.2.2.2.1,.c 8 (.aB ph) bR.2.2.2.2.2.2.2.2.1,.c 9 (.aB pj) bR.2.2.2.2.2.2.2.2.2.1,.c 10 (.aB pn) bR.2.2.2.2.2.2.2.2.2.2.1] m:=by
  cases LO with
  |ag q=>exact⟨_,rfl,q⟩
 obtain⟨b1,m1,rfl,v1,h1z⟩:=Cp hm
 obtain⟨b2,m2,rfl,v2,h2z⟩:=Cp h1z
 obtain⟨b3,m3,rfl,v3,h3z⟩:=Cp h2z
 obtain⟨b4,m4,rfl,v4,h4⟩:=Cp h3z
 obtain⟨b5,m5,rfl,v5,h5⟩:=Cp h4
 obtain⟨b6,m6,rfl,v6,h6⟩:=Cp h5
 obtain⟨b7,m7,rfl,v7,h7⟩:=Cp h6
 obtain⟨b8,m8,rfl,v8,h8⟩:=Cp h7
 obtain⟨b9,m9,rfl,v9,h9⟩:=Cp h8
 obtain⟨b10,m10,rfl,v10,Qe⟩:=Cp h9
 obtain⟨b11,m11,rfl,v11,h11⟩:=Cp Qe
 obtain rfl:=XJ h11
 have hE:EV E0.G KG xd [b1,b2,b3,b4,b5,b6,b7,b8,b9,b10,b11]:=⟨[b1],_,rfl,ev v1,⟨[b2],_,rfl,ev v2,⟨[b3],_,rfl,ev v3,⟨[b4],_,rfl,ev v4,⟨[b5],_,rfl,ev v5,⟨[b6],_,rfl,ev v6,⟨[b7],_,rfl,ev v7,⟨[b8],_,rfl,ev v8,⟨[b9],_,rfl,ev v9,⟨[b10],_,rfl,ev v10,ev v11⟩⟩⟩⟩⟩⟩⟩⟩⟩⟩
 obtain⟨cs',k1,k2⟩:=uD hG KG 7 xd _ (by decide) hE
 refine fun n d=>F7 rfl (az':=[.agg cs']) ?_ ?_ n (d+1)
 ·show(match(match mapA (mi 7 h) _ with|some l=>some (AV.agg l)|none=>none)with|some b=>some [b]|none=>none)=_
  rw[k1]
 ·show(bif @decide (56=56/\EV N0 KG xd cs') (Classical.propDecidable _)then some (AV.int .i64 0)else none)=_
  rw[@decide_eq_true _ (Classical.propDecidable _) ⟨rfl,k2⟩]
  rfl
theorem Gk:WL dD where
 st:=sO
 Pr:=KN
 c69:=KO
 Wx:=KP
 c71:=KQ
 YH:=KS
 Wy:=Ga
 Wz:=Gb
 WA:=Gc
 WB:=Gd
 WC:=Ge
 WD:=Gf
 WE:=Gg
 WG:=Gh
 WH:=Gi
 b49:=KU
 b50:=KV
 b52:=KW
 b53:=KX
 del:=Gj fun n d az h v h' e=>F9 e n (d+1)
 aw:=KY
 chk:=KZ
end Go.Proofs.Vq

noncomputable section
namespace Go.Proofs.Vq
open Go.Ab Go.Ab.Lf
set_option maxRecDepth 100000
abbrev jX:List Ty:=[i64,i64,i64,.aB bZ,.aB i64,i64]
abbrev fM:List Ty:=[i64,i64,i64,.aB bZ,.aB i64]
def AP:pR:=⟨0,pd Tryz.Sz.code 0,[0,1,2,3,8,9,10],(Ps [.n .i64,.n .i64,.n .i64,.im bZ,.pt 0 (Ps [.av (.sc (.slice none 0 0)),.av (.sc (.slice none 0 0))]),.pt 0 (Ps [.ow i64,.av (.sc (.slice none 0 0))]),.n .i64]),[⟨.wC,[0,1,2,3,8,9],(Ps [.n .i64,.n .i64,.n .i64,.im bZ,.pt 0 (Ps [.av (.sc (.slice none 0 0)),.av (.sc (.slice none 0 0))]),.pt 0 (Ps [.ow i64,.av (.sc (.slice none 0 0))])])⟩]⟩
def L8:List (Nat×cV):=[]
theorem Gl{aM:aV}(W:WQ aM):di aM L8:=.nil
def rk:List Pl->Lf.T Rs:=AP.step (fun _=>none) (iI L8 3) 3
def L9:fT:=wI AP rk jX fM
theorem Gm{aM:aV}(W:WQ aM):iD Rx.w L9 (fun n d=>hJ (aM n d) n (.bl 0 (.lp AP.body))):=jS (W.in (Gl W) 3) (bt _) (m:=3) jX fM
abbrev jb:List Ty:=[i64,i64,i64,.aB bZ,.aB i64,.aB i64,i64]
abbrev fN:List Ty:=[i64,i64,i64,.aB bZ,.aB i64,.aB i64]
def AQ:pR:=⟨2,pd Tryz.Sz.code 2,[0,1,2,3,8,9,11],(Ps [.n .i64,.n .i64,.n .i64,.im bZ,.pt 0 (Ps [.av (.sc (.slice none 0 0)),.av (.sc (.slice none 0 0))]),.pt 0 (Ps [.ow i64,.ow i64]),.n .i64]),[⟨.wC,[0,1,2,3,8,9],(Ps [.n .i64,.n .i64,.n .i64,.im bZ,.pt 0 (Ps [.av (.sc (.slice none 0 0)),.av (.sc (.slice none 0 0))]),.pt 0 (Ps [.ow i64,.ow i64])])⟩]⟩
def L':List (Nat×cV):=[]
theorem Gn{aM:aV}(W:WQ aM):di aM L':=.nil
def rm:List Pl->Lf.T Rs:=AQ.step (fun _=>none) (iI L' 3) 3
def Ma:fT:=wI AQ rm jb fN
theorem Gp{aM:aV}(W:WQ aM):iD Rx.w Ma (fun n d=>hJ (aM n d) n (.bl 2 (.lp AQ.body))):=jS (W.in (Gn W) 3) (bt _) (m:=3) jb fN
def L15:Nat->Option fT:=Fh [(0,L9),(2,Ma)]
abbrev xk:List Ty:=[i64,i64,i64,.aB bZ]
abbrev xl:List Ty:=[.aB cr,.aB eJ]
def XK:List (Nat×cV):=[]
theorem K3{aM:aV}(W:WQ aM):di aM XK:=.nil
def Qi(x:aL xk):Lf.T (List Pl):=iH (Ps [.n .i64,.n .i64,.n .i64,.im bZ]) [] (Ps [.ag (Ps [.ow cr,.ow eJ])]) L15 Tryz.Sz 3 (iI XK 3) (aX xk x)
def Gq(x:aL xk):Bool:=bO (ef xl (Qi x))
def Gr(x:aL xk):aL xl:=bO (cN xl (Qi x))
def XL:cV:=gg (Ps [.n .i64,.n .i64,.n .i64,.im bZ]) [] (Ps [.ag (Ps [.ow cr,.ow eJ])]) xk xl fun x=>.ck (Gq x) (.ok (Gr x))
theorem K4{aM:aV}(W:WQ aM):XL.Ok 15 aM:=
 bW (W.in (K3 W) 3) (W.st 15 _ rfl) rfl (nE.nA (.cons (b:=AP.body) (by kernel_rfl) (Gm W) (.cons (b:=AQ.body) (by kernel_rfl) (Gp W) .nil))) (m:=3) rfl (fun _=>ao _) (fun _=>ao _)
end Go.Proofs.Vq

noncomputable section
namespace Go.Proofs.Vq
open Go.Ab Go.Ab.Lf
set_option maxRecDepth 100000
abbrev l7:List Ty:=[.aB u64,u8,u8,i64,.aB bZ,i64]
abbrev gV:List Ty:=[.aB u64,u8,u8,i64,.aB bZ]
def K5:pR:=⟨0,pd Tryz.x4.code 0,[0,1,2,7,8,9],(Ps [.im u64,.n .u8,.n .u8,.n .i64,.ow bZ,.n .i64]),[⟨.wC,[0,1,2,7,8],(Ps [.im u64,.n .u8,.n .u8,.n .i64,.ow bZ])⟩]⟩
def XM:List (Nat×cV):=[]
theorem K6{aM:aV}(W:WQ aM):di aM XM:=.nil
def yU:List Pl->Lf.T Rs:=K5.step (fun _=>none) (iI XM 3) 3
def XN:fT:=wI K5 yU l7 gV
theorem K7{aM:aV}(W:WQ aM):iD Rx.w XN (fun n d=>hJ (aM n d) n (.bl 0 (.lp K5.body))):=jS (W.in (K6 W) 3) (bt _) (m:=3) l7 gV
def L4:Nat->Option fT:=Fh [(0,XN)]
abbrev Mb:List Ty:=[.aB u64,.int .u8,.int .u8]
abbrev uV:List Ty:=[.bool]
def e4(g:Cg):List (Nat×cV):=[(10,YQ),(14,s14 g),(15,XL),(16,s16)]
theorem XO{g:Cg}{aM:aV}(W:WL aM)(hg:(sG g).Ok 73 aM):di aM (e4 g):=(.cons W.aw (.cons (P5 W hg) (.cons (K4 W.toWQ) (.cons (P3 W.toWQ) .nil))))
def t4(g:Cg)(x:aL Mb):Lf.T (List Pl):=iH (Ps [.im u64,.n .u8,.n .u8]) [] (Ps [.bo]) L4 Tryz.x4 3 (iI (e4 g) 3) (aX Mb x)
def k4(g:Cg)(x:aL Mb):Bool:=bO (ef uV (t4 g x))
def m4(g:Cg)(x:aL Mb):aL uV:=bO (cN uV (t4 g x))
def s4(g:Cg):cV:=gg (Ps [.im u64,.n .u8,.n .u8]) [] (Ps [.bo]) Mb uV fun x=>.ck (k4 g x) (.ok (m4 g x))
theorem XP{g:Cg}{aM:aV}(W:WL aM)(hg:(sG g).Ok 73 aM):(s4 g).Ok 4 aM:=
 bW (W.toWQ.in (XO W hg) 3) (W.toWQ.st 4 _ rfl) rfl (nE.nA (.cons (b:=K5.body) (by kernel_rfl) (K7 W.toWQ) .nil)) (m:=3) rfl (fun _=>ao _) (fun _=>ao _)
end Go.Proofs.Vq

noncomputable section
namespace Go.Proofs.Vq
open Go.Ab Go.Ab.Lf
set_option maxRecDepth 100000
end Go.Proofs.Vq

noncomputable section
namespace Go.Proofs.Vq
open Go.Ab Go.Ab.Lf
set_option maxRecDepth 100000
abbrev tF3:List Ty:=[i64,.aB u64,.aB u64]
abbrev cL(x:Rn)(f f2:den eJ)(pc:Int)(st lo:List Int):aL eL:=ju (uy (uy tF3)) x (cFn (uy tF3) f (cFn tF3 f2 (pc,st,lo,())))
abbrev mC:List Ty:=[i64,i64,u64]
theorem Mc(g:Cg)(x:Rn)(f f2:den eJ)(pc:Int)(st lo:List Int)(cs:List (den bZ))(fh:cs=f.2.2.2.2.2.1)(c:den bZ)(hc:c=cs.getD pc.toNat (bJ bZ))(a:aL sL)(ha:a=aQ mC ⟨x,f2,pc,st,lo⟩ (c.1,c.2.1,c.2.2,()))(F:lT)(hF:F=bp (uA g a)):
 (lU g (aX eL (cL x f f2 pc st lo))).val=bif (bif decide (x.err=0)then decide (0<=pc)else false)then
  (bif decide ((cs.length:Int)<=pc)then(bif decide (x.err=0)then some (.out 0 (aX ep (aQ [] ⟨{x with err:=40},f2,pc,st,lo⟩ ())))else some (.out 0 (aX ep (aQ [] ⟨x,f2,pc,st,lo⟩ ()))))
   else bK (cg pc (cs.length:Int)) (bK (uz g a) (some (.next (aX eL (cL F.r f F.f F.pc F.st F.lo))))))
  else some (.out 0 (aX ep (aQ [] ⟨x,f2,pc,st,lo⟩ ()))):=by
 subst hF;subst ha;subst hc;subst fh
 kernel_rfl
theorem abF(g:Cg)(x:Rn)(f:Int)(az:List Int)(fn:den eJ)(Cc:fn=x.m.fns.getD f.toNat (bJ eJ))(a:aL eL)(ha:a=cL {x with depth:=bV .i64 x.depth 1} fn fn 0 [] (app az (List.replicate (fn.2.2.2.2.1:Int).toNat (0:Int))))(F:lT)(hF:F=bp (iE (lU g) eL ep a)):
 (t73 g (ju [i64,.aB u64] x (f,az,()))).val=bK (cg f (x.m.fns.length:Int)) (bif decide (0<=(fn.1:Int))then none else
  bif decide (x.depth=64)then(bif decide (x.err=0)then some (aX w8 ([],ju [] {x with err:=26} ()))else some (aX w8 ([],ju [] x ())))
  else bK (decide (az.length<=1099511627776)) (bK (decide ((fn.2.2.2.2.1:Int)=fn.2.2.2.2.1)) (bK (decide (0<=(fn.2.2.2.2.1:Int))) (bK (roomy 8 (az.length+(List.replicate (fn.2.2.2.2.1:Int).toNat (0:Int)).length))
   (bK (uS (lU g) eL ep a) (bK (decide (F.st.length<=1099511627776)) (some (aX w8 (F.st,ju [] {F.r with depth:=aW .i64 F.r.depth 1} ()))))))))):=by
 subst hF;subst ha;subst Cc
 kernel_rfl
end Go.Proofs.Vq
