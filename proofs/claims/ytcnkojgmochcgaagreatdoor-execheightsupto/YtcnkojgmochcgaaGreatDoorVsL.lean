import Derived.Test.YtcnkojgmochcgaaGreatDoorVrB
import Derived.Test.YtcnkojgmochcgaaGreatDoorVsL0
import Derived.Test.YtcnkojgmochcgaaGreatDoorVrC
import Derived.Test.YtcnkojgmochcgaaGreatDoorVbQ
import Derived.OpenShut
import Derived.ChangeSlices
import Derived.Test.YtcnkojgmochcgaaGreatDoorVvF
import Derived.Test.YtcnkojgmochcgaaGreatDoorAb23
noncomputable section
namespace Go.Ab
open Go.Ab.Lf Go.Sort Go.Proofs
def wx:List AV->Option (List Int)
 | []=>some []
 |a::r=>match a,wx r with
  | .int .u64 x,some l=>some (x::l)
  | _,_=>none
theorem Bs: ∀ {l:List AV} {d:List Int},wx l=some d->l=d.map (AV.int .u64)
 | [],d,h=>by cases h;rfl
 |a::r,d,h=>by
  unfold wx at h
  split at h
  ·rename_i x l h2
   cases h
   rw[Bs h2]
   rfl
  ·cases h
theorem Bt: ∀ (d:List Int),wx (d.map (AV.int .u64))=some d
 | []=>rfl
 |x::d=>by
  show(match AV.int .u64 x,wx (d.map (AV.int .u64))with| .int .u64 x,some l=>some (x::l)| _,_=>none)=_
  rw[Bt d]
def j1(d:List Int)(i j:Nat):List Int:=d.take i++d.drop j++List.replicate (j - i) 0
def Gw(az:List AV)(h:Hp):Ro:=match az with
 | [.dV id off n 1,.int .i64 i,.int .i64 j]=>bif decide (n=0)then(bif decide (i=0)&&decide (j=0)then .ok (.dV id off n 1) h else .bad)else
  match h.aU.get id with
  |some row=>(match row.jd off n with
   |some ls=>(match wx ls with
    |some d=>bif decide (0<=i/\i<=j/\j<=(n:Int)/\n<=9223372036854775807)then .ok (.dV id off (n - (j.toNat - i.toNat)) 1) (gY h id (some (row.put off ((j1 d i.toNat j.toNat).map (AV.int .u64)))))else .bad
    |none=>.bad)
   |none=>.bad)
  |none=>.bad
 | [a,.int .i64 i,.int .i64 j]=>bif dH a&&(decide (i=0)&&decide (j=0))then .ok a h else .bad
 | _=>.bad
def Qi(c:cY):cY:=fun f az h=>bif Nat.beq f 305 then Gw az h else c f az h
variable [Io]
theorem Bu{g:G}{w:World}: ∀ {d:List Int} {us:List Value},bQ g w (d.map (AV.int .u64)) us->us=d.map (Value.int .u64)
 | [],us,h=>by simpa[bQ]using h
 |x::d,us,h=>by
  simp only[List.map_cons,bQ,VR]at h
  obtain⟨v,l,rfl,rfl,h⟩:=h
  rw[Bu h]
  rfl
theorem tN{g:G}{w:World}: ∀ (d:List Int),bQ g w (d.map (AV.int .u64)) (d.map (Value.int .u64))
 | []=>by simp[bQ]
 |x::d=>by
  simp only[List.map_cons,bQ,VR]
  exact⟨_,_,rfl,rfl,tN d⟩
theorem Gx{g w h}(H:HR g w h)(q:Nat):Ext g w h g (Sort.ahead w q) h/\HR g (Sort.ahead w q) h:=by
 have E:Ext g w h g (Sort.ahead w q) h:=
  ⟨rfl,rfl,rfl,Nat.le_refl _,Nat.le_refl _,fun _ _ e=>e,fun _ _ _=>rfl,fun _=>Nat.le_refl _,fun _ i=>i,fun _ i=>.inl i,fun _ o=>.inl o⟩
 refine⟨E,H.fresh,?_,H.inj,H.eL,kY.ext H E⟩
 intro id cs e
 obtain⟨b,s,C,el,vs,hm,hw,hi,hv,hc⟩:=H.aU id cs e
 exact⟨b,s,C,el,vs,hm,hw,hi,bQ.mono H E _ _ hv,hc⟩
omit [Io] in
theorem Bv{α:Type}[Inhabited α](enc:α->Value)(o:Nat)(d:List α)(C:Array Value)(h:o+d.length<=C.size):
 putCells enc o d.toArray C=(C.toList.take o++d.map enc++C.toList.drop (o+(d.map enc).length)).toArray:=by
 apply Array.ext_getElem?
 intro k
 have l1:(C.toList.take o).length=o:=by simp;omega
 simp only[putCells,Array.getElem?_mapIdx,List.getElem?_toArray,List.size_toArray]
 by_cases h1:k<o
 ·rw[List.append_assoc,List.getElem?_append_left (by omega),List.getElem?_take_of_lt h1,Array.getElem?_toList]
  cases C[k]? with
  |none=>rfl
  |some y=>rw[Option.map_some,if_neg (by omega)]
 ·by_cases h2:k<o+d.length
  ·have hk:k<C.size:=by omega
   rw[List.append_assoc,List.getElem?_append_right (by omega),l1,List.getElem?_append_left (by simp;omega),Array.getElem?_eq_getElem hk,Option.map_some,if_pos ⟨by omega,h2⟩,List.getElem?_map]
   have hd:k - o<d.length:=by omega
   rw[List.getElem?_eq_getElem hd]
   simp[hd]
  ·rw[List.getElem?_append_right (by simp;omega),List.getElem?_drop,Array.getElem?_toList]
   rw[show o+(d.map enc).length+(k - (C.toList.take o++d.map enc).length)=k by simp;omega]
   cases C[k]? with
   |none=>rfl
   |some y=>rw[Option.map_some,if_neg (by omega)]
omit [Io] in
theorem wZ{α:Type}[Inhabited α](enc:α->Value)(w:World)(b o:Nat)(d:Array α){C:Array Value}{el:TypeId}{fz:Nat×Nat}(hw:w.heap[b]? =some (.cells C el fz)):putRow enc w b o d=w.setRow b (putCells enc o d C):=by
 unfold putRow mapBlock World.setRow
 congr 1
 apply Array.ext_getElem?
 intro k
 simp only[Array.getElem?_modify]
 by_cases hk:b=k
 ·subst hk
  rw[hw]
  rfl
 ·simp[hk]
theorem VO{c:cY}(hc:dR Tryz.prog c):dR Tryz.prog (Qi c):=by
 intro f az h v h' e
 unfold Qi at e
 cases hf:Nat.beq f 305 with
 |false=>rw[hf]at e;exact hc f az h v h' e
 |true=>
  obtain rfl:=Nat.eq_of_beq_eq_true hf
  rw[hf,cond_true]at e
  refine⟨Tryz.call305,fun g w vs H hv=>?_⟩
  have same: ∀ (a:AV) (u:Value) (ad:Option Addr) (cp:Nat),u=.slice ad 0 cp->VR g w a u->Calls Tryz.prog 305 #[u,.int .i64 0,.int .i64 0] w fun e w'=> ∃ x g',e=.returned x/\Ext g w h g' w' h/\HR g' w' h/\VR g' w' a x:=by
   rintro a u ad cp rfl ha
   refine(Tryz.Qh ad cp w).mono ?_
   rintro e w' ⟨rfl,rfl⟩
   exact⟨_,g,rfl,Ext.refl _ _ _,H,ha⟩
  unfold Gw at e
  split at e
  ·rename_i id off n i j
   simp only[bQ]at hv
   obtain⟨va,l,rfl,ha,vi,l,rfl,hi,vj,l,rfl,hj,rfl⟩:=hv
   simp only[VR]at hi hj
   subst hi;subst hj
   cases h0:decide (n=0)with
   |true=>
    obtain rfl:n=0:=of_decide_eq_true h0
    rw[h0,cond_true]at e
    cases hb:(decide (i=0)&&decide (j=0))with
    |false=>rw[hb]at e;cases e
    |true=>
     rw[hb]at e
     cases e
     simp only[Bool.and_eq_true,decide_eq_true_eq]at hb
     obtain⟨rfl,rfl⟩:=hb
     have WD:=ha
     simp only[VR]at ha
     rcases ha with⟨_,ad,rfl⟩|⟨b,s,cap,_,rfl,_⟩
     ·exact same _ _ _ _ rfl WD
     ·exact same _ _ _ _ rfl WD
   |false=>
    have hn:=of_decide_eq_false h0
    rw[h0,cond_false]at e
    split at e
    ·rename_i row hg
     split at e
     ·rename_i ls To
      split at e
      ·rename_i d hd
       cases hb:decide (0<=i/\i<=j/\j<=(n:Int)/\n<=9223372036854775807)with
       |false=>rw[hb]at e;cases e
       |true=>
        rw[hb]at e
        cases e
        obtain⟨b1,b2,b3,b4⟩:=of_decide_eq_true hb
        obtain⟨i,rfl⟩:=Int.eq_ofNat_of_zero_le b1
        obtain⟨j,rfl⟩:=Int.eq_ofNat_of_zero_le (Int.le_trans b1 b2)
        have b2:i<=j:=by omega
        have b3:j<=n:=by omega
        obtain rfl:=Bs hd
        obtain⟨q1,q2,q3⟩:=iz To
        have VP:d.length=n:=by rw[<-q2,List.length_map]
        simp only[VR]at ha
        rcases ha with⟨q,_⟩|⟨b,s,cap,hm,rfl,q8,hrs⟩
        ·exact(hn q).elim
        obtain⟨C,el,us,hw,_,eE,gu⟩:=H.row hg hm
        have WX:=eE.length
        rw[eM]at WX
        have hud:(us.drop off).take n=d.map (Value.int .u64):=Bu (by rw[q1];exact(eE.drop off).take n)
        have hC: ∀ k (hk:k<d.length),C[s+off+k]? =some (Value.int .u64 d[k]):=by
         intro k hk
         have:us[off+k]? =some (Value.int .u64 d[k]):=by
          have e:((us.drop off).take n)[k]? =some (Value.int .u64 d[k]):=by rw[hud];simp[hk]
          rw[List.getElem?_take_of_lt (by omega),List.getElem?_drop]at e
          exact e
         have:=gu _ _ this
         rwa [<-Nat.add_assoc]at this
        have hH:Holds (Value.int .u64) w b (s+off) d.toArray:=by
         intro k hk
         have wA:k<d.length:=by simpa using hk
         have hz:=(Array.getElem?_eq_some_iff.1 (hC k wA)).1
         refine⟨?_,?_⟩
         ·unfold World.cell?
          simp only[hw]
          show C[s+off+k]? =_
          rw[hC k wA]
          simp[wA]
         ·unfold World.frozen?
          simp only[hw]
          have:=el.ok (s+off+k) hz
          simpa using this
        have pO:s+off+d.length<=C.size:=by
         have h0:d.length - 1<d.length:=by omega
         have:=(Array.getElem?_eq_some_iff.1 (hC (d.length - 1) h0)).1
         omega
        have key:=Tryz.VM b (s+off) cap i j d.toArray w hH (by simpa[VP]using q8) (by simpa[VP]using b4) b2 (by simpa[VP]using b3)
        have hnd:d.toArray.size=n:=by simpa using VP
        rw[hnd]at key
        refine key.mono ?_
        rintro e w' ⟨rfl,q,rfl⟩
        obtain⟨E1,H1⟩:=Gx H q
        have VQ:(j1 d i j).length=n:=by unfold j1;simp;omega
        have eqW:putRow (Value.int .u64) (Sort.ahead w q) b (s+off) (d.toArray.toList.take i++d.toArray.toList.drop j++List.replicate (j - i) 0).toArray=(Sort.ahead w q).setRow b (putCells (Value.int .u64) (s+off) (j1 d i j).toArray C):=wZ _ _ _ _ _ hw
        have eqC:=Bv (Value.int .u64) (s+off) (j1 d i j) C (by rw[VQ];omega)
        rw[eqW,eqC]
        have oD:s+off+((j1 d i j).map (Value.int .u64)).length<=C.size:=by rw[List.length_map,VQ];omega
        obtain⟨E2,H2⟩:=sN H1 (C':=(C.toList.take (s+off)++(j1 d i j).map (Value.int .u64)++C.toList.drop (s+off+((j1 d i j).map (Value.int .u64)).length)).toArray)
         hg hm hw (by simp at oD ⊢;omega) (cs':=row.put off ((j1 d i j).map (AV.int .u64))) (us:=us.take off++((j1 d i j).map (Value.int .u64)++us.drop (off+((j1 d i j).map (Value.int .u64)).length)))
         (by
          have adq:=bQ.mono H E1 _ _ eE
          rw[pL (by rw[List.length_map,VQ];exact q3),put_eq,List.length_map,List.length_map]
          exact(adq.take _).append ((tN _).append (adq.drop _)))
         (fun j v e=>yd gu oD j v e (by omega))
        refine⟨_,g,rfl,E1.trans E2,H2,?_⟩
        simp only[VR]
        refine .inr ⟨b,s,cap,hm,?_,by omega,Nat.le_trans hrs ((E1.trans E2).rows b)⟩
        simp only[Int.toNat_natCast]
      ·cases e
     ·cases e
    ·cases e
  ·rename_i a i j hna
   simp only[bQ]at hv
   obtain⟨va,l,rfl,ha,vi,l,rfl,hi,vj,l,rfl,hj,rfl⟩:=hv
   simp only[VR]at hi hj
   subst hi;subst hj
   cases hb:(dH a&&(decide (i=0)&&decide (j=0)))with
   |false=>rw[hb]at e;cases e
   |true=>
    rw[hb]at e
    cases e
    simp only[Bool.and_eq_true,decide_eq_true_eq]at hb
    obtain⟨he,rfl,rfl⟩:=hb
    have WD:=ha
    cases v with
    |eD=>simp only[VR]at ha;obtain⟨ad,rfl⟩:=ha;exact same _ _ _ _ rfl WD
    |mI=>simp only[VR]at ha;obtain⟨ad,rfl⟩:=ha;exact same _ _ _ _ rfl WD
    |sc x=>
     have he:isNil (.sc x)=true:=he
     unfold isNil at he
     split at he
     ·rename_i n c e
      injection e with e
      subst e
      obtain⟨he1,_⟩:=Bool.and_eq_true_iff.1 he
      obtain rfl:=Nat.eq_of_beq_eq_true he1
      simp only[VR]at ha
      obtain⟨rfl,_⟩:=ha
      exact same _ _ _ _ rfl WD
     ·cases he
    | _=>cases he
  ·cases e
end Go.Ab

noncomputable section
namespace Go.Proofs.Vq
open Go.Ab Go.Ab.Lf Go.RowKit
set_option maxRecDepth 100000
def VS(k:IntKind)(b:Int)(F:Int->Int):List AV->Option AV
 | [.int k' x]=>bif decide (k'=k)&&(decide (0<=x)&&decide (x<=b))then some (.int .i64 (F x))else none
 | _=>none
theorem zg[Io]{f:FuncId}{k:IntKind}{b:Int}{F:Int->Int}(hk: ∀ x,0<=x->x<=b->cU Tryz.prog f [.int k x] (.int .i64 (F x))){az:List AV}{v:AV}(h:VS k b F az=some v):cU Tryz.prog f az v:=by
 unfold VS at h
 split at h
 ·rename_i k' x
  cases hb:(decide (k'=k)&&(decide (0<=x)&&decide (x<=b)))with
  |false=>rw[hb]at h;cases h
  |true=>
   rw[hb]at h
   cases h
   simp only[Bool.and_eq_true,decide_eq_true_eq]at hb
   obtain⟨rfl,h1,h2⟩:=hb
   exact hk x h1 h2
 ·cases h
def tO(f:FuncId)(az:List AV):Option AV:=bif La f then Qg f az else
 bif Nat.beq f 10 then(match az with| []=>some (.bool true)| _=>none)else
 bif Nat.beq f 49 then VS .u32 4294967295 (lz 32) az else
 bif Nat.beq f 50 then VS .u32 4294967295 (tz 32) az else
 bif Nat.beq f 52 then VS .u64 18446744073709551615 (lz 64) az else
 bif Nat.beq f 53 then VS .u64 18446744073709551615 (tz 64) az else none
theorem VT: ∀ f az v,tO f az=some v-> @cU tv Tryz.prog f az v:=by
 intro f az v h
 unfold tO at h
 cases hc:La f with
 |true=>rw[hc]at h;exact Df f az v h
 |false=>
  rw[hc,cond_false]at h
  cases Kt:Nat.beq f 10 with
  |true=>
   rw[Kt,cond_true]at h
   obtain rfl:=Nat.eq_of_beq_eq_true Kt
   split at h
   ·cases h;exact ahU
   ·cases h
  |false=>
   rw[Kt,cond_false]at h
   cases h49:Nat.beq f 49 with
   |true=>rw[h49,cond_true]at h;obtain rfl:=Nat.eq_of_beq_eq_true h49;exact @zg tv _ _ _ _ (fun x a b=>ahP x a b) _ _ h
   |false=>
    rw[h49,cond_false]at h
    cases h50:Nat.beq f 50 with
    |true=>rw[h50,cond_true]at h;obtain rfl:=Nat.eq_of_beq_eq_true h50;exact @zg tv _ _ _ _ (fun x a b=>ahR x a b) _ _ h
    |false=>
     rw[h50,cond_false]at h
     cases h52:Nat.beq f 52 with
     |true=>rw[h52,cond_true]at h;obtain rfl:=Nat.eq_of_beq_eq_true h52;exact @zg tv _ _ _ _ (fun x a b=>ahQ x a b) _ _ h
     |false=>
      rw[h52,cond_false]at h
      cases h53:Nat.beq f 53 with
      |true=>rw[h53,cond_true]at h;obtain rfl:=Nat.eq_of_beq_eq_true h53;exact @zg tv _ _ _ _ (fun x a b=>ahS x a b) _ _ h
      |false=>rw[h53]at h;cases h
def VU(f:FuncId)(az:List AV):Option AV:=match az with
 | [.agg m]=>bif @decide (f=56/\EV N0 Qf Br m) (Classical.propDecidable _)then some (.int .i64 0)else none
 | _=>none
theorem VV: ∀ f az v,VU f az=some v-> @cU tv Tryz.prog f az v:=by
 intro f az v h
 unfold VU at h
 split at h
 ·rename_i m
  cases hd: @decide (f=56/\EV N0 Qf Br m) (Classical.propDecidable _)with
  |false=>rw[hd]at h;cases h
  |true=>
   rw[hd]at h
   cases h
   obtain⟨rfl,hm⟩:= @of_decide_eq_true _ (Classical.propDecidable _) hd
   exact ahV hm
 ·cases h
def zh(f:FuncId):Bool:=Nat.beq f 56
def sd(c:cY):cY:=SP zh VU (EU tO (Qi c))
def fp(n d:Nat):cY:=sd (rz Tryz.gt sd n d)
theorem Qj(n d:Nat): @dR tv Tryz.prog (fp n d):=
 have hw: ∀ c,@dR tv Tryz.prog c-> @dR tv Tryz.prog (sd c):=fun _ hc=> @Na tv _ _ _ _ VV (@De tv _ _ VT _ (@VO tv _ hc))
 hw _ (@vz tv _ _ (@DJ tv _ Tryz.mixed) _ Tryz.gts _ hw n d)
theorem Lb{f:FuncId}{az az':List AV}{v:AV}{h:Hp}(hf:zh f=true)(hz:mapA (qD 8 h) az=some az')(ht:VU f az'=some v)(n d:Nat):fp n d f az h=.ok v h:=by
 show(Bool.rec (EU tO _ f az h) (match mapA (qD 8 h) az with|some o9=>(match VU f o9 with|some v=>Ro.ok v h|none=>EU tO (Qi (rz Tryz.gt sd n d)) f az h)|none=>EU tO (Qi (rz Tryz.gt sd n d)) f az h) (zh f):Ro)=_
 rw[hf,hz]
 dsimp only
 rw[ht]
theorem uO{f:FuncId}{az:List AV}{v:AV}{h:Hp}(hf:zh f=false)(hl:tO f az=some v)(n d:Nat):fp n d f az h=.ok v h:=by
 show(Bool.rec (EU tO _ f az h) (match mapA (qD 8 h) az with|some o9=>(match VU f o9 with|some v=>Ro.ok v h|none=>EU tO (Qi (rz Tryz.gt sd n d)) f az h)|none=>EU tO (Qi (rz Tryz.gt sd n d)) f az h) (zh f):Ro)=_
 rw[hf]
 show(match tO f az with|some v=>Ro.ok v h|none=>_)=_
 rw[hl]
theorem nE{f:FuncId}{b:cQ}(hf:Tryz.xs.get f=some b)(hh:zh f=false){n d:Nat}{az:List AV}{h:Hp}(hl:tO f az=none)(h3:Nat.beq f 305=false):fp n (d+1) f az h=vP b.fb n (fp n d) az h:=by
 show(Bool.rec (EU tO _ f az h) (match mapA (qD 8 h) az with|some o9=>(match VU f o9 with|some v=>Ro.ok v h|none=>EU tO (Qi (rz Tryz.gt sd n (d+1))) f az h)|none=>EU tO (Qi (rz Tryz.gt sd n (d+1))) f az h) (zh f):Ro)=_
 rw[hh]
 show(match tO f az with|some v=>Ro.ok v h|none=>(bif Nat.beq f 305 then Gw az h else Am Tryz.gt n (fp n d) f az h))=_
 rw[hl]
 dsimp only
 rw[h3,cond_false]
 show Am Tryz.gt n (fp n d) f az h=_
 unfold Am
 rw[Tryz.ade hf]
 rfl
theorem Lc{az:List AV}{v:AV}{h h':Hp}(e:Gw az h=.ok v h')(n d:Nat):fp n d 305 az h=.ok v h':=e
theorem zi{f:FuncId}(h:La f=true):Nat.beq f 305=false:=by
 cases hb:Nat.beq f 305 with
 |false=>rfl
 |true=>obtain rfl:=Nat.eq_of_beq_eq_true hb;cases h
theorem VW{f:FuncId}{b:cQ}(hC:La f=true)(hf:Tryz.xs.get f=some b)(hb:Wp f=some b): ∀ n d h,vP b.fb n (fp n d) [.eD] h=.bad/\vP b.fb n (fp n d) [.iw 0 []] h=.bad:=by
 unfold La at hC
 simp only[Bool.or_eq_true]at hC
 rcases hC with((((((((((((h|h)|h)|h)|h)|h)|h)|h)|h)|h)|h)|h)|h)|h
 ·obtain rfl:=Nat.eq_of_beq_eq_true h;obtain rfl:b=Tryz.x67:=(Option.some.inj hf).symm;exact fun n d h=>⟨by kernel_rfl,by kernel_rfl⟩
 ·obtain rfl:=Nat.eq_of_beq_eq_true h;obtain rfl:b=Tryz.x69:=(Option.some.inj hf).symm;exact fun n d h=>⟨by kernel_rfl,by kernel_rfl⟩
 ·obtain rfl:=Nat.eq_of_beq_eq_true h;obtain rfl:b=Tryz.x70:=(Option.some.inj hf).symm;exact fun n d h=>⟨by kernel_rfl,by kernel_rfl⟩
 ·obtain rfl:=Nat.eq_of_beq_eq_true h;obtain rfl:b=Tryz.x71:=(Option.some.inj hf).symm;exact fun n d h=>⟨by kernel_rfl,by kernel_rfl⟩
 ·obtain rfl:=Nat.eq_of_beq_eq_true h;obtain rfl:b=Tryz.x72:=(Option.some.inj hf).symm;exact fun n d h=>⟨by kernel_rfl,by kernel_rfl⟩
 ·obtain rfl:=Nat.eq_of_beq_eq_true h;obtain rfl:b=Tryz.Of:=(Option.some.inj hf).symm;exact fun n d h=>⟨by kernel_rfl,by kernel_rfl⟩
 ·obtain rfl:=Nat.eq_of_beq_eq_true h;obtain rfl:b=Tryz.Og:=(Option.some.inj hf).symm;exact fun n d h=>⟨by kernel_rfl,by kernel_rfl⟩
 ·obtain rfl:=Nat.eq_of_beq_eq_true h;obtain rfl:b=Tryz.Oh:=(Option.some.inj hf).symm;exact fun n d h=>⟨by kernel_rfl,by kernel_rfl⟩
 ·obtain rfl:=Nat.eq_of_beq_eq_true h;obtain rfl:b=Tryz.Oi:=(Option.some.inj hf).symm;exact fun n d h=>⟨by kernel_rfl,by kernel_rfl⟩
 ·obtain rfl:=Nat.eq_of_beq_eq_true h;obtain rfl:b=Tryz.Oj:=(Option.some.inj hf).symm;exact fun n d h=>⟨by kernel_rfl,by kernel_rfl⟩
 ·obtain rfl:=Nat.eq_of_beq_eq_true h;obtain rfl:b=Tryz.Ol:=(Option.some.inj hf).symm;exact fun n d h=>⟨by kernel_rfl,by kernel_rfl⟩
 ·obtain rfl:=Nat.eq_of_beq_eq_true h;obtain rfl:b=Tryz.Om:=(Option.some.inj hf).symm;exact fun n d h=>⟨by kernel_rfl,by kernel_rfl⟩
 ·obtain rfl:=Nat.eq_of_beq_eq_true h;obtain rfl:b=Tryz.On:=(Option.some.inj hf).symm;exact fun n d h=>⟨by kernel_rfl,by kernel_rfl⟩
 ·obtain rfl:=Nat.eq_of_beq_eq_true h;obtain rfl:b=Tryz.Oo:=(Option.some.inj hf).symm;exact fun n d h=>⟨by kernel_rfl,by kernel_rfl⟩
theorem xQ: ∀ f b,Wp f=some b->pj fp f b:=by
 intro f b hb n d az h c h' e
 have Xi:=hb
 unfold Wp at hb
 cases hx:exQ f with
 |true=>rw[hx]at hb;cases hb
 |false=>
  rw[hx,cond_false]at hb
  unfold exQ at hx
  simp only[Bool.or_eq_false_iff]at hx
  obtain⟨Kt,h56,adv,_,h49,h50,h52,h53⟩:=hx
  cases hC:La f with
  |false=>
   rw[nE hb h56 (by unfold tO;rw[hC,Kt,h49,h50,h52,h53];rfl) adv]
   exact e
  |true=>
   obtain⟨q1,q2⟩:=VW hC hb Xi n d h
   have hl:tO f az=none:=by
    unfold tO
    rw[hC,cond_true]
    unfold Qg
    rw[hC,cond_true]
    cases h1:i6 [.eD] az with
    |true=>obtain rfl:=iC _ _ h1;rw[q1]at e;cases e
    |false=>
     rw[cond_false]
     cases h2:i6 [.iw 0 []] az with
     |true=>obtain rfl:=iC _ _ h2;rw[q2]at e;cases e
     |false=>rfl
   rw[nE hb h56 hl adv]
   exact e
end Go.Proofs.Vq

noncomputable section
namespace Go.Proofs.Vq
open Go.Ab Go.Ab.Lf Go.RowKit
set_option maxRecDepth 100000
theorem zj{P:kR}{ptr:List Nat}{Q:kR}{ti to:List Ty}{g:aG ti->Lf.T (aG to)}{pl q:List Pl}(h:((j7 P ptr Q ti to g).f pl).val=some q): ∃ x y,pl=aH ti x/\(g x).val=some y/\q=aH to y:=by
 change (match toT ti pl with|some x=>(g x).map (aH to)|none=>.bad).val=some q at h
 split at h
 ·rename_i x hx
  obtain⟨y,h1,h2⟩:=T.D8 h
  exact⟨x,y,po hx,h1,h2⟩
 ·cases h
theorem zk{P:kR}{ptr:List Nat}{Q:kR}{ti to:List Ty}{g:aG ti->Lf.T (aG to)}{x:aG ti}{y:aG to}(h:(g x).val=some y):((j7 P ptr Q ti to g).f (aH ti x)).val=some (aH to y):=by
 show(match toT ti (aH ti x)with|some x=>(g x).map (aH to)|none=>.bad).val=_
 rw[mR]
 show((g x).bd fun a=>Lf.T.ok (aH to a)).val=_
 rw[Lf.T.I8,h]
 rfl
abbrev rC(c:AV):cQ:=Go.Ab.X.bu 8 [.tmp 2] fun _ _=>(Go.Ab.X.af (Go.Ab.X.ah (Go.Ab.X.st 2 (Go.Ab.X.aa (Go.Ab.X.oC c)) Go.Ab.X.fi)) Go.Ab.X.bg)
theorem Qk(c0:AV)(f:FuncId):pj (fun _ _ _ _ h=>.ok c0 h) f (rC c0):=by
 intro n d az h c h' e
 have e:(gD (Nat.ble (len az) 8) (.ok c0 h) .bad:Go.Ab.Ro)=.ok c h':=e
 cases hb:Nat.ble (len az) 8 with
 |true=>rw[hb]at e;exact e
 |false=>rw[hb]at e;cases e
theorem EX(aR:bb):qI (fun _ _ _=>.bad) aR:=fun _ _ _ _ _ _ _ _ _ _ e=>by cases e
theorem Ld{P Q:kR}{ti to:List Ty}{g:aG ti->Lf.T (aG to)}{f:FuncId}{aR:bb}
 (k: ∀ x y args H0 (E0:En) h az,(g x).val=some y->eQ P (aH ti x) e1=some (args,[],H0)->Vs E0 H0.next args az->SR E0 (eS H0) h-> ∃ c g',(g' x).val=some y/\(j7 P [] Q ti to g').Ok f (fun _ _ _ _ h=>.ok c h)/\ ∀ n d,aR n (d+1) f az h=.ok c h):(j7 P [] Q ti to g).Ok f aR:=by
 intro pl q args H0 E0 h az e hP hv hS
 obtain⟨x,y,rfl,h1,rfl⟩:=zj e
 obtain⟨c,g',hg,k1,k2⟩:=k x y args H0 E0 h az h1 hP hv hS
 obtain⟨c',h',E1,ws,H1,⟨M,hM⟩,r⟩:=k1 _ (aH to y) _ _ E0 h az (zk hg) hP hv hS
 have hM:=hM M M (Nat.le_refl _) (Nat.le_refl _)
 cases hM
 refine⟨_,_,E1,ws,H1,⟨1,fun n d _ hd=>?_⟩,r⟩
 obtain⟨d,rfl⟩: ∃ d',d=d'+1:=⟨d - 1,by omega⟩
 exact k2 n d
theorem EY{P Q:kR}{ti to:List Ty}{g:aG ti->Lf.T (aG to)}{f:FuncId}{c:AV}(e: ∀ x y,(g x).val=some y->(mg P [] Q (fun _=>none) (rC c) 3 (fun _ _ _=>.bad) (aH ti x)).val=some (aH to y)):(j7 P [] Q ti to g).Ok f (fun _ _ _ _ h=>.ok c h):=
 tc (EX _) (Qk c f) rfl (bU _) (m:=3) rfl fun x y h=>e x y h
abbrev PI(t:Ty):kR:=.cons (.im t) .nil
abbrev PO(t:Ty):kR:=.cons (.ow t) .nil
theorem Bw{t:Ty}{f:FuncId}{c:AV}(e:(mg (PI t) [] (PO t) (fun _=>none) (rC c) 3 (fun _ _ _=>.bad) (aH [.aC t] ([],()))).val=some (aH [.aC t] ([],()))):(j7 (PI t) [] (PO t) [.aC t] [.aC t] fun x=>.ck (decide (List.length x.1=0)) (.ok ([],()))).Ok f (fun _ _ _ _ h=>.ok c h):=by
 refine EY ?_
 rintro⟨x,⟨⟩⟩ q h
 obtain⟨h1,h⟩:=Lf.T.dj h
 cases h
 obtain rfl:x=[]:=List.eq_nil_of_length_eq_zero (of_decide_eq_true h1)
 exact e
theorem gB{t:Ty}{f:FuncId}{b:cQ}{B sz:Nat}(hb:Wp f=some b)(hx:Tryz.xs.get f=some b)(wL:Nat.ble b.ntmps 512=true)(hC:La f=true)(hh:zh f=false)(hB:B*sz<=70368744177664/\B<=70368744177664)
 (e: ∀ x:List (den t),(mg (PI t) [] (PO t) (fun _=>none) b 3 (fun _ _ _=>.bad) (aH [.aC t] (x,()))).val=bJ (!(Nat.beq (List.length x) 0)) (bJ (roomy sz (0+List.length x)) (some (aH [.aC t] (app [] x,())))))
 (Mr:(mg (PI t) [] (PO t) (fun _=>none) (rC .eD) 3 (fun _ _ _=>.bad) (aH [.aC t] ([],()))).val=some (aH [.aC t] ([],())))
 (e2':(mg (PI t) [] (PO t) (fun _=>none) (rC .mI) 3 (fun _ _ _=>.bad) (aH [.aC t] ([],()))).val=some (aH [.aC t] ([],())))
 (e3':(mg (PI t) [] (PO t) (fun _=>none) (rC (.sc (.slice none 0 0))) 3 (fun _ _ _=>.bad) (aH [.aC t] ([],()))).val=some (aH [.aC t] ([],())))
 (s2: ∀ n d h,vP b.fb n (fp n d) [.mI] h=.ok .mI h)(s3: ∀ n d h,vP b.fb n (fp n d) [.sc (.slice none 0 0)] h=.ok (.sc (.slice none 0 0)) h)(s4: ∀ n d h id base,vP b.fb n (fp n d) [.dV id base 0 (size t)] h=.ok .mI h):
 (j7 (PI t) [] (PO t) [.aC t] [.aC t] fun x=>.ck (decide (List.length x.1<=B)) (.ok (x.1,()))).Ok f fp:=by
 have lkE:tO f [.eD]=some .eD:=by unfold tO Qg;rw[hC];rfl
 have lkI:tO f [.iw 0 []]=some .eD:=by unfold tO Qg;rw[hC];rfl
 have nx: ∀ az,i6 [.eD] az=false->i6 [.iw 0 []] az=false->tO f az=none:=by
  intro az h1 h2
  unfold tO Qg
  rw[hC,h1,h2]
  rfl
 have hN:(j7 (PI t) [] (PO t) [.aC t] [.aC t] fun x=>.ck (decide (List.length x.1<=B)&& !decide (List.length x.1=0)) (.ok (x.1,()))).Ok f fp:=by
  refine tc (EX _) (xQ f b hb) wL (bU _) (m:=3) rfl ?_
  rintro⟨x,⟨⟩⟩ q h
  obtain⟨h1,h⟩:=Lf.T.dj h
  cases h
  simp only[Bool.and_eq_true,Bool.not_eq_true',decide_eq_true_eq,decide_eq_false_iff_not]at h1
  have c1:Nat.beq (List.length x) 0=false:=by
   cases hb:Nat.beq (List.length x) 0 with
   |false=>rfl
   |true=>exact(h1.2 (Nat.eq_of_beq_eq_true hb)).elim
  refine(e x).trans ?_
  rw[c1,show roomy sz (0+List.length x)=true from nq.2 ⟨by rw[Nat.zero_add];exact Nat.le_trans (Nat.mul_le_mul_right sz h1.1) hB.1,by have:=h1.1;omega⟩,dn]
  rfl
 intro pl q args H0 E0 h az e0 hP hv hS
 obtain⟨⟨x,⟨⟩⟩,⟨y,⟨⟩⟩,rfl,h1,rfl⟩:=zj e0
 obtain⟨h2,h3⟩:=Lf.T.dj h1
 have h3:y=x:=by
  injection h3 with h3
  exact(congrArg Prod.fst h3).symm
 subst h3
 by_cases hy:y=[]
 ·subst hy
  have Ql:some (([.c 1 (.aC t) []]:List Sv),([]:List Pl),(⟨2,.nil⟩:Hq))=some (args,[],H0):=(th AW).symm.trans hP
  cases Ql
  obtain⟨a,rfl,ha⟩: ∃ a,az=[a]/\EV E0.G (.aC t) [] [a]:=by
   cases hv with
   |cons ha hr=>
    cases hr
    cases ha with
    |c k _=>exact⟨_,rfl,k⟩
  have fin: ∀ c0:AV,(j7 (PI t) [] (PO t) [.aC t] [.aC t] fun x=>.ck (decide (List.length x.1=0)) (.ok ([],()))).Ok f (fun _ _ _ _ h=>.ok c0 h)->(∀ n d,fp n (d+1) f [a] h=.ok c0 h)-> ∃ c h' E1 ws H1,Ev (fun n d=>fp n d f [a] h) (.ok c h')/\Ox E0 E1 (eS ⟨2,.nil⟩) H1 h h'/\SR E1 H1 h'/\eQ (PO t) (aH [.aC t] ([],())) Lf.e1=some (ws,[],H1)/\Vs E1 H1.next ws (c::([]:List Nat).map E0.A):=by
   intro c0 k hc
   obtain⟨c,h',E1,ws,H1,⟨M,hM⟩,r⟩:=k _ (aH [.aC t] ([],())) _ _ E0 h [a] (zk (P:=PI t) (ptr:=[]) (Q:=PO t) (ti:=[.aC t]) (to:=[.aC t]) (x:=(([]:List (den t)),())) (y:=(([]:List (den t)),())) rfl) hP hv hS
   have hM:=hM M M (Nat.le_refl _) (Nat.le_refl _)
   cases hM
   refine⟨c0,h,E1,ws,H1,⟨1,fun n d _ hd=>?_⟩,r⟩
   obtain⟨d,rfl⟩: ∃ d',d=d'+1:=⟨d - 1,by omega⟩
   exact hc n d
  obtain⟨a',q1,k⟩: ∃ a',[a]=[a']/\DT E0.G t (EV E0.G t) [] a':=ha
  injection q1 with q1
  subst q1
  rcases k with⟨k,_⟩|⟨ls,k1,k2⟩
  ·cases a with
   |eD=>exact fin .eD (Bw Mr) fun n d=>uO hh lkE n (d+1)
   |mI=>exact fin .mI (Bw e2') fun n d=>(nE hx hh (nx _ rfl rfl) (zi hC)).trans (s2 n d h)
   |sc v=>
    obtain rfl:v=.slice none 0 0:=by
     have k:isNil (.sc v)=true:=k
     unfold isNil at k
     split at k
     ·rename_i n c e
      injection e with e
      subst e
      have k:(Nat.beq n 0&&Nat.beq c 0)=true:=by assumption
      rw[Bool.and_eq_true]at k
      obtain rfl:=Nat.eq_of_beq_eq_true k.1
      obtain rfl:=Nat.eq_of_beq_eq_true k.2
      rfl
     ·cases k
    exact fin _ (Bw e3') fun n d=>(nE hx hh (nx _ rfl rfl) (zi hC)).trans (s3 n d h)
   | _=>cases k
  ·have hl:ls=[]:=k1
   subst hl
   rcases k2 with k2|⟨id,base,row,k2,_,_⟩
   ·subst k2
    exact fin .eD (Bw Mr) fun n d=>uO hh lkI n (d+1)
   ·subst k2
    exact fin .mI (Bw e2') fun n d=>(nE hx hh (nx _ rfl rfl) (zi hC)).trans (s4 n d h id base)
 ·have hn:((j7 (PI t) [] (PO t) [.aC t] [.aC t] fun x=>.ck (decide (List.length x.1<=B)&& !decide (List.length x.1=0)) (.ok (x.1,()))).f (aH [.aC t] (y,()))).val=some (aH [.aC t] (y,())):=by
   refine zk (P:=PI t) (ptr:=[]) (Q:=PO t) (ti:=[.aC t]) (to:=[.aC t]) (x:=(y,())) (y:=(y,())) ?_
   show(bif (decide (List.length y<=B)&& !decide (List.length y=0))then some (y,())else none)=_
   rw[show decide (List.length y<=B)=true from h2,decide_eq_false (fun q=>hy (List.eq_nil_of_length_eq_zero q))]
   rfl
  exact hN _ _ args H0 E0 h az hn hP hv hS
theorem Qm:(l8 u64).Ok 67 fp:=gB (b:=Tryz.x67) (B:=1099511627776) (sz:=8) (by kernel_rfl) (by kernel_rfl) rfl (by kernel_rfl) (by kernel_rfl) (by decide) (fun x=>by kernel_rfl) (by kernel_rfl) (by kernel_rfl) (by kernel_rfl) (fun n d h=>by kernel_rfl) (fun n d h=>by kernel_rfl) (fun n d h id base=>by kernel_rfl)
theorem Qn:(l8 bz).Ok 69 fp:=gB (b:=Tryz.x69) (B:=1099511627776) (sz:=48) (by kernel_rfl) (by kernel_rfl) rfl (by kernel_rfl) (by kernel_rfl) (by decide) (fun x=>by kernel_rfl) (by kernel_rfl) (by kernel_rfl) (by kernel_rfl) (fun n d h=>by kernel_rfl) (fun n d h=>by kernel_rfl) (fun n d h id base=>by kernel_rfl)
theorem Qo:(l8 i64).Ok 70 fp:=gB (b:=Tryz.x70) (B:=1099511627776) (sz:=8) (by kernel_rfl) (by kernel_rfl) rfl (by kernel_rfl) (by kernel_rfl) (by decide) (fun x=>by kernel_rfl) (by kernel_rfl) (by kernel_rfl) (by kernel_rfl) (fun n d h=>by kernel_rfl) (fun n d h=>by kernel_rfl) (fun n d h id base=>by kernel_rfl)
theorem Qp:(Ov).Ok 71 fp:=gB (b:=Tryz.x71) (B:=549755813888) (sz:=88) (by kernel_rfl) (by kernel_rfl) rfl (by kernel_rfl) (by kernel_rfl) (by decide) (fun x=>by kernel_rfl) (by kernel_rfl) (by kernel_rfl) (by kernel_rfl) (fun n d h=>by kernel_rfl) (fun n d h=>by kernel_rfl) (fun n d h id base=>by kernel_rfl)
theorem Qq:(l8 bE).Ok 72 fp:=gB (b:=Tryz.x72) (B:=1099511627776) (sz:=24) (by kernel_rfl) (by kernel_rfl) rfl (by kernel_rfl) (by kernel_rfl) (by decide) (fun x=>by kernel_rfl) (by kernel_rfl) (by kernel_rfl) (by kernel_rfl) (fun n d h=>by kernel_rfl) (fun n d h=>by kernel_rfl) (fun n d h id base=>by kernel_rfl)
theorem Le:(l8 tZ).Ok 116 fp:=gB (b:=Tryz.Of) (B:=1099511627776) (sz:=40) (by kernel_rfl) (by kernel_rfl) rfl (by kernel_rfl) (by kernel_rfl) (by decide) (fun x=>by kernel_rfl) (by kernel_rfl) (by kernel_rfl) (by kernel_rfl) (fun n d h=>by kernel_rfl) (fun n d h=>by kernel_rfl) (fun n d h id base=>by kernel_rfl)
theorem Lg:(l8 mS).Ok 117 fp:=gB (b:=Tryz.Og) (B:=1099511627776) (sz:=16) (by kernel_rfl) (by kernel_rfl) rfl (by kernel_rfl) (by kernel_rfl) (by decide) (fun x=>by kernel_rfl) (by kernel_rfl) (by kernel_rfl) (by kernel_rfl) (fun n d h=>by kernel_rfl) (fun n d h=>by kernel_rfl) (fun n d h id base=>by kernel_rfl)
theorem Lh:(l8 ua).Ok 118 fp:=gB (b:=Tryz.Oh) (B:=1099511627776) (sz:=40) (by kernel_rfl) (by kernel_rfl) rfl (by kernel_rfl) (by kernel_rfl) (by decide) (fun x=>by kernel_rfl) (by kernel_rfl) (by kernel_rfl) (by kernel_rfl) (fun n d h=>by kernel_rfl) (fun n d h=>by kernel_rfl) (fun n d h id base=>by kernel_rfl)
theorem Li:(l8 ub).Ok 120 fp:=gB (b:=Tryz.Oi) (B:=1099511627776) (sz:=32) (by kernel_rfl) (by kernel_rfl) rfl (by kernel_rfl) (by kernel_rfl) (by decide) (fun x=>by kernel_rfl) (by kernel_rfl) (by kernel_rfl) (by kernel_rfl) (fun n d h=>by kernel_rfl) (fun n d h=>by kernel_rfl) (fun n d h id base=>by kernel_rfl)
theorem Lj:(l8 uc).Ok 121 fp:=gB (b:=Tryz.Oj) (B:=1099511627776) (sz:=48) (by kernel_rfl) (by kernel_rfl) rfl (by kernel_rfl) (by kernel_rfl) (by decide) (fun x=>by kernel_rfl) (by kernel_rfl) (by kernel_rfl) (by kernel_rfl) (fun n d h=>by kernel_rfl) (fun n d h=>by kernel_rfl) (fun n d h id base=>by kernel_rfl)
theorem Lk:(l8 ud).Ok 122 fp:=gB (b:=Tryz.Ol) (B:=1099511627776) (sz:=48) (by kernel_rfl) (by kernel_rfl) rfl (by kernel_rfl) (by kernel_rfl) (by decide) (fun x=>by kernel_rfl) (by kernel_rfl) (by kernel_rfl) (by kernel_rfl) (fun n d h=>by kernel_rfl) (fun n d h=>by kernel_rfl) (fun n d h id base=>by kernel_rfl)
theorem Ll:(l8 ue).Ok 123 fp:=gB (b:=Tryz.Om) (B:=1099511627776) (sz:=48) (by kernel_rfl) (by kernel_rfl) rfl (by kernel_rfl) (by kernel_rfl) (by decide) (fun x=>by kernel_rfl) (by kernel_rfl) (by kernel_rfl) (by kernel_rfl) (fun n d h=>by kernel_rfl) (fun n d h=>by kernel_rfl) (fun n d h id base=>by kernel_rfl)
theorem Lm:(l8 u8).Ok 124 fp:=gB (b:=Tryz.On) (B:=1099511627776) (sz:=1) (by kernel_rfl) (by kernel_rfl) rfl (by kernel_rfl) (by kernel_rfl) (by decide) (fun x=>by kernel_rfl) (by kernel_rfl) (by kernel_rfl) (by kernel_rfl) (fun n d h=>by kernel_rfl) (fun n d h=>by kernel_rfl) (fun n d h id base=>by kernel_rfl)
theorem Ln:(l8 tI).Ok 221 fp:=gB (b:=Tryz.Oo) (B:=1099511627776) (sz:=64) (by kernel_rfl) (by kernel_rfl) rfl (by kernel_rfl) (by kernel_rfl) (by decide) (fun x=>by kernel_rfl) (by kernel_rfl) (by kernel_rfl) (by kernel_rfl) (fun n d h=>by kernel_rfl) (fun n d h=>by kernel_rfl) (fun n d h id base=>by kernel_rfl)
end Go.Proofs.Vq

noncomputable section
namespace Go.Ab.Lf
open Go.Ab
theorem Bx{G:Nat->Option Rw}: ∀ {x:List (den (.int .u64))} {ls:List AV},jH (EV G (.int .u64)) x ls->ls=List.map (AV.int .u64) x
 | [],ls,h=>by have h:ls=[]:=h;subst h;rfl
 |y::x,ls,⟨c,r,e,h1,h2⟩=>by
  have h1:c=[.int .u64 y]:=h1
  subst e;subst h1
  rw[Bx h2]
  rfl
theorem tP{G:Nat->Option Rw}: ∀ (x:List (den (.int .u64))),jH (EV G (.int .u64)) x (List.map (AV.int .u64) x)
 | []=>rfl
 |y::x=>⟨[.int .u64 y],_,rfl,rfl,tP x⟩
end Go.Ab.Lf
namespace Go.Proofs.Vq
open Go.Ab Go.Ab.Lf
set_option maxRecDepth 100000
theorem Lo{aR:bb}(k: ∀ n d az h v h',Gw az h=.ok v h'->aR n (d+1) 305 az h=.ok v h'):JR.Ok 305 aR:=by
 intro pl q args H0 E0 h az e hP hv hS
 obtain⟨⟨x,i0,j0,⟨⟩⟩,⟨y,⟨⟩⟩,rfl,h1,rfl⟩:=zj e
 obtain⟨i,hi⟩: ∃ i:Int,i=i0:=⟨i0,rfl⟩
 subst hi
 obtain⟨j,hj⟩: ∃ j:Int,j=j0:=⟨j0,rfl⟩
 subst hj
 obtain⟨h2,h3⟩:=Lf.T.dj h1
 have h3:y=List.take i.toNat x++List.drop j.toNat x:=by
  injection h3 with h3
  exact(congrArg Prod.fst h3).symm.trans (dn _ _)
 obtain⟨b1,b2,b3,b4⟩:=of_decide_eq_true h2
 have b1:(0:Int)<=i:=b1
 have b2:(i:Int)<=j:=b2
 have b3:(j:Int)<=(List.length x:Int):=b3
 have b4:List.length x<=1099511627776:=b4
 have Ql:some (([.os 1 1,.c 0 i64 i,.c 0 i64 j]:List Sv),([]:List Pl),dP e1 (.l u64 x))=some (args,[],H0):=by
  rw[<-hP]
  show _=_
  kernel_rfl
 cases Ql
 obtain⟨rfl⟩:Nonempty (az=[(E0.K 1).av,.int .i64 i,.int .i64 j]):=by
  cases hv with
  |cons ha hr=>
   cases hr with
   |cons hb hr=>
    cases hr with
    |cons hc hr=>
     cases hr
     cases ha with
     |os _ _=>
      cases hb with
      |c hb _=>
       cases hc with
       |c hc _=>
        have hb:[_]=[AV.int .i64 i]:=hb
        have hc:[_]=[AV.int .i64 j]:=hc
        injection hb with hb
        injection hc with hc
        subst hb;subst hc
        exact⟨rfl⟩
 have g1:(eS (dP e1 (.l u64 x))).aU.get 1=some (.l u64 x):=by kernel_rfl
 have o1:own (eS (dP e1 (.l u64 x))) 1:=⟨_,g1,rfl⟩
 obtain⟨hx,hr⟩:=(hS.row 1 _ g1).2
 have yK: ∀ r,own (dP e1 (.l u64 y)) r->r=1:=by
  rintro r ⟨R,a,_⟩
  rw[gQ]at a
  split at a
  ·assumption
  ·cases a
 have fin: ∀ (c:AV) (h':Hp),Gw [(E0.K 1).av,.int .i64 i,.int .i64 j] h=.ok c h'->h'.next=h.next->jN c=jN (E0.K 1).av->(∀ id,jN (E0.K 1).av≠some id->h'.aU.get id=h.aU.get id)->
  LR E0.G u64 y ⟨c,y.length⟩ h'.aU.get-> ∃ c h' E1 ws H1,Ev (fun n d=>aR n d 305 [(E0.K 1).av,.int .i64 i,.int .i64 j] h) (.ok c h')/\Ox E0 E1 (eS (dP e1 (.l u64 x))) H1 h h'/\SR E1 H1 h'/\eQ JR.Q (aH [.aC u64] (y,())) e1=some (ws,[],H1)/\Vs E1 H1.next ws (c::JR.ptr.map E0.A):=by
  intro c h' hd GA gK Ho hlr
  obtain⟨E1,hE⟩: ∃ E1:En,E1=⟨fun r=>if r=1 then⟨c,y.length⟩else E0.K r,E0.tk,E0.G,E0.A⟩:=⟨_,rfl⟩
  have hK:E1.K 1=⟨c,y.length⟩:=by rw[hE];rfl
  refine⟨c,h',E1,[.os 1 1],dP e1 (.l u64 y),⟨1,fun n d _ Ck=>?_⟩,?_,?_,?_,?_⟩
  ·obtain⟨d,rfl⟩: ∃ d',d=d'+1:=⟨d - 1,by omega⟩
   exact k n d _ h c h' hd
  ·refine⟨by rw[hE],by rw[hE];exact fun _ _ e=>e,by omega,fun r id o e=>?_,fun id row e=>.inl (by rw[hE]at e;exact e),fun id hi hn=>?_⟩
   ·obtain rfl:=yK r o
    rw[hK]at e
    exact .inl ⟨1,o1,by rw[<-gK];exact e⟩
   ·exact Ho id (hn 1 o1)
  ·refine⟨fun r R e=>?_,fun r r' id o o' _ _=>(yK r o).trans (yK r' o').symm,fun r id o e=>?_,fun id row e=>?_⟩
   ·rw[gQ]at e
    split at e
    ·rename_i Wi
     cases e
     have Wi:r=1:=Wi
     subst Wi
     refine⟨Nat.lt_succ_self _,?_⟩
     rw[hK]
     show LR E1.G u64 y ⟨c,y.length⟩ h'.aU.get
     rw[hE]
     exact hlr
    ·cases e
   ·obtain rfl:=yK r o
    rw[hK]at e
    rw[GA]
    exact hS.lt 1 id o1 (by rw[<-gK];exact e)
   ·rw[hE]at e
    obtain⟨a1,a2,a3⟩:=hS.g id row e
    refine⟨by omega,?_,fun r o=>?_⟩
    ·rw[Ho id (a3 1 o1)];exact a2
    ·obtain rfl:=yK r o
     rw[hK]
     show jN c≠_
     rw[gK]
     exact a3 1 o1
  ·show _=_
   kernel_rfl
  ·refine .cons ?_ .nil
   have nF:=V.os (E:=E1) (N:=(dP e1 (.l u64 y)).next) (r:=1) (sz:=1) (Nat.lt_succ_self _) (by
    rw[hK]
    obtain⟨q1,q2⟩:=hlr
    rcases q2 with⟨k1,k2⟩|⟨id,base,row,ls,k1,_⟩
    ·exact .inl ⟨k1,by show y.length=0;rw[k2];rfl⟩
    ·exact .inr ⟨id,base,k1⟩)
   rw[hK]at nF
   exact nF
 rcases hr with⟨he,rfl⟩|⟨id,base,row,ls,ha,hg,hs,hl⟩
 ·have b3:j<=0:=b3
  obtain rfl:i=0:=by omega
  obtain rfl:j=0:=by omega
  have hy:y=[]:=by rw[h3];rfl
  subst hy
  refine fin (E0.K 1).av h ?_ rfl rfl (fun _ _=>rfl) ⟨rfl,.inl ⟨he,rfl⟩⟩
  generalize (E0.K 1).av=a at he
  cases a with
  |eD=>rfl
  |mI=>rfl
  |sc v=>
   show(bif dH (.sc v)&&(decide ((0:Int)=0)&&decide ((0:Int)=0))then Ro.ok (.sc v) h else .bad)=_
   rw[he];rfl
  | _=>cases he
 ·have To:=Bx hl
  have hlen:List.length x=(E0.K 1).n:=hx
  rw[ha]
  rw[ha]at fin
  generalize (E0.K 1).n=n at*
  subst hlen
  obtain⟨i,rfl⟩:=Int.eq_ofNat_of_zero_le b1
  obtain⟨j,rfl⟩:=Int.eq_ofNat_of_zero_le (Int.le_trans b1 b2)
  have b2:i<=j:=by omega
  have b3:j<=List.length x:=by omega
  have h3:y=List.take i x++List.drop j x:=h3
  have XL:y.length=List.length x - (j - i):=by rw[h3,List.length_append,List.length_take,List.length_drop];omega
  by_cases h0:List.length x=0
  ·obtain rfl:x=[]:=List.eq_nil_of_length_eq_zero h0
   have b3:j<=0:=b3
   obtain rfl:j=0:=by omega
   obtain rfl:i=0:=by omega
   have hy:y=[]:=by rw[h3];rfl
   subst hy
   refine fin _ h ?_ rfl rfl (fun _ _=>rfl) ⟨rfl,.inr ⟨id,base,row,ls,rfl,hg,hs,hl⟩⟩
   rfl
  ·have mh:row.jd base (List.length x)=some (List.map (AV.int .u64) x):=by
    rw[<-To]
    have:List.length x*size u64=List.length x:=Nat.mul_one _
    rw[<-this];exact hs
   have VP:(j1 x i j).length=List.length x:=by unfold j1;simp;omega
   refine fin (.dV id base (List.length x - (j - i)) 1) (gY h id (some (row.put base ((j1 x i j).map (AV.int .u64))))) ?_ rfl rfl (fun sE mW=>?_) ⟨rfl,.inr ⟨id,base,row.put base ((j1 x i j).map (AV.int .u64)),List.map (AV.int .u64) y,?_,?_,?_,tP y⟩⟩
   ·show(bif decide (List.length x=0)then _ else match h.aU.get id with
     |some row=>(match row.jd base (List.length x)with
      |some ls=>(match wx ls with
       |some d=>bif decide (0<=(i:Int)/\(i:Int)<=(j:Int)/\(j:Int)<=(List.length x:Int)/\List.length x<=9223372036854775807)then Ro.ok (.dV id base (List.length x - ((j:Int).toNat - (i:Int).toNat)) 1) (gY h id (some (row.put base ((j1 d (i:Int).toNat (j:Int).toNat).map (AV.int .u64)))))else .bad
       |none=>.bad)
      |none=>.bad)
     |none=>.bad)=_
    rw[decide_eq_false h0,cond_false,hg]
    dsimp only
    rw[mh]
    dsimp only
    rw[Bt]
    dsimp only
    rw[decide_eq_true (show 0<=(i:Int)/\(i:Int)<=(j:Int)/\(j:Int)<=(List.length x:Int)/\List.length x<=9223372036854775807 from⟨by omega,by omega,by omega,by omega⟩),cond_true]
    simp only[Int.toNat_natCast]
   ·show(h.aU.set id _).get sE=_
    rw[Tr.gZ,if_neg fun q=>mW (by rw[q];rfl)]
   ·rw[XL];rfl
   ·show(h.aU.set id _).get id=_
    rw[Tr.gZ,if_pos rfl]
   ·obtain⟨s1,s2⟩:=ek.1 mh
    have Hd:=D2 (o:=0) (new:=(j1 x i j).map (AV.int .u64)) mh (by simp) (by rw[List.length_map,VP];omega)
    obtain⟨s3,s4⟩:=ek.1 Hd
    have e2:List.take 0 (List.map (AV.int .u64) x)++((j1 x i j).map (AV.int .u64)++List.drop (0+((j1 x i j).map (AV.int .u64)).length) (List.map (AV.int .u64) x))=(j1 x i j).map (AV.int .u64):=by
     rw[List.take_zero,List.nil_append,List.drop_eq_nil_of_le (by simp[VP]),List.append_nil]
    rw[e2]at s4
    refine ek.2 ⟨?_,?_⟩
    ·show base+y.length*size u64<=_
     rw[show y.length*size u64=y.length from Nat.mul_one _,XL]
     have s3:base+List.length x<=(row.put (base+0) (List.map (AV.int .u64) (j1 x i j))).n:=s3
     have:(row.put (base+0) (List.map (AV.int .u64) (j1 x i j))).n=(row.put base (List.map (AV.int .u64) (j1 x i j))).n:=rfl
     omega
    ·rw[show y.length*size u64=y.length from Nat.mul_one _]
     have s4:(j1 x i j).map (AV.int .u64)=((row.put base (List.map (AV.int .u64) (j1 x i j))).toL.drop base).take (List.length x):=s4
     have e3:List.take y.length ((j1 x i j).map (AV.int .u64))=List.map (AV.int .u64) y:=by
      unfold j1
      rw[<-h3,List.map_append,List.take_append_of_le_length (by simp),List.take_of_length_le (by simp)]
     rw[<-e3]
     exact(congrArg (List.take y.length) s4).trans (by rw[List.take_take,Nat.min_eq_left (by omega)])
end Go.Proofs.Vq

noncomputable section
namespace Go.Proofs.Vq
open Go.Ab Go.Ab.Lf Go.RowKit
set_option maxRecDepth 100000
theorem zl{k:IntKind}{F:Int->Int}{b:Int}{f:FuncId}(hf: ∀ x:Int,eQ (Ps [.n k]) (aH [.int k] (x,())) Lf.e1=some ([.c 0 (.int k) x],[],Lf.e1))(hr: ∀ z x:Int,(mg (Ps [.n k]) [] (Ps [.n .i64]) (fun _=>none) (rC (.int .i64 z)) 3 (fun _ _ _=>.bad) (aH [.int k] (x,()))).val=some (aH [i64] (z,())))(hh:zh f=false)(hl: ∀ x:Int,0<=x->x<=b->tO f [.int k x]=some (.int .i64 (F x))):(Wq k F b).Ok f fp:=by
 unfold Wq
 refine Ld ?_
 rintro⟨x,⟨⟩⟩ y args H0 E0 h az h1 hP hv hS
 obtain⟨h2,h3⟩:=Lf.T.dj h1
 simp only[Bool.and_eq_true,decide_eq_true_eq]at h2
 have Ql:some (([.c 0 (.int k) x]:List Sv),([]:List Pl),Lf.e1)=some (args,[],H0):=(hf x).symm.trans hP
 cases Ql
 have ha:az=[.int k x]:=by
  cases hv with
  |cons ha hr=>
   cases hr
   cases ha with
   |c kx _=>exact kx
 subst ha
 refine⟨.int .i64 (F x),fun _=>.ok (F x,()),h3,EY ?_,fun n d=>uO hh (hl x h2.1 h2.2) n (d+1)⟩
 rintro⟨x',⟨⟩⟩ y' h'
 cases h'
 exact hr (F x) x'
theorem zm{k:IntKind}{b:Int}{F:Int->Int}{x:Int}(h0:0<=x)(h1:x<=b):VS k b F [.int k x]=some (.int .i64 (F x)):=by
 show(bif decide (k=k)&&(decide (0<=x)&&decide (x<=b))then some (AV.int .i64 (F x))else none)=_
 rw[decide_eq_true rfl,decide_eq_true h0,decide_eq_true h1]
 rfl
theorem Qr:s49.Ok 49 fp:=zl (fun x=>by kernel_rfl) (fun z x=>by kernel_rfl) rfl fun x h0 h1=>zm h0 h1
theorem Qs:s50.Ok 50 fp:=zl (fun x=>by kernel_rfl) (fun z x=>by kernel_rfl) rfl fun x h0 h1=>zm h0 h1
theorem Qt:s52.Ok 52 fp:=zl (fun x=>by kernel_rfl) (fun z x=>by kernel_rfl) rfl fun x h0 h1=>zm h0 h1
theorem Qu:s53.Ok 53 fp:=zl (fun x=>by kernel_rfl) (fun z x=>by kernel_rfl) rfl fun x h0 h1=>zm h0 h1
theorem Qv:s10.Ok 10 fp:=by
 unfold s10
 refine Ld ?_
 rintro⟨⟩ y args H0 E0 h az h1 hP hv hS
 have Ql:some (([]:List Sv),([]:List Pl),Lf.e1)=some (args,[],H0):=hP
 cases Ql
 cases hv
 refine⟨.bool true,fun _=>.ok (true,()),h1,EY ?_,fun n d=>uO rfl rfl n (d+1)⟩
 rintro⟨⟩ y' h'
 cases h'
 kernel_rfl
theorem adw(x:aG tM):(mg (Ps [UC .im]) [] (Ps [.n .i64]) (fun _=>none) (rC (.int .i64 0)) 3 (fun _ _ _=>.bad) (aH tM x)).val=some (aH [i64] (0,())):=by kernel_rfl
theorem Qw:(J9 GK).Ok 56 fp:=by
 unfold J9
 refine Ld ?_
 intro X y args H0 E0 h az h1 hP hv hS
 obtain⟨h2,h3⟩:=Lf.T.dj h1
 obtain rfl:=C1 h2
 refine⟨.int .i64 0,fun _=>.ok (0,()),h3,EY ?_,?_⟩
 ·intro x' y' h'
  cases h'
  exact adw x'
 have Ql:some (([.ag [.c 1 (.aC bz) dh.1,.c 2 (.aC tZ) dh.2.1,.c 3 (.aC i64) dh.2.2.1,.c 4 (.aC mS) dh.2.2.2.1,.c 5 (.aC mS) dh.2.2.2.2.1,.c 6 (.aC ua) dh.2.2.2.2.2.1,.c 7 (.aC ub) dh.2.2.2.2.2.2.1,.c 0 i64 dh.2.2.2.2.2.2.2.1,.c 8 (.aC uc) dh.2.2.2.2.2.2.2.2.1,.c 9 (.aC ud) dh.2.2.2.2.2.2.2.2.2.1,.c 10 (.aC ue) dh.2.2.2.2.2.2.2.2.2.2.1]]:List Sv),([]:List Pl),(⟨11,.nil⟩:Hq))=some (args,[],H0):=by
  rw[<-hP]
  kernel_rfl
 cases Ql
 have hG: ∀ id row,E0.G id=some row->h.aU.get id=some row:=fun id row g=>(hS.g id row g).2.1
 have GP: ∀ {a:Sv} {l:List Sv} {m:List AV},Vs E0 11 (a::l) m-> ∃ c r,m=c::r/\V E0 11 a c/\Vs E0 11 l r:=by
  intro a l m hm
  cases hm with
  |cons p q=>exact⟨_,_,rfl,p,q⟩
 have adx: ∀ {m:List AV},Vs E0 11 [] m->m=[]:=by
  intro m hm
  cases hm
  rfl
 have ev: ∀ {m:Nat} {t:Ty} {x:den t} {a:AV},V E0 11 (.c m t x) a->EV E0.G t x [a]:=by
  intro m t x a ha
  cases ha with
  |c kx _=>exact kx
 obtain⟨c0,r0,rfl,Q4,hr0⟩:=GP hv
 obtain rfl:=adx hr0
 obtain⟨m,rfl,hm⟩: ∃ m,c0=.agg m/\Vs E0 11 [.c 1 (.aC bz) dh.1,.c 2 (.aC tZ) dh.2.1,.c 3 (.aC i64) dh.2.2.1,.c 4 (.aC mS) dh.2.2.2.1,.c 5 (.aC mS) dh.2.2.2.2.1,.c 6 (.aC ua) dh.2.2.2.2.2.1,.c 7 (.aC ub) dh.2.2.2.2.2.2.1,.c 0 i64 dh.2.2.2.2.2.2.2.1,.c 8 (.aC uc) dh.2.2.2.2.2.2.2.2.1,.c 9 (.aC ud) dh.2.2.2.2.2.2.2.2.2.1,.c 10 (.aC ue) dh.2.2.2.2.2.2.2.2.2.2.1] m:=by
  cases Q4 with
  |ag q=>exact⟨_,rfl,q⟩
 obtain⟨b1,m1,rfl,v1,h1z⟩:=GP hm
 obtain⟨b2,m2,rfl,v2,h2z⟩:=GP h1z
 obtain⟨b3,m3,rfl,v3,h3z⟩:=GP h2z
 obtain⟨b4,m4,rfl,v4,h4⟩:=GP h3z
 obtain⟨b5,m5,rfl,v5,h5⟩:=GP h4
 obtain⟨b6,m6,rfl,v6,h6⟩:=GP h5
 obtain⟨b7,m7,rfl,v7,h7⟩:=GP h6
 obtain⟨b8,m8,rfl,v8,h8⟩:=GP h7
 obtain⟨b9,m9,rfl,v9,h9⟩:=GP h8
 obtain⟨b10,m10,rfl,v10,Kt⟩:=GP h9
 obtain⟨b11,m11,rfl,v11,h11⟩:=GP Kt
 obtain rfl:=adx h11
 have hE:EV E0.G Qf Br [b1,b2,b3,b4,b5,b6,b7,b8,b9,b10,b11]:=⟨[b1],_,rfl,ev v1,⟨[b2],_,rfl,ev v2,⟨[b3],_,rfl,ev v3,⟨[b4],_,rfl,ev v4,⟨[b5],_,rfl,ev v5,⟨[b6],_,rfl,ev v6,⟨[b7],_,rfl,ev v7,⟨[b8],_,rfl,ev v8,⟨[b9],_,rfl,ev v9,⟨[b10],_,rfl,ev v10,ev v11⟩⟩⟩⟩⟩⟩⟩⟩⟩⟩
 obtain⟨cs',k1,k2⟩:=zf hG Qf 7 Br _ (by decide) hE
 refine fun n d=>Lb rfl (az':=[.agg cs']) ?_ ?_ n (d+1)
 ·show(match(match mapA (qD 7 h) _ with|some l=>some (AV.agg l)|none=>none)with|some b=>some [b]|none=>none)=_
  rw[k1]
 ·show(bif @decide (56=56/\EV N0 Qf Br cs') (Classical.propDecidable _)then some (AV.int .i64 0)else none)=_
  rw[@decide_eq_true _ (Classical.propDecidable _) ⟨rfl,k2⟩]
  rfl
theorem Lp:WL fp where
 st:=xQ
 Wr:=Qm
 c69:=Qn
 Zx:=Qo
 c71:=Qp
 c72:=Qq
 Zy:=Le
 Zz:=Lg
 ZA:=Lh
 ZB:=Li
 ZC:=Lj
 ZD:=Lk
 ZE:=Ll
 ZF:=Lm
 ZG:=Ln
 b49:=Qr
 b50:=Qs
 b52:=Qt
 b53:=Qu
 del:=Lo fun n d az h v h' e=>Lc e n (d+1)
 aw:=Qv
 chk:=Qw
end Go.Proofs.Vq

noncomputable section
namespace Go.Proofs.Vq
open Go.Ab Go.Ab.Lf Go.ChangeShapes Go.WideShapes Go.ChangeAt Go.RowKit
set_option maxRecDepth 100000
def otF(P:Go.Program)(ot:Ty->Nat->Bool):List Field->Nat->Ty->Bool
 | [],_,_=>false
 |f::fs,off,T=>match fs with
  | []=>Nat.beq f.offset off&&(Nat.beq (P.cellsOf f.type) (size T)&&ot T f.type)
  | _::_=>match T with
   | .pair A B=>(Nat.beq f.offset off&&(Nat.beq (P.cellsOf f.type) (size A)&&ot A f.type))&&otF P ot fs (off+size A) B
   | _=>false
def WE(P:Go.Program):Nat->Ty->Nat->Bool
 |0,_,_=>false
 |n+1,T,t=>match P.underlying t with
  |some (.int k)=>match T with
   | .int k'=>decide (k=k')
   | _=>false
  |some .bool=>match T with
   | .bool=>true
   | _=>false
  |some .string=>match T with
   | .str=>true
   | _=>false
  |some (.slice e)=>match T with
   | .aC T'=>Nat.beq (P.cellsOf e) (size T')&&(Nat.blt 0 (size T')&&WE P n T' e)
   | _=>false
  |some (.struct fs)=>Nat.beq (P.cellsOf t) (size T)&&otF P (WE P n) fs.toList 0 T
  | _=>false
def Bd:(T:Ty)->den T->Prop
 | .int k,x=>(Lit.int k x).wf=true
 | .bool,_=>True
 | .str,x=>ByteArray.size x<=maxLen
 | .aC t,x=>List.length x<=maxLen/\ ∀ e,e∈x->Bd t e
 | .pair a b,x=>Bd a x.1/\Bd b x.2
def mm:(T:Ty)->den T->Nat
 | .int _,_=>1
 | .bool,_=>1
 | .str,x=>ByteArray.size x+1
 | .aC t,x=>1+List.foldr (fun e n=>mm t e+n) 0 x
 | .pair a b,x=>mm a x.1+mm b x.2
structure Gy{H:Type}(bk:DataW H->Nat)(BO:List (DataW H)->Nat):Prop where
 one: ∀ d,1<=bk d
 nil:BO []=0
 cons: ∀ d l,BO (d::l)=bk d+BO l
 str: ∀ b:List UInt8,b.length+1<=bk (.lit (.string b))
 aC: ∀ l m,BO l+1<=bk (.slice l m)
 agg: ∀ l,BO l<=bk (.agg l)
theorem Gy.app{H:Type}{bk:DataW H->Nat}{BO:List (DataW H)->Nat}(K:Gy bk BO)(l m:List (DataW H)):BO (l++m)=BO l+BO m:=by
 induction l with
 |nil=>rw[List.nil_append,K.nil];omega
 |cons a l ih=>rw[List.cons_append,K.cons,K.cons,ih];omega
abbrev gI[Io](W:Go.World):G:=gE fun b=>b<W.heap.size
section
variable [Io]{H:Type}{enc:TypeId×Value->H}{P:Go.Program}{W:Go.World}{sp:Nat->Bool}{held:Bool}{bk:DataW H->Nat}{BO:List (DataW H)->Nat}
omit [Io] in
theorem Lq{b o:Nat}{v:Value}(h:W.cell? ⟨b,o,none⟩=some v):b<W.heap.size:=by
 by_cases hb:b<W.heap.size
 ·exact hb
 ·exfalso
  have e:W.heap[b]? =none:=Array.getElem?_eq_none (by omega)
  unfold Go.World.cell? at h
  dsimp only at h
  rw[e]at h
  cases h
def Op(W:Go.World)(T:Ty)(cs:List Value)(n:Nat):Prop:= ∃ (x:den T) (bs:List AV),EV N0 T x bs/\bQ (gI W) W bs cs/\Bd T x/\mm T x<=n
theorem tQ(K:Gy bk BO){ot:Ty->Nat->Bool}{n:Nat}(IH: ∀ (T:Ty) (t:Nat) (cs:List Value) (y:DataW H×List MemPlace),ot T t=true->DataW.trod enc P W 0 sp held n t cs=some y->Op W T cs (bk y.1)): ∀ (fs:List Field) (ys:List (DataW H×List MemPlace)) (off:Nat) (T:Ty) (cs:List Value),otF P ot fs off T=true->
 fs.length=ys.length->(∀ (i:Nat) f,fs[i]? =some f->DataW.trod enc P W 0 sp held n f.type ((cs.drop f.offset).take (P.cellsOf f.type))=ys[i]?)->Op W T ((cs.drop off).take (size T)) (BO (ys.map (·.1)))
 | [],_,_,_,_,h,_,_=>by cases h
 | _::_,[],_,_,_,_,hl,_=>by simp at hl
 | [f],y::ys,off,T,cs,h,hl,hf=>by
  have h:(Nat.beq f.offset off&&(Nat.beq (P.cellsOf f.type) (size T)&&ot T f.type))=true:=h
  rw[Bool.and_eq_true,Bool.and_eq_true]at h
  obtain⟨h1,h2,h3⟩:=h
  have hy:=hf 0 f rfl
  obtain⟨x,bs,k1,k2,k3,k4⟩:=IH T f.type _ y h3 hy
  rw[Nat.eq_of_beq_eq_true h1,Nat.eq_of_beq_eq_true h2]at k2
  refine⟨x,bs,k1,k2,k3,?_⟩
  rw[List.map_cons,K.cons]
  omega
 |f::g::fs,y::ys,off,.pair A B,cs,h,hl,hf=>by
  have h:((Nat.beq f.offset off&&(Nat.beq (P.cellsOf f.type) (size A)&&ot A f.type))&&otF P ot (g::fs) (off+size A) B)=true:=h
  rw[Bool.and_eq_true,Bool.and_eq_true,Bool.and_eq_true]at h
  obtain⟨⟨h1,h2,h3⟩,h4⟩:=h
  have hy:=hf 0 f rfl
  have a:=IH A f.type _ y h3 hy
  rw[Nat.eq_of_beq_eq_true h1,Nat.eq_of_beq_eq_true h2]at a
  obtain⟨x1,as1,e1,v1,b1,c1⟩:=a
  obtain⟨x2,as2,e2,v2,b2,c2⟩:=tQ K IH (g::fs) ys (off+size A) B cs h4 (by simpa using hl) fun i f hm=>hf (i+1) f hm
  refine⟨(x1,x2),as1++as2,⟨as1,as2,rfl,e1,e2⟩,?_,⟨b1,b2⟩,?_⟩
  ·have e:(cs.drop off).take (size (.pair A B))=(cs.drop off).take (size A)++(cs.drop (off+size A)).take (size B):=by
    show(cs.drop off).take (size A+size B)=_
    rw[List.take_add,List.drop_drop]
   rw[e]
   exact v1.append v2
  ·show mm A x1+mm B x2<=_
   rw[List.map_cons,K.cons]
   omega
 | _::_::_,_,_,.int _,_,h,_,_=>by cases h
 | _::_::_,_,_,.bool,_,h,_,_=>by cases h
 | _::_::_,_,_,.str,_,h,_,_=>by cases h
 | _::_::_,_,_,.aC _,_,h,_,_=>by cases h
omit [Io] in
theorem Lr{α β:Type}{f:α->Option β}: ∀ {l:List α} {r:List β},l.mapM f=some r->r.length=l.length:=by
 intro l
 induction l with
 |nil=>intro r h;simp at h;subst h;rfl
 |cons a l ih=>
  intro r h
  rw[List.mapM_cons]at h
  simp only[Option.bind_eq_bind,Option.bind_eq_some_iff,Option.pure_def,Option.some.injEq]at h
  obtain⟨b,_,rs,h2,rfl⟩:=h
  simp[ih h2]
omit [Io] in
theorem Bz{a:Addr}{k:Nat}{cs:List Value}(h:W.cells? 0 a k=some cs):cs.length=k/\ ∀ j,j<k->W.cell? (a.add j)=cs[j]? :=by
 unfold World.cells? at h
 rw[if_pos (Nat.zero_le _)]at h
 exact⟨by simpa using Lr h,fun j hj=>mapM_some_get h j j (by simp[hj])⟩
theorem BA(K:Gy bk BO){T:Ty}{b o n:Nat}{e:Nat}(IH: ∀ (cs:List Value) (y:DataW H×List MemPlace),DataW.trod enc P W 0 sp held n e cs=some y->Op W T cs (bk y.1))(hs:P.cellsOf e=size T):
 ∀ (len:Nat) (ys:List (DataW H×List MemPlace)),ys.length=len->(∀ i,i<len->(W.cells? 0 ⟨b,o+i*size T,none⟩ (P.cellsOf e)).bind (DataW.trod enc P W 0 sp held n e)=ys[i]?)->
 ∃ (xs:List (den T)) (ls:List AV) (vs:List Value),xs.length=len/\jH (EV N0 T) xs ls/\bQ (gI W) W ls vs/\vs.length=len*size T/\ee W b o vs/\(∀ x,x∈xs->Bd T x)/\List.foldr (fun e n=>mm T e+n) 0 xs<=BO (ys.map (·.1))
 |0,ys,hy,_=>by
  have:ys=[]:=List.eq_nil_of_length_eq_zero hy
  subst this
  exact⟨[],[],[],rfl,rfl,by simp only[bQ],by simp,fun j v h=>by simp at h,fun x h=>(by cases h),Nat.zero_le _⟩
 |len+1,ys,hy,h=>by
  obtain⟨PE,y,e⟩: ∃ PE y,ys=PE++[y]:=by
   have:ys≠[]:=fun e=>by rw[e]at hy;simp at hy
   exact⟨ys.dropLast,ys.getLast this,(List.dropLast_concat_getLast this).symm⟩
  subst e
  have hl:PE.length=len:=by simpa using hy
  obtain⟨xs,ls,vs,h1,h2,h3,h4,h5,h6,h7⟩:=BA K IH hs len PE hl fun i hi=>by
   rw[h i (by omega),List.getElem?_append_left (by omega)]
  have hy:=h len (by omega)
  rw[List.getElem?_append_right (by omega),hl,Nat.sub_self]at hy
  have hy:_=some y:=hy
  rw[Option.bind_eq_some_iff]at hy
  obtain⟨cs,hc,hy⟩:=hy
  obtain⟨x,bs,k1,k2,k3,k4⟩:=IH cs y hy
  obtain⟨c1,c2⟩:=Bz hc
  refine⟨xs++[x],ls++bs,vs++cs,by simp[h1],h2.app ⟨bs,[],by simp,k1,rfl⟩,h3.append k2,by rw[List.length_append,h4,c1,hs,Nat.succ_mul],fun j v hj=>?_,fun z hz=>?_,?_⟩
  ·rw[List.getElem?_append]at hj
   by_cases q:j<vs.length
   ·rw[if_pos q]at hj
    exact h5 j v hj
   ·rw[if_neg q]at hj
    have fO:j - vs.length<cs.length:=(List.getElem?_eq_some_iff.1 hj).1
    have:=c2 (j - vs.length) (by omega)
    rw[hj,add_plain]at this
    rw[<-this]
    congr 2
    omega
  ·rcases List.mem_append.1 hz with hz|hz
   ·exact h6 z hz
   ·have:z=x:=by simpa using hz
    rw[this]
    exact k3
  ·have key: ∀ (l:List (den T)),List.foldr (fun e n=>mm T e+n) 0 (l++[x])=List.foldr (fun e n=>mm T e+n) 0 l+mm T x:=by
    intro l
    induction l with
    |nil=>simp
    |cons a l ih=>simp only[List.cons_append,List.foldr_cons,ih];omega
   rw[key,List.map_append,K.app,List.map_cons,List.map_nil,K.cons,K.nil]
   omega
theorem uP(K:Gy bk BO): ∀ (n:Nat) (fuel:Nat) (T:Ty) (t:Nat) (cs:List Value) (y:DataW H×List MemPlace),WE P n T t=true->DataW.trod enc P W 0 sp held fuel t cs=some y->Op W T cs (bk y.1)
 |0,_,_,_,_,_,h,_=>by cases h
 |n+1,fuel,T,t,cs,y,h,hy=>by
  unfold WE at h
  split at h
  ·rename_i k hu
   split at h
   ·rename_i k'
    have h:=of_decide_eq_true h
    subst h
    obtain⟨z,e1,_,e3⟩:=DataW.trod_int hu hy
    subst e1
    exact⟨z,[.int k z],rfl,by simp only[bQ,VR];exact⟨_,_,rfl,rfl,rfl⟩,e3,K.one _⟩
   ·cases h
  ·rename_i hu
   split at h
   ·obtain⟨b,e1,_⟩:=DataW.trod_bool hu hy
    subst e1
    exact⟨b,[.bool b],rfl,by simp only[bQ,VR];exact⟨_,_,rfl,rfl,rfl⟩,trivial,K.one _⟩
   ·cases h
  ·rename_i hu
   split at h
   ·obtain⟨s,e1,e2,e3⟩:=DataW.trod_string hu hy
    subst e1
    subst e2
    exact⟨s,[.sc (.string s)],rfl,by simp only[bQ,VR];exact⟨_,_,rfl,⟨rfl,rfl⟩,rfl⟩,e3,K.str _⟩
   ·cases h
  ·rename_i e hu
   split at h
   ·rename_i T'
    rw[Bool.and_eq_true,Bool.and_eq_true]at h
    obtain⟨h1,h2,h3⟩:=h
    have h1:=Nat.eq_of_beq_eq_true h1
    have h2:0<size T':=by simpa using h2
    rcases DataW.trod_slice hu hy with⟨e1,_⟩|⟨a,len,cap,elems,rest,m,rfl,e1,e2,_,Ts,hcm,hel,hx,_,_⟩
    ·subst e1
     exact⟨[],[.iw 0 []],⟨_,rfl,.inr ⟨[],rfl,.inl rfl⟩⟩,by simp only[bQ,VR];exact⟨_,_,rfl,⟨none,0,rfl,Nat.le_refl _,.inl ⟨trivial,trivial⟩⟩,rfl⟩,⟨Nat.zero_le _,fun _ h=>by cases h⟩,K.one _⟩
    ·subst e1
     by_cases h0:len=0
     ·subst h0
      exact⟨[],[.iw 0 []],⟨_,rfl,.inr ⟨[],rfl,.inl rfl⟩⟩,by simp only[bQ,VR];exact⟨_,_,rfl,⟨some a,cap,rfl,Nat.zero_le _,.inl ⟨trivial,trivial⟩⟩,rfl⟩,⟨Nat.zero_le _,fun _ h=>by cases h⟩,K.one _⟩
     ·subst e2
      have hx': ∀ i,i<len-> ∃ y,(W.cells? 0 (a.add (i*P.cellsOf e)) (P.cellsOf e)).bind (DataW.trod enc P W 0 sp held m e)=some y:=fun i hi=>by
       rw[hx i hi,List.getElem?_eq_getElem (by omega)]
       exact⟨_,rfl⟩
      obtain⟨b,o,spot⟩:=a
      have hsp:spot=none:=by
       obtain⟨y,hy⟩:=hx' 0 (by omega)
       rw[Option.bind_eq_some_iff]at hy
       obtain⟨cs,hc,_⟩:=hy
       obtain⟨c1,c2⟩:=Bz hc
       have q:=c2 0 (by omega)
       rw[List.getElem?_eq_getElem (by omega)]at q
       have:=World.cell?_spot q
       simpa[Addr.add]using this
      subst hsp
      obtain⟨xs,ls,vs,k1,k2,k3,k4,k5,k6,k7⟩:=BA K (T:=T') (b:=b) (o:=o) (fun cs y=>uP K n m T' e cs y h3) h1 len elems hel fun i hi=>by
       have:=hx i hi
       rw[add_plain,h1]at this
       rw[h1]
       exact this
      refine⟨xs,[.iw xs.length ls],⟨_,rfl,.inr ⟨ls,k2,.inl rfl⟩⟩,?_,⟨by rw[k1];omega,k6⟩,Nat.le_trans (by show 1+_<=_;rw[Nat.add_comm];exact Nat.succ_le_succ k7) (K.aC _ _)⟩
      simp only[bQ,VR]
      refine⟨_,_,rfl,⟨some ⟨b,o,none⟩,cap,by rw[k1],by rw[k1];exact Ts,.inr ⟨b,o,vs,rfl,?_,k5,k3⟩⟩,rfl⟩
      have hv0:0<vs.length:=by rw[k4];exact Nat.mul_pos (by omega) h2
      exact Lq (k5 0 _ (List.getElem?_eq_getElem hv0))
   ·cases h
  ·rename_i fs hu
   rw[Bool.and_eq_true]at h
   obtain⟨h1,h2⟩:=h
   obtain⟨xs,m,rfl,e2,hl,hxl,hf⟩:=DataW.trod_struct hu hy
   subst e2
   have:=tQ K (n:=m) (fun T t cs y=>uP K n m T t cs y) fs.toList xs 0 T cs h2 (by simp[hxl]) fun i f hm=>hf i f (by simpa using hm)
   rw[List.drop_zero]at this
   have e:cs.take (size T)=cs:=by
    rw[<-Nat.eq_of_beq_eq_true h1,<-hl,List.take_length]
   rw[e]at this
   obtain⟨x,bs,k1,k2,k3,k4⟩:=this
   exact⟨x,bs,k1,k2,k3,Nat.le_trans k4 (K.agg _)⟩
  ·cases h
end
end Go.Proofs.Vq

noncomputable section
namespace Go.Proofs.Vq
open Go.Ab Go.Ab.Lf Go.ChangeShapes Go.WideShapes Go.ChangeAt Go.RowKit
set_option maxRecDepth 100000
def g0:Cg:=(fun _=>false,fun _=>AR _)
theorem ady:(sG g0).Ok 73 fp:=by
 intro pl q args H0 E0 h az e
 obtain⟨x,y,rfl,h1,rfl⟩:=zj e
 obtain⟨h2,_⟩:=Lf.T.dj h1
 cases h2
theorem R5: ∀ n,(sG (GL g0 n)).Ok 73 fp
 |0=>ady
 |n+1=>Uz Lp.toWQ (R5 n)
abbrev zn:Ty:=.pair (.aC bz) (.aC cr)
abbrev Qx:Ty:=.pair i64 (.pair (.aC u64) i64)
theorem Qy{ss:List (den bz)}{fs:List (den cr)}(B:Small ss fs)(F fu:Int)(az:List Int){a1 a2 a3:AV}(h1:EV N0 (.aC bz) ss [a1])(h2:EV N0 (.aC cr) fs [a2])(h3:EV N0 (.aC u64) az [a3]): ∃ n,isT (fp n n 7 [.agg [a1,a2],.agg [.int .i64 F,a3,.int .i64 fu]] (fC 0))=true:=by
 obtain⟨E0,hE⟩: ∃ E0:En,E0=⟨fun _=>⟨.any,0⟩,fun r=>[a1,a2,a3].getD (r - 1) .any,N0,fun _=>.any⟩:=⟨_,rfl⟩
 have sm:=cg (ai _) (ai _) (k:=k7 (GL g0 65) (ss,fs,F,az,fu,())) (m:=m7 (GL g0 65) (ss,fs,F,az,fu,())) (agZ ss fs F fu az g0 B)
 have e:((s7 (GL g0 65)).f (aH RW (ss,fs,F,az,fu,()))).val=some (aH GO (true,())):=by
  refine zk (ti:=RW) (to:=GO) (x:=(ss,fs,F,az,fu,())) (y:=(true,())) ?_
  show(bif k7 (GL g0 65) (ss,fs,F,az,fu,())then some (m7 (GL g0 65) (ss,fs,F,az,fu,()))else none)=_
  rw[sm.1,sm.2]
  rfl
 have hP:eQ (Ps [.ag (Ps [.im bz,.im cr]),.ag (Ps [.n .i64,.im u64,.n .i64])]) (aH RW (ss,fs,F,az,fu,())) Lf.e1=some ([.ag [.c 1 (.aC bz) ss,.c 2 (.aC cr) fs],.ag [.c 0 i64 F,.c 3 (.aC u64) az,.c 0 i64 fu]],[],⟨4,.nil⟩):=rfl
 have hS:SR E0 (eS ⟨4,.nil⟩) (fC 0):=by
  have et:eS ⟨4,.nil⟩=(⟨4,.nil⟩:Hq):=rfl
  rw[et]
  have no: ∀ r R,¬ (Tr.nil:Tr Lf.Row).get r=some R:=fun r R h=>by
   have h:(none:Option Lf.Row)=some R:=h
   cases h
  refine⟨?_,?_,?_,?_⟩
  ·intro r R h;exact(no r R h).elim
  ·rintro r r' id ⟨R,h,_⟩;exact(no r R h).elim
  ·rintro r id ⟨R,h,_⟩;exact(no r R h).elim
  ·intro id row h
   subst hE
   cases h
 have hv:Vs E0 4 [.ag [.c 1 (.aC bz) ss,.c 2 (.aC cr) fs],.ag [.c 0 i64 F,.c 3 (.aC u64) az,.c 0 i64 fu]] [.agg [a1,a2],.agg [.int .i64 F,a3,.int .i64 fu]]:=by
  subst hE
  exact .cons (.ag (.cons (.c h1 fun _=>⟨by decide,rfl⟩) (.cons (.c h2 fun _=>⟨by decide,rfl⟩) .nil))) (.cons (.ag (.cons (.c rfl fun k=>(k rfl).elim) (.cons (.c h3 fun _=>⟨by decide,rfl⟩) (.cons (.c rfl fun k=>(k rfl).elim) .nil)))) .nil)
 obtain⟨c,h',E1,ws,H1,⟨M,hM⟩,_,_,hQ,hV⟩:=abb Lp (R5 65) _ _ _ _ E0 (fC 0) _ e hP hv hS
 have hM:fp M M 7 [.agg [a1,a2],.agg [.int .i64 F,a3,.int .i64 fu]] (fC 0)=.ok c h':=hM M M (Nat.le_refl _) (Nat.le_refl _)
 have hQ:some (([.c 0 .bool true]:List Sv),([]:List Pl),Lf.e1)=some (ws,[],H1):=hQ
 cases hQ
 cases hV with
 |cons k _=>
  cases k with
  |c k _=>
   have k:[c]=[.bool true]:=k
   injection k with k
   subst k
   exact⟨M,by rw[hM];rfl⟩
abbrev gW(W:Go.World):G:=gE fun b=>b<W.heap.size
theorem Qz{W:Go.World}{b o:Nat}{v:Value}(h:W.cell? ⟨b,o,none⟩=some v):b<W.heap.size:=by
 by_cases hb:b<W.heap.size
 ·exact hb
 ·exfalso
  have e:W.heap[b]? =none:=Array.getElem?_eq_none (by omega)
  unfold Go.World.cell? at h
  dsimp only at h
  rw[e]at h
  cases h
theorem VX{W:Go.World}(h0:TabAt 0 Lib.deBruijn32tab W)(h1:TabAt 1 Lib.deBruijn64tab W): @kY tv (gW W) W:=by
 have key: ∀ (b:Nat) (l:List Nat),0<l.length->TabAt b l W->(gW W).eL b/\ee W b 0 (l.map fun n:Nat=>Value.int .u8 (n:Int)):=by
  intro b l hl h
  refine⟨Qz (h 0 hl),fun j v e=>?_⟩
  rw[List.getElem?_map,Option.map_eq_some_iff]at e
  obtain⟨n,hn,rfl⟩:=e
  obtain⟨hj,hv⟩:=List.getElem?_eq_some_iff.1 hn
  rw[Nat.zero_add,h j hj,List.getD_eq_getElem?_getD,hn]
  rfl
 intro p hp
 rcases List.mem_cons.1 hp with rfl|hp
 ·exact key 0 _ (by decide) h0
 ·obtain rfl:p=_:=by simpa using hp
  exact key 1 _ (by decide) h1
theorem Ls{W:Go.World}{X:den zn}{Y:den Qx}{xs ys:List AV}{cs ds:Array Value}(B:Small X.1 X.2)(h:EV N0 zn X xs)(hv: @bQ tv (@gI tv W) W xs cs.toList)(k:EV N0 Qx Y ys)(kv: @bQ tv (@gI tv W) W ys ds.toList)(h0:TabAt 0 Lib.deBruijn32tab W)(h1:TabAt 1 Lib.deBruijn64tab W):
 Calls Tryz.prog 7 #[.agg cs,.agg ds] W fun e W'=>e=.returned (.bool true)/\Below W.heap.size W W':=by
 obtain⟨ss,fs⟩:=X
 obtain⟨F,az,fu⟩:=Y
 obtain⟨_,c1,rfl,⟨a1,rfl,oh⟩,⟨a2,rfl,h2⟩⟩:=h
 obtain⟨_,c2,rfl,k1,_,c3,rfl,⟨a3,rfl,k2⟩,k3⟩:=k
 have k1:_=[AV.int .i64 F]:=k1
 have k3:_=[AV.int .i64 fu]:=k3
 subst k1
 subst k3
 obtain⟨n,hn⟩:=Qy B F fu az (a1:=a1) (a2:=a2) (a3:=a3) ⟨_,rfl,oh⟩ ⟨_,rfl,h2⟩ ⟨_,rfl,k2⟩
 refine @SO tv Tryz.prog _ (Qj n n) 7 _ [.agg cs,.agg ds] hn W (fun b=>b<W.heap.size) (fun b h=>h) (VX h0 h1) ?_
 simp only[bQ]
 refine⟨_,_,rfl,?_,_,_,rfl,?_,rfl⟩
 ·rw[VR]
  exact⟨_,rfl,hv⟩
 ·rw[VR]
  exact⟨_,rfl,kv⟩
end Go.Proofs.Vq

noncomputable section
namespace Go.Proofs.Vq
open Go.Ab Go.Ab.Lf Go.RowKit
set_option maxRecDepth 100000
abbrev w4(t:Ty)(l:List (den t)):Nat:=List.foldr (fun e n=>mm t e+n) 0 l
theorem BB{t:Ty}{l:List (den t)}{x:den t}(h:x∈l):mm t x<=w4 t l:=by
 induction l with
 |nil=>cases h
 |cons a l ih=>
  show _<=mm t a+w4 t l
  rcases List.mem_cons.1 h with e|e
  ·subst e;omega
  ·have:=ih e;omega
theorem EZ: ∀ (t:Ty) (x:den t),1<=mm t x
 | .int _,_=>Nat.le_refl _
 | .bool,_=>Nat.le_refl _
 | .str,_=>Nat.le_add_left _ _
 | .aC _,_=>Nat.le_add_right _ _
 | .pair a b,x=>by show 1<=mm a x.1+mm b x.2;have:=EZ a x.1;omega
theorem pI{t:Ty}(l:List (den t)):l.length<=w4 t l:=by
 induction l with
 |nil=>exact Nat.zero_le _
 |cons a l ih=>
  show l.length+1<=mm t a+w4 t l
  have:=EZ t a
  omega
theorem IF{n:Int}(h:(Lit.int .u64 n).wf=true):U n:=by
 unfold U
 simp[Lit.wf,IntKind.min,IntKind.max,IntKind.bits,IntKind.signed]at h
 omega
theorem Lt{X:den zn}(hB:Bd zn X)(hn:mm zn X<=1048576):Small X.1 X.2:=by
 obtain⟨ss,fs⟩:=X
 have hc:(1+w4 bz ss)+(1+w4 cr fs)<=1048576:=hn
 have l1:=pI (t:=bz) ss
 have l2:=pI (t:=cr) fs
 refine⟨by show List.length ss<=_;omega,by show List.length fs<=_;omega,fun s hs=>?_,fun f hf=>?_,fun f hf c WO=>?_⟩
 ·have h1:=BB (t:=bz) (l:=ss) hs
  have h2:mm bz s=(1+w4 i64 s.1)+(1+w4 i64 s.2):=rfl
  have h3:=pI (t:=i64) s.1
  have h4:=pI (t:=i64) s.2
  exact⟨by omega,by omega⟩
 ·have h1:=BB (t:=cr) (l:=fs) hf
  have h2:mm cr f=1+(1+(1+(1+(1+((1+w4 bE f.2.2.2.2.2.1)+(1+w4 i64 f.2.2.2.2.2.2)))))):=rfl
  have h3:=pI (t:=bE) f.2.2.2.2.2.1
  omega
 ·have h1:Bd (.aC cr) fs:=hB.2
  have h2:Bd cr f:=h1.2 f hf
  have h3:Bd (.aC bE) f.2.2.2.2.2.1:=h2.2.2.2.2.2.1
  have h4:Bd bE c:=h3.2 c WO
  exact IF h4.2.2
end Go.Proofs.Vq
