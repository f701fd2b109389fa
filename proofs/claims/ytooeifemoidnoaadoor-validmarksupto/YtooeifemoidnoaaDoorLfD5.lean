import Derived.Test.YtooeifemoidnoaaDoorLfD1
noncomputable section
namespace Go.Ab
namespace Lf
theorem part_seg{agg:Bool}{row:Rw}{b k o sz:Nat}{L:List AV}{c:AV}(s:row.seg b k=some L)(hsz:0<sz)(h:part agg L o sz=some c):partR agg row (b+o) sz=some c:=by
 unfold part at h
 split at h
 ·cases h
 ·rename_i q hq
  obtain⟨rfl,hl⟩:=segment_some hq
  obtain⟨s1,s2⟩:=seg_iff.1 s
  have hL:L.length=k:=by rw[s2,List.length_take,List.length_drop,toL_len];omega
  have hb:o+sz<=k:=by rw[List.length_take,List.length_drop]at hl;omega
  unfold partR
  rw[drop_take_seg s hb]
  exact h
theorem part_app{agg:Bool}{l r:List AV}{sz:Nat}{c:AV}(h:part agg l 0 sz=some c):part agg (l++r) 0 sz=some c:=by
 unfold part at h
 split at h
 ·cases h
 ·rename_i q hq
  obtain⟨rfl,hl⟩:=segment_some hq
  rw[List.drop_zero]at h hl
  have:List.take sz (l++r)=List.take sz l:=List.take_append_of_le_length (by rw[List.length_take]at hl;omega)
  unfold part
  rw[segment_of (by rw[List.drop_zero,this,hl]),List.drop_zero,this]
  exact h
theorem plainS_ok{E:En}{H:Hq}{h:Hp}(S:SR E H h){r:Nat}{l:List Sv}(e:plainS H r=some l): ∃ id row,(E.K r).av=.ref id 0/\h.objs.get id=some row/\Vs E H.next l row.toL:=by
 unfold plainS at e
 split at e
 ·rename_i hr;cases e
  obtain⟨id,row,a,b,c,_⟩:=(S.row _ _ hr).2
  exact⟨id,row,a,b,c⟩
 ·rename_i hr;cases e
  obtain⟨id,row,a,b,c⟩:=(S.row _ _ hr).2
  exact⟨id,row,a,(S.g _ _ b).2.1,c⟩
 ·cases e
theorem elem_of{E:En}{N:Nat}{t:Ty}{x:List (den t)}{base i:Nat}{row:Rw}{ls:List AV}(hi:i<x.length)(s:row.seg base (x.length*size t)=some ls)(e:Els (EV E.G t) x ls):
 EV E.G t (x.getD i (dflt t)) ((ls.drop (i*size t)).take (size t))/\Vs E N (cellsT t (x.getD i (dflt t))) ((ls.drop (i*size t)).take (size t))/\row.seg (base+i*size t) (size t)=some ((ls.drop (i*size t)).take (size t)):=by
 have h1:=e.get (EV.length t) hi (dflt t)
 refine⟨h1,cellsT_ok rfl t _ _ h1,drop_take_seg s ?_⟩
 have:=Nat.mul_le_mul_right (size t) (Nat.succ_le_of_lt hi)
 rw[Nat.succ_mul]at this;exact this
theorem elemS_ok{E:En}{H:Hq}{h:Hp}(S:SR E H h){r sz i id base n:Nat}{l:List Sv}(e:elemS H r sz i=some l)(hk:(E.K r).av=.hsl id base n sz)(hi:i<n):
 ∃ row L,h.objs.get id=some row/\Vs E H.next l L/\row.seg (base+i*sz) sz=some L:=by
 have key: ∀ {t:Ty} {x:List (den t)} {S':Nat->Option Rw},(∀ row,S' id=some row->h.objs.get id=some row)->LR E.G t x (E.K r) S'->(bif Nat.beq sz (size t)then some (cellsT t (x.getD i (dflt t)))else none)=some l-> ∃ row L,h.objs.get id=some row/\Vs E H.next l L/\row.seg (base+i*sz) sz=some L:=by
  intro t x S' hs q e
  obtain⟨hb,e⟩:=condS e
  cases e
  have hz:=beq_true hb
  rcases q.2 with⟨k,_⟩|⟨id',base',row,ls,k1,k2,k3,k4⟩
  ·rw[hk]at k;cases k
  ·rw[hk]at k1
   injection k1 with a1 a2 a3 a4
   subst a1;subst a2
   rw[<-q.1]at a3 k3
   rw[a3]at hi
   obtain⟨_,e2,e3⟩:=elem_of (N:=H.next) hi k3 k4
   exact⟨row,_,hs _ k2,e2,by rw[hz];exact e3⟩
 unfold elemS at e
 split at e
 ·rename_i t x hr;exact key (fun _ e=>e) (S.row _ _ hr).2 e
 ·rename_i t x hr;exact key (fun _ e=>(S.g _ _ e).2.1) (S.row _ _ hr).2 e
 ·cases e
theorem loadS_ok{E:En}{H:Hq}{h:Hp}(S:SR E H h){sz:Nat}{agg:Bool}{p v:Sv}{a:AV}(hv:V E H.next p a)(e:loadS sz agg p H=some v): ∃ c,aLoad h sz agg a=some c/\V E H.next v c:=by
 unfold loadS at e
 have hsz:=blt_iff.1 (condS e).1
 replace e:=(condS e).2
 split at e
 ·rename_i r o
  split at e
  ·rename_i l hl
   obtain⟨id,row,k1,k2,k3⟩:=plainS_ok S hl
   cases hv with
   |rf h1 h2=>
    rw[k1]at h2;cases h2
    obtain⟨c,c1,c2⟩:=part1_ok k3 e
    refine⟨c,?_,c2⟩
    show(match h.objs.get id with|some cs=>partR agg cs o sz|none=>none)=_
    rw[k2];exact partR_of hsz c1
  ·cases e
 ·rename_i r s i o
  split at e
  ·rename_i l hl
   cases hv with
   |re h1 h2 h3=>
    rename_i id base n
    obtain⟨row,L,k1,k2,k3⟩:=elemS_ok S hl h2 h3
    obtain⟨c,c1,c2⟩:=part1_ok k2 e
    refine⟨c,?_,c2⟩
    show(match h.objs.get id with|some cs=>partR agg cs (base+i*s+o) sz|none=>none)=_
    rw[k1];exact part_seg k3 hsz c1
  ·cases e
 ·cases hv with
  |zp k=>
   obtain⟨c,c1,c2⟩:=part1_ok k e
   exact⟨c,part_app c1,c2⟩
  |zr k g s=>
   rename_i l' id off row
   obtain⟨c,c1,c2⟩:=part1_ok k e
   refine⟨c,?_,c2⟩
   show(match h.objs.get id with|some cs=>partR agg cs off sz|none=>none)=_
   rw[(S.g _ _ g).2.1]
   have:=part_seg s hsz c1
   exact this
 ·cases e
theorem sim_load(sz:Nat)(agg:Bool)(a:Od):SimF (sLoad sz agg a) (fun _ _=>kLoad sz agg (aOd a)):=sim_same (by
 intro E T t H h v T' H' hT hH e
 unfold sLoad at e
 split at e
 ·rename_i p hp
  obtain⟨e1,rfl,rfl⟩:=okO_some e
  obtain⟨c,hc,hcv⟩:=opd_ok hT hp
  obtain⟨r,h1,h2⟩:=loadS_ok hH hcv e1
  refine⟨rfl,rfl,r,?_,h2⟩
  unfold kLoad
  rw[hc]
  simp only[h1]
 ·cases e)
theorem set_row{E:En}{H:Hq}{h:Hp}(S:SR E H h){r id:Nat}{R R':Row}{row':Rw}(hr:H.objs.get r=some R)(lv:R.live=true)(lv':R'.live=true)(hid:ido (E.K r).av=some id)
 (hR:RV E H.next (setO h id (some row')) (E.K r) R'):SR E (setQ H r (some R')) (setO h id (some row'))/\Nx E E H (setQ H r (some R')) h (setO h id (some row')):=by
 have ow: ∀ q,own (setQ H r (some R')) q->own H q:=by
  rintro q ⟨Q,a,b⟩
  rw[setQ_get]at a
  split at a
  ·rename_i e;rw[e];exact⟨R,hr,lv⟩
  ·exact⟨Q,a,b⟩
 refine⟨⟨?_,?_,?_,?_⟩,⟨ELe.refl _ _,Nat.le_refl _,Nat.le_refl _,fun q id o e=>.inl ⟨q,ow q o,e⟩,fun _ _ e=>.inl e,fun i hi hn=>?_⟩⟩
 ·intro q Q hq
  rw[setQ_get]at hq
  split at hq
  ·rename_i e;subst e;cases hq;exact⟨(S.row _ _ hr).1,hR⟩
  ·rename_i ne
   refine⟨(S.row _ _ hq).1,(S.row _ _ hq).2.mono (ELe.refl _ _) (Nat.le_refl _) fun lq i row e1 e2=>?_⟩
   rw[setO_get',if_neg fun ei=>ne (S.inj q r id ⟨Q,hq,lq⟩ ⟨R,hr,lv⟩ (by rw[e1,ei]) hid)]
   exact e2
 ·exact fun a b i oa ob ea eb=>S.inj a b i (ow a oa) (ow b ob) ea eb
 ·exact fun a i oa ea=>S.lt a i (ow a oa) ea
 ·intro i row e
  obtain⟨a,b,c⟩:=S.g i row e
  refine⟨a,?_,fun q oq=>c q (ow q oq)⟩
  rw[setO_get',if_neg fun ei=>c r ⟨R,hr,lv⟩ (by rw[ei];exact hid)]
  exact b
 ·rw[setO_get',if_neg fun ei=>hn r ⟨R,hr,lv⟩ (by rw[ei];exact hid)]
theorem put_mid(L B v:List AV)(o:Nat)(h:o+v.length<=L.length): ∀ (A:List AV),put (A++(L++B)) (A.length+o) v=A++(put L o v++B)
 | []=>by
  simp only[List.nil_append,List.length_nil,Nat.zero_add]
  rw[put_eq,put_eq,List.take_append_of_le_length (by omega),List.drop_append_of_le_length h]
  simp
 |a::A=>by
  have:=put_mid L B v o h A
  rw[put_eq]at this ⊢
  rw[List.length_cons,show A.length+1+o=A.length+o+1 by omega,List.cons_append,List.take_succ_cons,show A.length+o+1+v.length=A.length+o+v.length+1 by omega,List.drop_succ_cons,List.cons_append,this]
  rfl
theorem put_len(l:List AV)(o:Nat)(v:List AV)(h:o+v.length<=l.length):(put l o v).length=l.length:=by
 rw[put_eq,List.length_append,List.length_append,List.length_take,List.length_drop];omega
theorem els_split{G:Nat->Option Rw}{t:Ty}{x:List (den t)}{ls:List AV}(e:Els (EV G t) x ls){i:Nat}(hi:i<x.length):ls=ls.take (i*size t)++((ls.drop (i*size t)).take (size t)++ls.drop (i*size t+size t)):=by
 rw[<-List.drop_drop,List.take_append_drop,List.take_append_drop]
theorem els_set{G:Nat->Option Rw}{t:Ty}{x:List (den t)}{ls:List AV}(e:Els (EV G t) x ls){i:Nat}(hi:i<x.length){y:den t}{c:List AV}(hy:EV G t y c):Els (EV G t) (x.set i y) (ls.take (i*size t)++(c++ls.drop (i*size t+size t))):=by
 rw[List.set_eq_take_append_cons_drop,if_pos hi]
 have h1:=e.take (EV.length t) i
 have h2:=e.drop (EV.length t) (i+1)
 rw[Nat.succ_mul]at h2
 exact h1.app ⟨c,_,rfl,hy,h2⟩
theorem sim_store(sz:Nat)(a b:Od):SimF (sStore sz a b) (fun _ _=>kStore sz (aOd a) (aOd b)):=by
 intro E T t H h v T' H' hT hH e
 unfold sStore at e
 split at e
 ·rename_i w hw
  cases hb:(Nat.beq (len w.cells) sz&&allB one1 w.cells)with
  |false=>rw[hb]at e;cases e
  |true=>
   rw[hb]at e
   simp only[cond_true]at e
   rw[Bool.and_eq_true]at hb
   obtain⟨d,hd,hdv⟩:=opd_ok hT hw
   have hcs:=hdv.cells
   have hlen:d.cells.length=w.cells.length:=hcs.length.symm
   have hsz:w.cells.length=sz:=by have:=beq_true hb.1;rwa [len_eq]at this
   have hone:allB cell1 d.cells=true:=by
    rw[allB_eq,List.all_eq_true]
    refine hcs.ones fun q hq=>?_
    have:=hb.2;rw[allB_eq,List.all_eq_true]at this;exact this q hq
   have hst: ∀ {id off:Nat} {row:Rw},aOd a t=some (.ref id off)->h.objs.get id=some row->off+sz<=row.n->kStore sz (aOd a) (aOd b) t h=.ok undefA (setO h id (some (row.put off d.cells))):=by
    intro id off row h1 h2 h3
    unfold kStore
    rw[h1,hd]
    simp only[h2]
    have q:(Nat.beq (len d.cells) sz&&(Nat.ble (Nat.add off (len d.cells)) row.n&&allB cell1 d.cells))=true:=by
     rw[len_eq,hlen,hsz,hone,Nat.beq_refl,Bool.and_true,Bool.true_and]
     rw[Nat.ble_eq];exact h3
    rw[q];rfl
   split at e
   ·rename_i r o ha
    obtain⟨p,hp,hpv⟩:=opd_ok hT ha
    split at e
    ·rename_i l hr
     cases hq:Nat.ble (Nat.add o (len w.cells)) (len l)with
     |false=>rw[hq]at e;cases e
     |true=>
      rw[hq]at e
      obtain⟨rfl,rfl,rfl⟩:=okV_some e
      have hq:=Nat.le_of_ble_eq_true hq
      rw[len_eq,len_eq]at hq
      obtain⟨id,row,k1,k2,k3,k4⟩:=(hH.row _ _ hr).2
      cases hpv with
      |rf h1 h2=>
       rw[k1]at h2;cases h2
       have hn:o+sz<=row.n:=by rw[<-toL_len,<-k3.length,<-hsz];exact hq
       have hR:RV E H.next (setO h id (some (row.put o d.cells))) (E.K r) (.o _ (putS l o w.cells)):=
        ⟨id,row.put o d.cells,k1,by rw[setO_get',if_pos rfl],by rw[toL_put (by rw[hlen,hsz];exact hn)];exact k3.put hcs o,k4⟩
       obtain⟨S,X⟩:=set_row hH hr rfl rfl (by rw[k1];rfl) hR
       exact⟨_,_,E,Ev.const (hst hp k2 hn),X,S,.tu .nil,hT⟩
    ·cases e
   ·rename_i r s i o ha
    obtain⟨p,hp,hpv⟩:=opd_ok hT ha
    split at e
    ·rename_i ty x hr
     cases hq:(Nat.beq s (size ty)&&Nat.ble (Nat.add o (len w.cells)) s)with
     |false=>rw[hq]at e;cases e
     |true=>
      rw[hq]at e
      simp only[cond_true]at e
      rw[Bool.and_eq_true]at hq
      have hs:s=size ty:=beq_true hq.1
      have hos:=Nat.le_of_ble_eq_true hq.2
      rw[len_eq]at hos
      split at e
      ·rename_i y H1 hy
       split at e
       ·rename_i t2 x2 hr2
        obtain⟨rfl,rfl,rfl⟩:=okV_some e
        cases hpv with
        |re h1 h2 h3=>
         rename_i id base n
         have q:=(hH.row _ _ hr).2
         rcases q.2 with⟨k,_⟩|⟨id',base',row,ls,k1,k2,k3,k4⟩
         ·rw[h2]at k;cases k
         ·rw[h2]at k1
          injection k1 with a1 a2 a3 a4
          subst a1;subst a2
          rw[<-q.1]at a3 k3
          rw[a3]at h3
          obtain⟨_,e2,e3⟩:=elem_of (N:=H.next) h3 k3 k4
          obtain⟨E1,c,dd,F,hcd,hey,hnil⟩:=asT_ok ty E H h _ [] _ y H1 hH (e2.put hcs o) hy
          have hdd:dd=[]:=by cases hnil;rfl
          rw[hdd,List.append_nil]at hcd
          have hr1:H1.objs.get r=some (.l t2 x2):=hr2
          have q2:=(F.S.row _ _ hr1).2
          have hKr:(E1.K r).av=.hsl id base n s:=by rw[F.K];exact h2
          have hL:((ls.drop (i*size ty)).take (size ty)).length=size ty:=(elem_of (N:=H.next) h3 k3 k4).1 |> EV.length ty _ _
          have hlsl:ls.length=x.length*size ty:=k4.length (EV.length ty)
          have hle:i*size ty+size ty<=x.length*size ty:=by
           have:=Nat.mul_le_mul_right (size ty) (Nat.succ_le_of_lt h3)
           rw[Nat.succ_mul]at this;exact this
          obtain⟨s1,s2⟩:=seg_iff.1 k3
          have hn:base+i*s+o+sz<=row.n:=by rw[hs];rw[hsz,hs]at hos;have e0:o+sz<=size ty:=hos;omega
          have hput:(row.put (base+i*s+o) d.cells).seg base (x.length*size ty)=some (ls.take (i*size ty)++(c++ls.drop (i*size ty+size ty))):=by
           have hn':base+i*s+o+d.cells.length<=row.n:=by rw[hlen,hsz];exact hn
           refine seg_iff.2 ⟨by show base+_<=row.n;exact s1,?_⟩
           rw[toL_put hn',<-hcd]
           have hrow:row.toL=row.toL.take base++(ls++row.toL.drop (base+x.length*size ty)):=by
            rw[s2,<-List.drop_drop,List.take_append_drop,List.take_append_drop]
           have htl:(row.toL.take base).length=base:=by rw[List.length_take,toL_len];omega
           have hls:=els_split k4 h3
           have hA:(ls.take (i*size ty)).length=i*size ty:=by rw[List.length_take];omega
           have hod:o+d.cells.length<=size ty:=by rw[hlen,<-hs];exact hos
           have e1:put row.toL (base+i*s+o) d.cells=row.toL.take base++(put ls (i*size ty+o) d.cells++row.toL.drop (base+x.length*size ty)):=by
            have:=put_mid ls (row.toL.drop (base+x.length*size ty)) d.cells (i*size ty+o) (by omega) (row.toL.take base)
            rw[<-hrow,htl]at this
            rw[hs,Nat.add_assoc];exact this
           have e2:put ls (i*size ty+o) d.cells=ls.take (i*size ty)++(put ((ls.drop (i*size ty)).take (size ty)) o d.cells++ls.drop (i*size ty+size ty)):=by
            have:=put_mid ((ls.drop (i*size ty)).take (size ty)) (ls.drop (i*size ty+size ty)) d.cells o (by rw[hL];exact hod) (ls.take (i*size ty))
            rw[<-hls,hA]at this
            exact this
           rw[e1,List.drop_append_of_le_length (by rw[htl];exact Nat.le_refl _)]
           rw[show List.drop base (row.toL.take base)=[]from by rw[List.drop_eq_nil_iff,htl];exact Nat.le_refl _,List.nil_append]
           rw[List.take_append_of_le_length (by rw[put_len _ _ _ (by omega)];omega)]
           rw[show List.take (x.length*size ty) (put ls (i*size ty+o) d.cells)=put ls (i*size ty+o) d.cells from by rw[List.take_of_length_le];rw[put_len _ _ _ (by omega)];omega]
           exact e2.symm
          have hR:RV E1 H1.next (setO h id (some (row.put (base+i*s+o) d.cells))) (E1.K r) (.l ty (x.set i y)):=by
           refine⟨by rw[List.length_set,F.K];exact q.1,.inr ⟨id,base,row.put (base+i*s+o) d.cells,_,?_,by rw[setO_get',if_pos rfl],?_,els_set (k4.mono (EV.mono F.g ty)) h3 hey⟩⟩
           ·rw[hKr,F.K,<-q.1,hs,a3]
           ·rw[F.K,<-q.1];exact hput
          obtain⟨S,X⟩:=set_row F.S hr1 rfl rfl (by rw[hKr];rfl) hR
          exact⟨_,_,E1,Ev.const (hst hp k2 hn),F.X.trans X,S,.tu .nil,hT.mono (F.X.trans X).e (F.X.trans X).le⟩
       ·cases e
      ·cases e
    ·cases e
   ·cases e
 ·cases e
end Lf
end Go.Ab

noncomputable section
namespace Go.Ab
namespace Lf
theorem ixOk_iff{i n:Int}:ixOk i n=true↔0<=i/\i<n:=by unfold ixOk;simp
theorem sim_ixS(size:Nat)(a i:Od):SimF (sIxS size a i) (fun _ _=>kIxS size (aOd a) (aOd i)):=sim_same (by
 intro E T t H h v T' H' hT hH e
 unfold sIxS at e
 split at e
 ·rename_i iv hiv
  split at e
  ·rename_i k n hn
   obtain⟨c,hc,hcv⟩:=opd_ok hT hiv
   have:=v_num hcv hn;subst this
   have kH: ∀ {id off m sz:Nat} {j:Nat},n=(j:Int)->aOd a t=some (.hsl id off m sz)->j<m->sz=size->kIxS size (aOd a) (aOd i) t h=.ok (.ref id (off+j*size)) h:=by
    intro id off m sz j hj h1 h2 h3
    subst hj
    unfold kIxS
    rw[hc]
    show(match aOd a t with
     |some (.hsl id off n sz)=>bif Nat.blt j n&&Nat.beq sz size then Go.Ab.Ro.ok (.ref id (Nat.add off (Nat.mul j size))) h else .bad
     |some (.isl n cs)=>bif Nat.blt j n then .ok (.iptr (dp (Nat.mul j size) cs)) h else .bad
     | _=>.bad)=_
    rw[h1]
    simp only[blt_iff.2 h2,h3,Nat.beq_refl]
    rfl
   have conv: ∀ {m:Nat},ixOk n (Int.ofNat m)=true-> ∃ j:Nat,n=(j:Int)/\n.toNat=j/\j<m:=by
    intro m q
    obtain⟨q1,q2⟩:=ixOk_iff.1 q
    exact⟨n.toNat,by omega,rfl,by have:(Int.ofNat m)=(m:Int):=rfl;omega⟩
   split at e
   ·rename_i r s ha
    obtain⟨p,hp,hpv⟩:=opd_ok hT ha
    have key: ∀ {t':Ty} {x:List (den t')} {S':Nat->Option Rw},LR E.G t' x (E.K r) S'->(bif Nat.beq s size then Lf.T.ck (ixOk n (Int.ofNat x.length)) (okV (.re r s n.toNat 0) T H)else Lf.T.bad).val=some (v,T',H')->H'=H/\T'=T/\ ∃ c,kIxS size (aOd a) (aOd i) t h=.ok c h/\V E H.next v c:=by
     intro t' x S' q e
     cases hs:Nat.beq s size with
     |false=>rw[hs]at e;cases e
     |true=>
      rw[hs]at e
      have hs:=beq_true hs
      obtain⟨q1,e⟩:=Lf.T.ck_some e
      obtain⟨rfl,rfl,rfl⟩:=okV_some e
      obtain⟨j,hj,hj2,hlt⟩:=conv q1
      have q2:=lr_os hpv q
      cases hpv with
      |os h1 h2=>
       rcases h2 with⟨h2,h3⟩|⟨id,base,h2⟩
       ·rw[q.1,h3]at hlt;omega
       ·rw[h2]at hp
        rw[q.1]at hlt
        refine⟨rfl,rfl,_,kH hj hp hlt hs,?_⟩
        rw[hj2]
        have:=V.re (i:=j) (o:=0) h1 h2 hlt
        rw[Nat.add_zero,hs]at this
        rw[hs];exact this
    split at e
    ·rename_i t' x hr;exact key (hH.row _ _ hr).2 e
    ·rename_i t' x hr;exact key (hH.row _ _ hr).2 e
    ·cases e
   ·rename_i r s off m ha
    obtain⟨p,hp,hpv⟩:=opd_ok hT ha
    cases hs:Nat.beq s size with
    |false=>rw[hs]at e;cases e
    |true=>
     rw[hs]at e
     have hs:=beq_true hs
     obtain⟨q1,e⟩:=Lf.T.ck_some e
     obtain⟨rfl,rfl,rfl⟩:=okV_some e
     obtain⟨j,hj,hj2,hlt⟩:=conv q1
     cases hpv with
     |se _ _ _ _=>omega
     |ss h1 h2 h3=>
      rename_i id base
      refine⟨rfl,rfl,_,kH hj hp hlt hs,?_⟩
      rw[hj2]
      have:=V.re (i:=off+j) (o:=0) h1 h2 (by omega)
      rw[Nat.add_zero,Nat.add_mul,<-Nat.add_assoc,hs]at this
      rw[hs];exact this
   ·rename_i r s off m ha
    obtain⟨p,hp,hpv⟩:=opd_ok hT ha
    split at e
    ·rename_i k0 j
     cases hs:(Nat.beq s size&&Nat.blt j m)with
     |false=>rw[hs]at e;cases e
     |true=>
      rw[hs]at e
      rw[Bool.and_eq_true]at hs
      obtain⟨rfl,rfl,rfl⟩:=okV_some e
      cases hn
      cases hpv with
      |xo h1 h2=>
       have hs1:=beq_true hs.1
       refine⟨rfl,rfl,_,kH rfl hp (blt_iff.1 hs.2) hs1,?_⟩
       have:=V.rf (o:=off+j*s) h1 h2
       rw[hs1]at this
       rw[hs1];exact this
    ·cases e
   ·rename_i m ty x ha
    obtain⟨p,hp,hpv⟩:=opd_ok hT ha
    cases hs:Nat.beq size (Lf.size ty)with
    |false=>rw[hs]at e;cases e
    |true=>
     rw[hs]at e
     have hs:=beq_true hs
     obtain⟨q1,e⟩:=Lf.T.ck_some e
     obtain⟨rfl,rfl,rfl⟩:=okV_some e
     obtain⟨j,hj,hj2,hlt⟩:=conv q1
     rw[hj2]
     cases hpv with
     |c k _=>
      obtain⟨b,hb,k⟩:=k
      cases hb
      rcases k with⟨_,k⟩|⟨ls,k1,k2|⟨id,base,row,k2,k3,k4⟩⟩
      ·subst k;simp at hlt
      ·subst k2
       refine⟨rfl,rfl,.iptr (ls.drop (j*size)),?_,?_⟩
       ·unfold kIxS
        rw[hc,hp,hj]
        show(bif Nat.blt j x.length then Go.Ab.Ro.ok (.iptr (dp (Nat.mul j size) ls)) h else .bad)=_
        rw[blt_iff.2 hlt,dp_eq];rfl
       ·have h1:=k1.get (EV.length ty) hlt (dflt ty)
        have:=V.zp (r:=(ls.drop (j*size)).drop size) (cellsT_ok (E:=E) (N:=H'.next) rfl ty _ _ h1)
        rw[hs,List.take_append_drop]at this
        rw[hs];exact this
      ·subst k2
       refine⟨rfl,rfl,_,kH hj hp hlt hs.symm,?_⟩
       obtain⟨_,e2,e3⟩:=elem_of (N:=H'.next) hlt k4 k1
       have hl:(cellsT ty (x.getD j (dflt ty))).length=Lf.size ty:=by
        rw[e2.length,(elem_of (N:=H'.next) hlt k4 k1).1 |> EV.length ty _ _]
       refine .zr e2 k3 ?_
       rw[hl,hs];exact e3
   ·cases e
  ·cases e
 ·cases e)
theorem sim_ixA(n size:Nat)(a i:Od):SimF (sIxA n size a i) (fun _ _=>kIxA n size (aOd a) (aOd i)):=sim_same (by
 intro E T t H h v T' H' hT hH e
 unfold sIxA at e
 split at e
 ·rename_i k j hiv
  obtain⟨c,hc,hcv⟩:=opd_ok hT hiv
  cases hcv
  cases hj:Nat.blt j n with
  |false=>rw[hj]at e;cases e
  |true=>
   rw[hj]at e
   simp only[cond_true]at e
   have hk:kIxA n size (aOd a) (aOd i) t h=(match aOd a t with
    |some (.ref id off)=>bif Nat.blt j n then Go.Ab.Ro.ok (.ref id (Nat.add off (Nat.mul j size))) h else .bad
    |some (.iptr cs)=>bif Nat.blt j n then .ok (.iptr (dp (Nat.mul j size) cs)) h else .bad
    | _=>.bad):=by unfold kIxA;rw[hc];rfl
   rw[hk,hj]
   split at e
   ·rename_i r o ha
    obtain⟨rfl,rfl,rfl⟩:=okV_some e
    obtain⟨p,hp,hpv⟩:=opd_ok hT ha
    rw[hp]
    cases hpv with
    |rf h1 h2=>exact⟨rfl,rfl,_,rfl,.rf h1 h2⟩
   ·rename_i l ha
    obtain⟨p,hp,hpv⟩:=opd_ok hT ha
    rw[hp]
    cases hb:Nat.ble (Nat.mul j size) (len l)with
    |false=>rw[hb]at e;cases e
    |true=>
     rw[hb]at e
     obtain⟨rfl,rfl,rfl⟩:=okV_some e
     have hle:j*size<=l.length:=by have:=Nat.le_of_ble_eq_true hb;rwa [len_eq]at this
     rw[dp_eq]
     cases hpv with
     |zp k=>
      rename_i l' r
      refine⟨rfl,rfl,_,rfl,?_⟩
      rw[dp_eq,List.drop_append_of_le_length (by rw[<-k.length];exact hle)]
      exact .zp (k.drop _)
     |zr k g s=>
      rename_i l' id o row
      refine⟨rfl,rfl,_,rfl,?_⟩
      refine .zr (k.drop _) g ?_
      obtain⟨s1,s2⟩:=seg_iff.1 s
      rw[List.length_drop]
      refine seg_iff.2 ⟨by have e1:Nat.add o (Nat.mul j size)=o+j*size:=rfl;have e2:Nat.mul j size=j*size:=rfl;omega,?_⟩
      rw[s2,List.drop_take,List.drop_drop]
      rfl
   ·cases e
 ·cases e)
theorem numsOf_ok{E:En}{N:Nat}{k:IntKind}: ∀ {l:List Sv} {l':List AV} {r:List Int},Vs E N l l'->numsOf k l=some r->l'=r.map fun n=>.int k n
 | [],_,_,.nil,e=>by cases e;rfl
 |v::l,_,r,.cons hv h,e=>by
  change (match toN v with|some (k',n)=>(bif eqK k k' then(match numsOf k l with|some r=>some (n::r)|none=>none)else none)|none=>none)=some r at e
  split at e
  ·rename_i k' n hn
   obtain⟨hk,e⟩:=condS e
   split at e
   ·rename_i r' hr
    cases e
    have:=eqK_iff.1 hk;subst this
    rw[v_num hv hn,numsOf_ok h hr];rfl
   ·cases e
  ·cases e
theorem sim_index(n size:Nat)(agg:Bool)(a i:Od):SimF (sIndex n size agg a i) (fun _ _=>kIndex n size agg (aOd a) (aOd i)):=sim_same (by
 intro E T t H h v T' H' hT hH e
 unfold sIndex at e
 split at e
 ·rename_i cs ha
  obtain⟨p,hp,hpv⟩:=opd_ok hT ha
  cases hpv with
  |ag hcs=>
   rename_i l'
   split at e
   ·rename_i k j hi
    obtain⟨c,hc,hcv⟩:=opd_ok hT hi
    cases hcv
    cases hb:Nat.blt j n with
    |false=>rw[hb]at e;cases e
    |true=>
     rw[hb]at e
     obtain⟨e1,rfl,rfl⟩:=okO_some e
     obtain⟨r,h1,h2⟩:=part1_ok hcs e1
     refine⟨rfl,rfl,r,?_,h2⟩
     unfold kIndex
     rw[hp,hc]
     show(bif Nat.blt j n then(match part agg l' (Nat.mul j size) size with|some v=>Go.Ab.Ro.ok v h|none=>.bad)else .bad)=_
     rw[hb,h1];rfl
   ·rename_i m k0 x hi
    obtain⟨c,hc,hcv⟩:=opd_ok hT hi
    have:=v_num hcv rfl;subst this
    cases hag:(agg|| !(Nat.beq size 1))with
    |true=>rw[hag]at e;cases e
    |false=>
     rw[hag]at e
     rw[Bool.or_eq_false_iff]at hag
     simp only[cond_false]at e
     split at e
     ·rename_i w l
      split at e
      ·rename_i k y hk
       split at e
       ·rename_i nl hnl
        cases hlen:Nat.beq (len nl) n with
        |false=>rw[hlen]at e;cases e
        |true=>
         rw[hlen]at e
         obtain⟨q1,e⟩:=Lf.T.ck_some e
         obtain⟨rfl,rfl,rfl⟩:=okV_some e
         obtain⟨x1,x2⟩:=ixOk_iff.1 q1
         obtain⟨j,rfl⟩:=Int.eq_ofNat_of_zero_le x1
         have hj:j<n:=by have:(Int.ofNat n)=(n:Int):=rfl;omega
         have hl:=numsOf_ok hcs hnl
         have hnl2:nl.length=n:=by have:=beq_true hlen;rwa [len_eq]at this
         have hsz:size=1:=by cases hq:Nat.beq size 1 with
          |true=>exact beq_true hq
          |false=>rw[hq]at hag;cases hag.2
         refine⟨rfl,rfl,.int k (nl.getD j 0),?_,ci_num⟩
         unfold kIndex
         rw[hp,hc]
         show(bif Nat.blt j n then(match part agg l' (Nat.mul j size) size with|some v=>Go.Ab.Ro.ok v h|none=>.bad)else .bad)=_
         have hpt:part agg l' (Nat.mul j size) size=some (.int k (nl.getD j 0)):=by
          rw[hag.1,hsz,hl,show Nat.mul j 1=j from Nat.mul_one j]
          have hj2:j<nl.length:=by omega
          have ht:((nl.map fun n=>AV.int k n).drop j).take 1=[AV.int k (nl.getD j 0)]:=by
           rw[List.drop_eq_getElem_cons (by simpa using hj2)]
           simp[List.getD_eq_getElem?_getD,List.getElem?_eq_getElem hj2]
          unfold part
          rw[segment_of (by rw[ht];rfl),ht];rfl
         rw[blt_iff.2 hj,hpt];rfl
       ·cases e
      ·cases e
     ·cases e
   ·cases e
 ·cases e)
theorem sim_indexS(a i:Od):SimF (sIndexS a i) (fun _ _=>kIndexS (aOd a) (aOd i)):=sim_same (by
 intro E T t H h v T' H' hT hH e
 unfold sIndexS at e
 split at e
 ·rename_i w hw
  split at e
  ·rename_i b s hs
   split at e
   ·rename_i iv hiv
    split at e
    ·rename_i k n hn
     obtain⟨q1,e⟩:=Lf.T.ck_some e
     obtain⟨rfl,rfl,rfl⟩:=okV_some e
     obtain⟨c,hc,hcv⟩:=opd_ok hT hw
     obtain⟨d,hd,hdv⟩:=opd_ok hT hiv
     have:=v_str hcv hs;subst this
     have:=v_num hdv hn;subst this
     obtain⟨x1,x2⟩:=ixOk_iff.1 q1
     obtain⟨j,rfl⟩:=Int.eq_ofNat_of_zero_le x1
     have hj:j<s.data.toList.length:=by have:(Int.ofNat s.size)=(s.size:Int):=rfl;have e2:s.data.toList.length=s.size:=Array.length_toList
                                        omega
     refine⟨rfl,rfl,_,?_,ci_num⟩
     unfold kIndexS
     rw[hc,hd]
     show(match getN s.data.toList j with|some b=>Go.Ab.Ro.ok (.int .u8 b.toNat) h|none=>.bad)=_
     rw[getN_eq,List.getElem?_eq_getElem hj]
     simp[List.getD_eq_getElem?_getD,List.getElem?_eq_getElem hj]
    ·cases e
   ·cases e
  ·cases e
 ·cases e)
theorem bndN_ok{E:En}{N:Nat}{T:Tq}{t:Tm}(hT:TV E N T t){o:Option Od}{d:Sv}{l:Bool}{n:Int}{m:Nat}(hd:toN d=some (.i64,(m:Int)))(e:bndN o T d=some (l,n))(h0:0<=n):natArg (o.map aOd) t m=some n.toNat:=by
 unfold bndN at e
 cases o with
 |none=>
  simp only at e
  rw[hd]at e
  cases e
  simp[natArg]
 |some o=>
  simp only at e
  split at e
  ·rename_i w hw
   split at e
   ·rename_i k n' hn
    cases e
    obtain⟨c,hc,hcv⟩:=opd_ok hT hw
    have:=v_num hcv hn;subst this
    obtain⟨j,rfl⟩:=Int.eq_ofNat_of_zero_le h0
    show(match aOd o t with|some (.int _ (.ofNat n))=>some n| _=>none)=_
    rw[hc];rfl
   ·cases e
  ·cases e
theorem cutOk_iff{l u n:Int}:cutOk l u n=true↔0<=l/\l<=u/\u<=n:=by unfold cutOk;simp
theorem bounds_ok{E:En}{N:Nat}{T:Tq}{t:Tm}(hT:TV E N T t){lo hi:Option Od}{d:Sv}{l1 l2:Bool}{l u n:Int}{m:Nat}(hd:toN d=some (.i64,(m:Int)))(hn:n=m)(e1:bndN lo T (.i .i64 0)=some (l1,l))(e2:bndN hi T d=some (l2,u))(hc:cutOk l u n=true):
 bounds (lo.map aOd) (hi.map aOd) t m=some (l.toNat,u.toNat)/\l.toNat<=u.toNat/\u.toNat<=m:=by
 obtain⟨h1,h2,h3⟩:=cutOk_iff.1 hc
 have a1:=bndN_ok hT (m:=0) rfl e1 h1
 have a2:=bndN_ok hT hd e2 (by omega)
 unfold bounds
 rw[a1,a2]
 have b1:Nat.ble l.toNat u.toNat=true:=by rw[Nat.ble_eq];omega
 have b2:Nat.ble u.toNat m=true:=by rw[Nat.ble_eq];omega
 simp only[b1,b2]
 exact⟨rfl,by omega,by omega⟩
theorem isE_empty{a:AV}(h:isE a=true):emptyV a=true:=by cases a<;>first|exact h|rfl
theorem kSliceN_ne{size:Nat}{x:Opd}{lo hi:Option Opd}{t:Tm}{h:Hp}{a:AV}(hx:x t=some a)(he:isE a=false):kSliceN size x lo hi t h=kSlice size x lo hi t h:=by
 unfold kSliceN;rw[hx];simp only[he];rfl
theorem kSliceN_e{size:Nat}{x:Opd}{lo hi:Option Opd}{t:Tm}{h:Hp}{a:AV}{l u:Nat}(hx:x t=some a)(he:emptyV a=true)(hb:bounds lo hi t 0=some (l,u)):kSliceN size x lo hi t h=.ok a h:=by
 cases hi':isE a with
 |true=>unfold kSliceN;rw[hx];simp only[hi',hb];rfl
 |false=>
  have:a=.esl:=by cases a<;>first|rfl|(cases hi';done)|(cases he;done)|(rename_i v0;have k:isE (.sc v0)=true:=he;rw[k]at hi';cases hi')
  subst this
  rw[kSliceN_ne hx hi']
  unfold kSlice
  rw[hx]
  simp only[hb]
theorem kSlice_h{size:Nat}{x:Opd}{lo hi:Option Opd}{t:Tm}{h:Hp}{id off n sz l u:Nat}(hx:x t=some (.hsl id off n sz))(hb:bounds lo hi t n=some (l,u))(hs:sz=size):kSliceN size x lo hi t h=.ok (.hsl id (off+l*size) (u - l) sz) h:=by
 rw[kSliceN_ne hx rfl]
 unfold kSlice
 rw[hx]
 simp only[hb,hs,Nat.beq_refl]
 rfl
theorem sim_sliceN(size:Nat)(a:Od)(lo hi:Option Od):SimF (sSliceN size a lo hi) (fun _ _=>kSliceN size (aOd a) (lo.map aOd) (hi.map aOd)):=sim_same (by
 intro E T t H h v T' H' hT hH e
 unfold sSliceN at e
 split at e
 ·rename_i w hw
  split at e
  ·rename_i m hm
   split at e
   ·rename_i k n hn
    split at e
    ·rename_i ll l hl
     split at e
     ·rename_i lu u hu
      obtain⟨p,hp,hpv⟩:=opd_ok hT hw
      obtain⟨q,q1,_,q3,q4⟩:=lenS_ok hH hpv hm
      rw[q1]at hn;cases hn
      have bd:=fun hc=>bounds_ok (n:=(q:Int)) hT q1 rfl hl hu hc
      split at e
      ·rename_i z
       cases hz:isE z with
       |false=>rw[hz]at e;cases e
       |true=>
        rw[hz]at e
        obtain⟨c1,e⟩:=Lf.T.ck_some e
        obtain⟨rfl,rfl,rfl⟩:=okV_some e
        obtain⟨b1,_,_⟩:=bd c1
        cases hpv with
        |a hlf=>
         have hem:=isE_empty hz
         have:q=0:=q4 hem
         subst this
         exact⟨rfl,rfl,p,kSliceN_e hp hem b1,.a hlf⟩
      ·rename_i r s
       cases hs:Nat.beq s size with
       |false=>rw[hs]at e;cases e
       |true=>
        rw[hs]at e
        have hs:=beq_true hs
        obtain⟨c1,e⟩:=Lf.T.ck_some e
        obtain⟨rfl,rfl,rfl⟩:=okV_some e
        obtain⟨b1,b2,b3⟩:=bd c1
        cases hpv with
        |os h1 h2=>
         rcases h2 with⟨h2,h3⟩|⟨id,base,h2⟩
         ·have:q=0:=q4 h2
          subst this
          have e1:l.toNat=0:=by omega
          have e2:u.toNat - l.toNat=0:=by omega
          rw[e2,e1]
          exact⟨rfl,rfl,_,kSliceN_e hp h2 b1,.se h1 h2 h3 rfl⟩
         ·rw[h2]at hp q3
          have:(E.K r).n=q:=by cases q3;rfl
          refine⟨rfl,rfl,_,kSlice_h hp (by rw[this];exact b1) hs,?_⟩
          rw[<-hs]
          exact .ss h1 h2 (by omega)
      ·rename_i r s off m'
       cases hs:Nat.beq s size with
       |false=>rw[hs]at e;cases e
       |true=>
        rw[hs]at e
        have hs:=beq_true hs
        obtain⟨c1,e⟩:=Lf.T.ck_some e
        obtain⟨rfl,rfl,rfl⟩:=okV_some e
        obtain⟨b1,b2,b3⟩:=bd c1
        cases hpv with
        |se h1 h2 h3 h4=>
         have:q=0:=q4 h2
         subst this
         have e1:l.toNat=0:=by omega
         have e2:u.toNat - l.toNat=0:=by omega
         rw[e2,e1,h4]
         exact⟨rfl,rfl,_,kSliceN_e hp h2 b1,.se h1 h2 h3 rfl⟩
        |ss h1 h2 h3=>
         rename_i id base
         have:m'=q:=by cases q3;rfl
         subst this
         refine⟨rfl,rfl,_,kSlice_h hp b1 hs,?_⟩
         rw[<-hs]
         have:=V.ss (off:=off+l.toNat) (n:=u.toNat - l.toNat) h1 h2 (by omega)
         rw[Nat.add_mul,<-Nat.add_assoc]at this
         exact this
      ·rename_i r s off m'
       cases hs:((ll&&lu)&&(Nat.beq s size&&cutOk l u (q:Int)))with
       |false=>rw[hs]at e;cases e
       |true=>
        rw[hs]at e
        rw[Bool.and_eq_true,Bool.and_eq_true,Bool.and_eq_true]at hs
        obtain⟨rfl,rfl,rfl⟩:=okV_some e
        obtain⟨b1,b2,b3⟩:=bd hs.2.2
        have hs1:=beq_true hs.2.1
        cases hpv with
        |xo h1 h2=>
         rename_i id
         have:m'=q:=by cases q3;rfl
         subst this
         refine⟨rfl,rfl,_,kSlice_h hp b1 hs1,?_⟩
         rw[<-hs1]
         exact .xo h1 h2
      ·rename_i m' ty x
       cases hs:Nat.beq size (Lf.size ty)with
       |false=>rw[hs]at e;cases e
       |true=>
        rw[hs]at e
        have hs:=beq_true hs
        obtain⟨c1,e⟩:=Lf.T.ck_some e
        obtain⟨rfl,rfl,rfl⟩:=okV_some e
        obtain⟨b1,b2,b3⟩:=bd c1
        cases hpv with
        |c k _=>
         obtain⟨b,hb,k⟩:=k
         cases hb
         rcases k with⟨k,kx⟩|⟨ls,k1,k2|⟨id,base,row,k2,k3,k4⟩⟩
         ·have:q=0:=q4 k
          subst this
          subst kx
          exact⟨rfl,rfl,_,kSliceN_e hp k b1,.c ⟨_,rfl,.inl ⟨k,by simp⟩⟩ fun h=>(h rfl).elim⟩
         ·subst k2
          have:x.length=q:=by cases q3;rfl
          have hle:((x.drop l.toNat).take (u.toNat - l.toNat)).length=u.toNat - l.toNat:=by rw[List.length_take,List.length_drop];omega
          refine⟨rfl,rfl,.isl (u.toNat - l.toNat) (tk (Nat.mul (u.toNat - l.toNat) size) (dp (Nat.mul l.toNat size) ls)),?_,?_⟩
          ·rw[kSliceN_ne hp rfl]
           unfold kSlice
           rw[hp]
           simp only[this,b1]
           rfl
          ·refine .c ⟨_,rfl,.inr ⟨_,(k1.drop (EV.length ty) l.toNat).take (EV.length ty) (u.toNat - l.toNat),.inl ?_⟩⟩ fun h=>(h rfl).elim
           rw[hle,tk_eq,dp_eq,hs];rfl
         ·subst k2
          have:x.length=q:=by cases q3;rfl
          obtain⟨a1,a2,a3⟩:=lr_part (id:=0) rfl k4 k1 (off:=l.toNat) (m:=u.toNat - l.toNat) (by omega)
          refine⟨rfl,rfl,_,kSlice_h hp (by rw[this];exact b1) hs.symm,?_⟩
          refine .c ⟨_,rfl,cvs_of_z (id:=id) (base:=base+l.toNat*Lf.size ty) ?_ k3 ?_ a3⟩ fun h=>(h rfl).elim
          ·rw[a1,hs]
          ·rw[a1];exact a2
      ·cases e
     ·cases e
    ·cases e
   ·cases e
  ·cases e
 ·cases e)
theorem sim_sliceA(n size:Nat)(a:Od)(lo hi:Option Od):SimF (sSliceA n size a lo hi) (fun _ _=>kSliceA n size (aOd a) (lo.map aOd) (hi.map aOd)):=sim_same (by
 intro E T t H h v T' H' hT hH e
 unfold sSliceA at e
 split at e
 ·rename_i r o ha
  split at e
  ·rename_i l hl
   split at e
   ·rename_i u hu
    split at e
    ·rename_i cs hcs
     cases hs:(Nat.ble (Nat.add o (Nat.mul n size)) (len cs)&&(cutOk l u (Int.ofNat n)&&Nat.blt 0 size))with
     |false=>rw[hs]at e;cases e
     |true=>
      rw[hs]at e
      rw[Bool.and_eq_true,Bool.and_eq_true]at hs
      obtain⟨rfl,rfl,rfl⟩:=okV_some e
      obtain⟨b1,b2,b3⟩:=bounds_ok (n:=(n:Int)) (m:=n) hT rfl rfl hl hu hs.2.1
      obtain⟨p,hp,hpv⟩:=opd_ok hT ha
      obtain⟨id,row,k1,k2,k3⟩:=plainS_ok hH hcs
      cases hpv with
      |rf h1 h2=>
       rw[k1]at h2;cases h2
       refine⟨rfl,rfl,_,?_,.xo (id:=id) h1 k1⟩
       unfold kSliceA
       rw[hp]
       have q:=hs.1
       rw[len_eq,k3.length,toL_len]at q
       simp only[b1,k2,q]
       rfl
    ·cases e
   ·cases e
  ·cases e
 ·cases e)
theorem sim_sliceS(a:Od)(lo hi:Option Od):SimF (sSliceS a lo hi) (fun _ _=>kSliceS (aOd a) (lo.map aOd) (hi.map aOd)):=sim_same (by
 intro E T t H h v T' H' hT hH e
 unfold sSliceS at e
 split at e
 ·rename_i w hw
  split at e
  ·rename_i s hs
   split at e
   ·rename_i l hl
    split at e
    ·rename_i u hu
     cases hc:cutOk l u (Int.ofNat s.size)with
     |false=>rw[hc]at e;cases e
     |true=>
      rw[hc]at e
      obtain⟨rfl,rfl,rfl⟩:=okV_some e
      obtain⟨b1,b2,b3⟩:=bounds_ok (n:=(s.size:Int)) (m:=s.size) hT rfl rfl hl hu hc
      obtain⟨p,hp,hpv⟩:=opd_ok hT hw
      have:=v_str hpv hs;subst this
      refine⟨rfl,rfl,_,?_,.a rfl⟩
      unfold kSliceS
      rw[hp]
      simp only[b1]
    ·cases e
   ·cases e
  ·cases e
 ·cases e)
theorem sim_emp(x y z:Od):SimF (sEmp x y z) (fun _ _=>kEmp (aOd x) (aOd y) (aOd z)):=sim_same (by
 intro E T t H h v T' H' hT hH e
 unfold sEmp at e
 split at e
 ·rename_i k hy
  split at e
  ·rename_i k' hz
   obtain⟨c,hc,hcv⟩:=opd_ok hT hy
   obtain⟨d,hd,hdv⟩:=opd_ok hT hz
   cases hcv;cases hdv
   have key: ∀ {w:Sv} {p:AV},aOd x t=some (wkE p)->V E H.next w p->(emptyV p=true∨(∃ id o n s,p=.hsl id o n s)∨ ∃ n cs,p=.isl n cs)->kEmp (aOd x) (aOd y) (aOd z) t h=.ok .esl h:=by
    intro w p h1 h2 h3
    unfold kEmp
    rw[hc,hd,h1]
    rcases h3 with h3|⟨_,_,_,_,rfl⟩|⟨_,_,rfl⟩
    ·rw[wk_empty h3];rfl
    ·rfl
    ·rfl
   split at e
   ·rename_i w hx
    cases hw:emptyV w with
    |false=>rw[hw]at e;cases e
    |true=>
     rw[hw]at e
     obtain⟨rfl,rfl,rfl⟩:=okV_some e
     obtain⟨p,hp,hpv⟩:=opw_ok hT hx
     refine⟨rfl,rfl,_,key hp hpv ?_,.a rfl⟩
     cases hpv;exact .inl hw
   ·rename_i hx
    obtain⟨rfl,rfl,rfl⟩:=okV_some e
    obtain⟨p,hp,hpv⟩:=opw_ok hT hx
    refine⟨rfl,rfl,_,key hp hpv ?_,.a rfl⟩
    cases hpv with
    |os _ h2=>rcases h2 with⟨h2,_⟩|⟨_,_,h2⟩
              ·exact .inl h2
              ·exact .inr (.inl ⟨_,_,_,_,h2⟩)
   ·rename_i hx
    obtain⟨rfl,rfl,rfl⟩:=okV_some e
    obtain⟨p,hp,hpv⟩:=opw_ok hT hx
    refine⟨rfl,rfl,_,key hp hpv ?_,.a rfl⟩
    cases hpv with
    |se _ h2 _ _=>exact .inl h2
    |ss _ _ _=>exact .inr (.inl ⟨_,_,_,_,rfl⟩)
   ·rename_i hx
    obtain⟨rfl,rfl,rfl⟩:=okV_some e
    obtain⟨p,hp,hpv⟩:=opw_ok hT hx
    refine⟨rfl,rfl,_,key hp hpv ?_,.a rfl⟩
    cases hpv
    exact .inr (.inl ⟨_,_,_,_,rfl⟩)
   ·rename_i hx
    obtain⟨rfl,rfl,rfl⟩:=okV_some e
    obtain⟨p,hp,hpv⟩:=opw_ok hT hx
    refine⟨rfl,rfl,_,key hp hpv ?_,.a rfl⟩
    cases hpv with
    |c k _=>
     obtain⟨b,hb,k⟩:=k
     cases hb
     rcases k with⟨k,_⟩|⟨_,_,k|⟨_,_,_,k,_⟩⟩
     ·exact .inl k
     ·exact .inr (.inr ⟨_,_,k⟩)
     ·exact .inr (.inl ⟨_,_,_,_,k⟩)
   ·cases e
  ·cases e
 ·cases e)
theorem sim_cap(x:Od):SimF (sCap x) (fun _ _=>kCap (aOd x)):=sim_same (by
 intro E T t H h v T' H' hT hH e
 unfold sCap at e
 split at e
 ·rename_i w hx
  cases hw:emptyV w with
  |false=>rw[hw]at e;cases e
  |true=>
   rw[hw]at e
   obtain⟨rfl,rfl,rfl⟩:=okV_some e
   obtain⟨p,hp,hpv⟩:=opw_ok hT hx
   cases hpv
   rw[wk_empty hw]at hp
   refine⟨rfl,rfl,_,?_,.i⟩
   unfold kCap
   rw[hp]
 ·cases e)
end Lf
end Go.Ab

noncomputable section
namespace Go.Ab
namespace Lf
def Dst(G:Nat->Option Rw)(h:Hp)(t:Ty)(a:AV)(x:List (den t)):Prop:=
 (emptyV a=true/\x=[])∨ ∃ id base row ls,a=.hsl id base x.length (size t)/\h.objs.get id=some row/\row.seg base (x.length*size t)=some ls/\Els (EV G t) x ls
theorem peek_ok{t:Ty}{s:Sv}{a:AV}{x:List (den t)}{E:En}{H H1:Hq}{h:Hp}(S:SR E H h)(hv:V E H.next s a)(e:peek t s H=some (x,H1)): ∃ E1,Fz E E1 H H1 h/\Dst E1.G h t a x:=by
 unfold peek at e
 split at e
 ·rename_i r sz
  split at e
  ·rename_i t' y hr
   split at e
   ·rename_i p hp
    cases p
    cases e
    refine⟨E,Fz.refl S,?_⟩
    rcases lr_os hv (S.row _ _ hr).2 with k|⟨id,base,row,ls,k1,_,_,k2,k3,k4⟩
    ·exact .inl k
    ·exact .inr ⟨id,base,row,ls,k1,k2,k3,k4⟩
   ·cases e
  ·cases e
 ·rename_i r sz off n
  split at e
  ·rename_i t' y hr
   split at e
   ·rename_i p hp
    cases p
    cases e
    refine⟨E,Fz.refl S,?_⟩
    rcases lr_ss hv (S.row _ _ hr).2 with⟨k1,k2,k3,_⟩|⟨id,base,row,ls,k1,k2,_,_,k3,k4,k5⟩
    ·subst k3;exact .inl ⟨k1,by simp⟩
    ·obtain⟨a1,a2,a3⟩:=lr_part rfl k4 k5 k2 (id:=0)
     exact .inr ⟨id,base+off*size t,row,_,by rw[a1];exact k1,k3,by rw[a1];exact a2,a3⟩
   ·cases e
  ·cases e
 ·obtain⟨hb,e⟩:=condS e
  cases e
  cases hv
  exact⟨E,Fz.refl S,.inl ⟨hb,rfl⟩⟩
 ·rename_i r sz off n
  split at e
  ·rename_i l hr
   have hb:=beq_true (condS e).1
   replace e:=(condS e).2
   unfold rdX at e
   have hle:=Nat.le_of_ble_eq_true (condS e).1
   replace e:=(condS e).2
   rw[len_eq]at hle
   rw[dp_eq]at e
   obtain⟨id,row,k1,k2,k3,_⟩:=(S.row _ _ hr).2
   obtain⟨E1,c,d,F,e1,e2,e3⟩:=rdS_ok (asT_ok t) n E H h _ _ x H1 S (k3.drop off) e
   refine⟨E1,F,?_⟩
   cases hv with
   |xo h1 h2=>
    rw[k1]at h2;cases h2
    have hc:=e2.length (EV.length t)
    have hlen:=k3.length
    refine .inr ⟨id,off,row,c,by rw[e3,hb],k2,?_,e2⟩
    refine seg_iff.2 ⟨?_,?_⟩
    ·have:=congrArg List.length e1
     rw[List.length_drop,List.length_append,hc]at this
     rw[<-toL_len];omega
    ·rw[e1,<-hc,List.take_left]
  ·cases e
 ·cases e
structure Kl(E:En)(H H2:Hq)(a:AV):Prop where
 n:H2.next=H.next
 sub: ∀ r R,H2.objs.get r=some R->H.objs.get r=some R
 id: ∀ id,ido a=some id-> ∃ r,own H r/\ ¬ own H2 r/\ido (E.K r).av=some id
 only: ∀ r,own H r-> ¬ own H2 r->ido (E.K r).av=ido a
theorem kl_of{E:En}{H:Hq}{r:Nat}{R:Row}{a:AV}(hr:H.objs.get r=some R)(lv:R.live=true)(hi:ido (E.K r).av=ido a):Kl E H (setQ H r none) a:=by
 have no: ¬ own (setQ H r none) r:=by rintro⟨Q,q,_⟩;rw[setQ_get,if_pos rfl]at q;cases q
 refine⟨rfl,fun q Q e=>?_,fun id e=>⟨r,⟨R,hr,lv⟩,no,by rw[hi];exact e⟩,fun q o n=>?_⟩
 ·rw[setQ_get]at e
  split at e
  ·cases e
  ·exact e
 ·by_cases k:q=r
  ·rw[k];exact hi
  ·obtain⟨Q,q1,q2⟩:=o
   exact(n ⟨Q,by rw[setQ_get,if_neg k];exact q1,q2⟩).elim
theorem kill_ok{s:Sv}{a:AV}{E:En}{H H2:Hq}(hv:V E H.next s a)(e:kill s H=some H2):Kl E H H2 a:=by
 unfold kill at e
 split at e
 ·cases e
  cases hv with
  |a h=>exact⟨rfl,fun _ _ e=>e,fun id k=>by cases a<;>first|(cases h;done)|(cases k;done),fun r o n=>(n o).elim⟩
 ·split at e
  ·rename_i hr
   cases e
   cases hv with
   |os h1 h2=>exact kl_of hr rfl rfl
  ·cases e
 ·split at e
  ·rename_i hr
   cases e
   cases hv with
   |se h1 h2 h3 h4=>exact kl_of hr rfl rfl
   |ss h1 h2 h3=>exact kl_of hr rfl (by rw[h2];rfl)
  ·cases e
 ·split at e
  ·rename_i hr
   cases e
   cases hv with
   |xo h1 h2=>exact kl_of hr rfl (by rw[h2];rfl)
  ·cases e
 ·cases e
theorem roomy_iff{b n:Nat}:roomy b n=true↔n*b<=70368744177664/\n<=70368744177664:=by unfold roomy;simp
theorem sub_of{r:Rw}{off k:Nat}{l:List AV}(h:r.seg off k=some l): ∃ p,r.sub off k=some p/\p.toL=l:=by
 obtain⟨a,b⟩:=seg_iff.1 h
 have hb:Nat.ble (Nat.add off k) r.n=true:=by rw[Nat.ble_eq];exact a
 have hs:r.sub off k=some (bif Nat.beq off 0 then r.upto k else ofL (r.cells k off)):=by unfold Rw.sub;rw[hb];rfl
 exact⟨_,hs,by rw[(sub_some hs).1,b]⟩
theorem app_ok{E:En}{H H2:Hq}{h:Hp}(S:SR E H h){t:Ty}{a:AV}{x y:List (den t)}{cs:List AV}{bytes:Nat}{z:Bool}(hd:Dst E.G h t a x)(hk:Kl E H H2 a)(hy:Els (EV E.G t) y cs)(hz:z=true->y=[])(hr:roomy bytes (x.length+y.length)=true):
 ∃ c h' E',(bif isE a&&z then Go.Ab.Ro.ok a h else kAppC (size t) bytes h (wkE a) y.length cs)=.ok c h'/\Nx E E' H (newQ H2 (.l t (x++y))) h h'/\SR E' (newQ H2 (.l t (x++y))) h'/\V E' (newQ H2 (.l t (x++y))).next (.os H2.next (size t)) c:=by
 obtain⟨r1,r2⟩:=roomy_iff.1 hr
 have same_h: ∀ (k:Kr),(∀ id,ido k.av=some id->ido a=some id)->RV E H.next h k (.l t (x++y))->SR (E.row H.next k) (newQ H2 (.l t (x++y))) h/\Nx E (E.row H.next k) H (newQ H2 (.l t (x++y))) h h:=by
  intro k h1 h2
  refine step_row S hk.n hk.sub (Nat.le_refl _) (fun _ _ _=>rfl) (fun id e=>?_) h2 rfl
  obtain⟨r,o,no,er⟩:=hk.id id (h1 id e)
  exact⟨S.lt r id o er,.inr ⟨r,o,no,er⟩⟩
 have K0: ∀ k:Kr,(E.row H.next k).K H2.next=k:=fun k=>by rw[hk.n];exact if_pos rfl
 have mkV: ∀ k:Kr,((emptyV k.av=true/\k.n=0)∨ ∃ id base,k.av=.hsl id base k.n (size t))->V (E.row H.next k) (newQ H2 (.l t (x++y))).next (.os H2.next (size t)) k.av:=by
  intro k hk'
  have:=V.os (E:=E.row H.next k) (N:=(newQ H2 (.l t (x++y))).next) (r:=H2.next) (sz:=size t) (Nat.lt_succ_self _) (by rw[K0];exact hk')
  rwa [K0]at this
 have nil_case: ∀ av:AV,emptyV av=true->x=[]->y=[]-> ∃ E',Nx E E' H (newQ H2 (.l t (x++y))) h h/\SR E' (newQ H2 (.l t (x++y))) h/\V E' (newQ H2 (.l t (x++y))).next (.os H2.next (size t)) av:=by
  intro av ha hx hy
  obtain⟨S',X⟩:=same_h ⟨av,0⟩ (fun id e=>by rw[show ido av=none from ido_empty ha]at e;cases e) ⟨by rw[hx,hy];rfl,.inl ⟨ha,by rw[hx,hy];rfl⟩⟩
  exact⟨_,X,S',mkV ⟨av,0⟩ (.inl ⟨ha,rfl⟩)⟩
 cases hc:(isE a&&z)with
 |true=>
  rw[Bool.and_eq_true]at hc
  have he:=isE_empty hc.1
  have hx:x=[]:=by
   rcases hd with⟨_,k⟩|⟨id,base,row,ls,k,_⟩
   ·exact k
   ·rw[k]at he;cases he
  obtain⟨E',X,S',v⟩:=nil_case a he hx (hz hc.2)
  exact⟨a,h,E',rfl,X,S',v⟩
 |false=>
  simp only[cond_false]
  have hcl:=hy.length (EV.length t)
  have hone:allB cell1 cs=true:=by rw[allB_eq,List.all_eq_true];exact fun q hq=>hy.cell1 (EV.cell1 t) q hq
  by_cases hy0:y=[]
  ·subst hy0
   rcases hd with⟨k,hx⟩|⟨id,base,row,ls,k1,k2,k3,k4⟩
   ·obtain⟨E',X,S',v⟩:=nil_case .esl rfl hx rfl
    exact⟨.esl,h,E',by rw[wk_empty k];rfl,X,S',v⟩
   ·obtain⟨S',X⟩:=same_h ⟨a,x.length⟩ (fun id e=>e) ⟨by simp,.inr ⟨id,base,row,ls,k1,k2,k3,by simpa using k4⟩⟩
    refine⟨a,h,_,?_,X,S',mkV ⟨a,x.length⟩ (.inr ⟨id,base,k1⟩)⟩
    subst k1;rfl
  ·have hpos:0<y.length:=List.length_pos_iff.2 hy0
   have hnz:Nat.beq y.length 0=false:=by cases q:Nat.beq y.length 0 with
    |false=>rfl
    |true=>have:=beq_true q;omega
   have hlc:Nat.beq (len cs) (Nat.mul y.length (size t))=true:=by rw[len_eq,hcl];exact Nat.beq_refl _
   rcases hd with⟨k,hx⟩|⟨id,base,row,ls,k1,k2,k3,k4⟩
   ·subst hx
    rw[wk_empty k]
    simp only[List.length_nil,Nat.zero_add]at r1 r2
    have hT:(SR (E.row H.next ⟨.hsl h.next 0 y.length (size t),y.length⟩) (newQ H2 (.l t ([]++y))) (newO h (ofL cs))/\Nx E (E.row H.next ⟨.hsl h.next 0 y.length (size t),y.length⟩) H (newQ H2 (.l t ([]++y))) h (newO h (ofL cs))):=by
     refine step_row S hk.n hk.sub (Nat.le_succ _) (fun i hi _=>by rw[newO_get',if_neg (by omega)]) (fun i e=>by cases e;exact⟨Nat.lt_succ_self _,.inl (Nat.le_refl _)⟩) ?_ rfl
     refine⟨rfl,.inr ⟨h.next,0,ofL cs,cs,rfl,by rw[newO_get',if_pos rfl],?_,hy⟩⟩
     refine seg_iff.2 ⟨by rw[<-toL_len,toL_ofL,hcl,Nat.zero_add];exact Nat.le_refl _,?_⟩
     rw[toL_ofL]
     show cs=List.take (y.length*size t) _
     rw[<-hcl,List.drop_zero,List.take_length]
    refine⟨_,_,_,?_,hT.2,hT.1,mkV _ (.inr ⟨h.next,0,rfl⟩)⟩
    show(bif Nat.beq y.length 0 then Go.Ab.Ro.ok .esl h else bif Nat.ble (Nat.mul y.length bytes) 70368744177664&&(allB cell1 cs&&(Nat.beq (len cs) (Nat.mul y.length (size t))&&Nat.ble y.length 70368744177664))then .ok (.hsl h.next 0 y.length (size t)) (newO h (ofL cs))else .bad)=_
    rw[hnz,hone,hlc,show Nat.ble (Nat.mul y.length bytes) 70368744177664=true from by rw[Nat.ble_eq];exact r1,show Nat.ble y.length 70368744177664=true from by rw[Nat.ble_eq];exact r2]
    rfl
   ·subst k1
    obtain⟨p,p1,p2⟩:=sub_of k3
    obtain⟨r,o,no,er⟩:=hk.id id rfl
    have hT:(SR (E.row H.next ⟨.hsl h.next 0 (x.length+y.length) (size t),x.length+y.length⟩) (newQ H2 (.l t (x++y))) (newO (setO h id none) (p.app cs))/\Nx E (E.row H.next ⟨.hsl h.next 0 (x.length+y.length) (size t),x.length+y.length⟩) H (newQ H2 (.l t (x++y))) h (newO (setO h id none) (p.app cs))):=by
     refine step_row S hk.n hk.sub (Nat.le_succ _) (fun i hi q=>?_) (fun i e=>by cases e;exact⟨Nat.lt_succ_self _,.inl (Nat.le_refl _)⟩) ?_ rfl
     ·rw[newO_get',if_neg (by show ¬ i=h.next;omega),setO_get',if_neg]
      intro ei
      exact q r o no (by rw[ei];exact er)
     ·have hall:=k4.app hy
      have hlen:=hall.length (EV.length t)
      refine⟨by rw[List.length_append],.inr ⟨h.next,0,p.app cs,ls++cs,rfl,by rw[newO_get'];exact if_pos rfl,?_,hall⟩⟩
      refine seg_iff.2 ⟨by rw[<-toL_len,toL_app,p2,hlen,Nat.zero_add,List.length_append];exact Nat.le_refl _,?_⟩
      rw[toL_app,p2]
      show ls++cs=List.take ((x.length+y.length)*size t) _
      rw[<-List.length_append (as:=x),<-hlen,List.drop_zero,List.take_length]
    refine⟨_,_,_,?_,hT.2,hT.1,mkV _ (.inr ⟨h.next,0,rfl⟩)⟩
    show(bif Nat.beq y.length 0 then Go.Ab.Ro.ok (.hsl id base x.length (size t)) h else match h.objs.get id with
     |none=>.bad
     |some cs'=>match cs'.sub base (Nat.mul x.length (size t))with
      |none=>.bad
      |some pre=>bif Nat.ble (Nat.mul (Nat.add x.length y.length) bytes) 70368744177664&&(Nat.beq (size t) (size t)&&(allB cell1 cs&&(Nat.beq (len cs) (Nat.mul y.length (size t))&&Nat.ble (Nat.add x.length y.length) 70368744177664)))then
       .ok (.hsl h.next 0 (Nat.add x.length y.length) (size t)) (newO (setO h id none) (pre.app cs))else .bad)=_
    have p1':row.sub base (Nat.mul x.length (size t))=some p:=p1
    rw[hnz]
    simp only[cond_false,k2,p1']
    rw[hone,hlc,Nat.beq_refl,show Nat.ble (Nat.mul (Nat.add x.length y.length) bytes) 70368744177664=true from by rw[Nat.ble_eq];exact r1,show Nat.ble (Nat.add x.length y.length) 70368744177664=true from by rw[Nat.ble_eq];exact r2]
    rfl
theorem apT_ok{E:En}{H H':Hq}{h:Hp}(S:SR E H h){bytes:Nat}{t:Ty}{s:Sv}{a:AV}{y:List (den t)}{cs:List AV}{z:Bool}{T T':Tq}{v:Sv}(hv:V E H.next s a)(hy:Els (EV E.G t) y cs)(hz:z=true->y=[])(e:(apT bytes t s y T H).val=some (v,T',H')):
 T'=T/\ ∃ c h' E',(bif isE a&&z then Go.Ab.Ro.ok a h else kAppC (size t) bytes h (wkE a) y.length cs)=.ok c h'/\Nx E E' H H' h h'/\SR E' H' h'/\V E' H'.next v c:=by
 unfold apT at e
 split at e
 ·rename_i x H1 hx
  split at e
  ·rename_i H2 hH2
   obtain⟨q,e⟩:=Lf.T.ck_some e
   obtain⟨rfl,rfl,rfl⟩:=okV_some e
   obtain⟨E1,F,D⟩:=peek_ok S hv hx
   have k:=kill_ok (F.v hv) hH2
   obtain⟨c,h',E',e1,X,S',hv'⟩:=app_ok F.S D k (hy.mono (EV.mono F.g t)) hz q (z:=z)
   rw[app_eq]
   exact⟨rfl,c,h',E',e1,F.X.trans X,S',hv'⟩
  ·cases e
 ·cases e
theorem isZ_len{h:Hp}{b:AV}{n:Nat}{cs:List AV}(hz:isZ b=true)(e:sliceCells h (wkE b)=some (n,cs)):n=0:=by
 cases b with
 |hsl id off m s=>
  have hz:=beq_true (show Nat.beq m 0=true from hz)
  change (match h.objs.get id with|some cs=>(match cs.seg off (Nat.mul m s)with|some l=>some (m,l)|none=>none)|none=>none)=some (n,cs)at e
  split at e
  ·split at e
   ·cases e;exact hz
   ·cases e
  ·cases e
 |isl m l=>
  have hz':=beq_true (show Nat.beq m 0=true from hz)
  cases e;exact hz'
 |esl=>cases e;rfl
 |nel=>cases e;rfl
 |sc v=>
  have:emptyV (.sc v)=true:=hz
  rw[wk_empty this]at e
  cases e;rfl
 | _=>cases hz
theorem kAppendN_eq{size bytes:Nat}{s x:Od}{t:Tm}{h:Hp}{a b:AV}{n:Nat}{cs:List AV}(h1:aOd s t=some a)(h2:aOd x t=some b)(h3:sliceCells h (wkE b)=some (n,cs)):
 kAppendN size bytes (aOd s) (aOd x) t h=(bif isE a&&isZ b then Go.Ab.Ro.ok a h else kAppC size bytes h (wkE a) n cs):=by
 unfold kAppendN
 rw[h1,h2]
 show(bif isE a&&isZ b then Go.Ab.Ro.ok a h else kAppend size bytes (wO (aOd s)) (wO (aOd x)) t h)=_
 congr 1
 unfold kAppend
 rw[show wO (aOd s) t=some (wkE a)from by unfold wO;rw[h1],show wO (aOd x) t=some (wkE b)from by unfold wO;rw[h2]]
 simp only[h3]
theorem litCells_ok{E:En}{H:Hq}{h:Hp}(S:SR E H h){v:Sv}{b:AV}{n:Nat}{l:List Sv}(hv:V E H.next v b)(e:litCells v H=some (n,l)):
 ∃ cs,sliceCells h (wkE b)=some (n,cs)/\Vs E H.next l cs/\(n=0->isZ b=true)/\((emptyV b=true/\n=0/\l=[])∨ ∃ r s off id row,v=.xo r s off n/\b=.hsl id off n s/\h.objs.get id=some row/\row.seg off (n*s)=some cs):=by
 unfold litCells at e
 split at e
 ·obtain⟨hb,e⟩:=condS e
  cases e
  cases hv with
  |a hl=>
   refine⟨[],by rw[wk_empty hb];rfl,.nil,fun _=>?_,.inl ⟨hb,rfl,rfl⟩⟩
   cases b<;>first|rfl|(cases hl;done)|exact hb
 ·rename_i r s off m
  split at e
  ·rename_i l0 hl
   have hle:=Nat.le_of_ble_eq_true (condS e).1
   replace e:=(condS e).2
   cases e
   obtain⟨id,row,k1,k2,k3⟩:=plainS_ok S hl
   cases hv with
   |xo h1 h2=>
    rw[k1]at h2;cases h2
    rw[len_eq,k3.length]at hle
    have hle':off+n*s<=row.toL.length:=hle
    rw[tk_eq,dp_eq]
    have hvs:=(k3.drop off).take (n*s)
    have hs:row.seg off (n*s)=some ((row.toL.drop off).take (n*s)):=seg_of hle'
    refine⟨_,?_,hvs,fun hn=>by subst hn;rfl,.inr ⟨r,s,off,id,row,rfl,rfl,k2,hs⟩⟩
    show(match h.objs.get id with|some cs=>(match cs.seg off (Nat.mul n s)with|some l=>some (n,l)|none=>none)|none=>none)=_
    rw[k2]
    have hs':row.seg off (Nat.mul n s)=_:=hs
    simp only[hs']
  ·cases e
 ·cases e
theorem cond_left{α:Type}{b:Bool}{x:T α}{r:α}(h:(bif b then x else T.bad).val=some r):b=true/\x.val=some r:=by
 cases b with
 |true=>exact⟨rfl,h⟩
 |false=>cases h
theorem sAppV_ok{size bytes:Nat}{sv xv v:Sv}{T T':Tq}{E:En}{H H':Hq}{h:Hp}{t:Tm}{s x:Od}{a b:AV}(S:SR E H h)(hs:aOd s t=some a)(hsv:V E H.next sv a)(hx:aOd x t=some b)(hxv:V E H.next xv b)(e:(sAppV size bytes sv xv T H).val=some (v,T',H')):
 T'=T/\ ∃ c h' E',kAppendN size bytes (aOd s) (aOd x) t h=.ok c h'/\Nx E E' H H' h h'/\SR E' H' h'/\V E' H'.next v c:=by
 unfold sAppV at e
 obtain⟨hb,e⟩:=cond_left e
 rw[Bool.and_eq_true,Bool.and_eq_true]at hb
 have typed: ∀ {ty:Ty},(bif Nat.beq size (Lf.size ty)then(match lst ty xv H with|some (new,h1)=>apT bytes ty sv new T h1|none=>.bad)else .bad).val=some (v,T',H')->T'=T/\ ∃ c h' E',kAppendN size bytes (aOd s) (aOd x) t h=.ok c h'/\Nx E E' H H' h h'/\SR E' H' h'/\V E' H'.next v c:=by
  intro ty e
  obtain⟨hz,e⟩:=cond_left e
  have hz:=beq_true hz
  split at e
  ·rename_i new H1 hn
   obtain⟨E1,F,k⟩:=lst_ok S hxv hn
   obtain⟨cs,c1,c2⟩:=cvs_cells F.S k
   obtain⟨rfl,c,h',E',e1,X,S',hv'⟩:=apT_ok F.S (F.v hsv) c2 (z:=isZ b) (fun q=>List.eq_nil_of_length_eq_zero (isZ_len q c1)) e
   refine⟨rfl,c,h',E',?_,F.X.trans X,S',hv'⟩
   rw[kAppendN_eq hs hx c1,hz];exact e1
  ·cases e
 split at e
 ·
  rename_i l hl
  obtain⟨cs,c1,_,c3,_⟩:=litCells_ok S hxv hl
  have hzb:=c3 rfl
  have res: ∀ w:Sv,w=v/\T'=T/\H'=H->V E H.next w a->(isE a=true∨emptyV a=true∨ ∃ id o n z,a=.hsl id o n z)->T'=T/\ ∃ c h' E',kAppendN size bytes (aOd s) (aOd x) t h=.ok c h'/\Nx E E' H H' h h'/\SR E' H' h'/\V E' H'.next v c:=by
   rintro w ⟨rfl,rfl,rfl⟩ hw hc
   refine⟨rfl,a,h,E,?_,Nx.refl _ _ _,S,hw⟩
   rw[kAppendN_eq hs hx c1,hzb]
   cases he:isE a with
   |true=>rfl
   |false=>
    rcases hc with hc|hc|⟨id,o,n,z,hc⟩
    ·rw[he]at hc;cases hc
    ·have:a=.esl:=by cases a<;>first|rfl|(cases he;done)|(cases hc;done)|(rename_i v0;have k:isE (.sc v0)=true:=hc;rw[k]at he;cases he)
     subst this
     rfl
    ·subst hc;rfl
  split at e
  ·obtain⟨hw,e⟩:=cond_left e
   cases hsv with
   |a hl=>exact res _ (okV_some e) (.a hl) (.inl hw)
  ·refine res _ (okV_some e) hsv (.inr ?_)
   cases hsv with
   |os h1 h2=>
    rcases h2 with⟨h2,_⟩|⟨_,_,h2⟩
    ·exact .inl h2
    ·exact .inr ⟨_,_,_,_,h2⟩
  ·refine res _ (okV_some e) hsv (.inr ?_)
   cases hsv with
   |se _ h2 _ _=>exact .inl h2
   |ss _ _ _=>exact .inr ⟨_,_,_,_,rfl⟩
  ·refine res _ (okV_some e) hsv (.inr ?_)
   cases hsv with
   |xo _ _=>exact .inr ⟨_,_,_,_,rfl⟩
  ·cases e
 ·rename_i m new hm hl
  have hm0:m=0->False:=fun k=>hm k
  obtain⟨cs,c1,c2,c3,c4⟩:=litCells_ok S hxv hl
  split at e
  ·rename_i n old ho
   split at e
   ·rename_i H2 hH2
    obtain⟨hr,e⟩:=cond_left e
    rw[Bool.and_eq_true]at hr
    obtain⟨rfl,rfl,rfl⟩:=okV_some e
    obtain⟨r1,r2⟩:=roomy_iff.1 hr.1
    obtain⟨ds,d1,d2,d3,d4⟩:=litCells_ok S hsv ho
    have k:=kill_ok hsv hH2
    have hmpos:0<m:=Nat.pos_of_ne_zero fun q=>hm0 q
    obtain⟨r',s',off',id',row',x1,x2,x3,x4⟩: ∃ r s off id row,xv=.xo r s off m/\b=.hsl id off m s/\h.objs.get id=some row/\row.seg off (m*s)=some cs:=by
     rcases c4 with⟨_,q,_⟩|q
     ·omega
     ·exact q
    have hs':s'=size:=by have q:=beq_true hb.2.1;rw[x1]at q;exact q
    have hcl:cs.length=m*size:=by
     obtain⟨q1,q2⟩:=seg_iff.1 x4
     rw[q2,List.length_take,List.length_drop,toL_len,hs'];rw[hs']at q1;omega
    have hnz:Nat.beq m 0=false:=by cases q:Nat.beq m 0 with
     |false=>rfl
     |true=>have:=beq_true q;omega
    have hlc:Nat.beq (len cs) (Nat.mul m size)=true:=by rw[len_eq,hcl];exact Nat.beq_refl _
    have hzb:isZ b=false:=by rw[x2];exact hnz
    have hone:allB cell1 cs=true:=by
     rw[allB_eq,List.all_eq_true]
     refine c2.ones fun q hq=>?_
     have:=hr.2;rw[allB_eq,List.all_eq_true]at this;exact this q hq
    have hsz:0<size:=blt_iff.1 hb.2.2
    rw[app_eq]
    refine⟨rfl,?_⟩
    rw[kAppendN_eq hs hx c1,hzb,Bool.and_false,cond_false]
    have mkV:V (E.row H.next ⟨.ref h.next 0,0⟩) (newQ H2 (.o 0 (old++new))).next (.xo H2.next size 0 (Nat.add n m)) (.hsl h.next 0 (n+m) size):=by
     refine .xo (id:=h.next) (Nat.lt_succ_self _) ?_
     show(if H2.next=H.next then _ else _:Kr).av=_
     rw[if_pos k.n]
    rcases d4 with⟨q1,q2,q3⟩|⟨r1',s1',off1,id1,row1,y1,y2,y3,y4⟩
    ·subst q2;subst q3
     rw[wk_empty q1]
     simp only[Nat.add_eq,Nat.zero_add]at r1 r2
     have hT:SR (E.row H.next ⟨.ref h.next 0,0⟩) (newQ H2 (.o 0 ([]++new))) (newO h (ofL cs))/\Nx E (E.row H.next ⟨.ref h.next 0,0⟩) H (newQ H2 (.o 0 ([]++new))) h (newO h (ofL cs)):=by
      refine step_row S k.n k.sub (Nat.le_succ _) (fun i hi _=>by rw[newO_get',if_neg (by omega)]) (fun i e=>by cases e;exact⟨Nat.lt_succ_self _,.inl (Nat.le_refl _)⟩) ?_ rfl
      exact⟨h.next,ofL cs,rfl,by rw[newO_get',if_pos rfl],by rw[toL_ofL];exact c2,fun h=>(h rfl).elim⟩
     rw[Nat.zero_add]at mkV
     refine⟨_,_,_,?_,hT.2,hT.1,mkV⟩
     show(bif Nat.beq m 0 then Go.Ab.Ro.ok .esl h else bif Nat.ble (Nat.mul m bytes) 70368744177664&&(allB cell1 cs&&(Nat.beq (len cs) (Nat.mul m size)&&Nat.ble m 70368744177664))then .ok (.hsl h.next 0 m size) (newO h (ofL cs))else .bad)=_
     rw[hnz,hone,hlc,show Nat.ble (Nat.mul m bytes) 70368744177664=true from by rw[Nat.ble_eq];exact r1,show Nat.ble m 70368744177664=true from by rw[Nat.ble_eq];exact r2]
     rfl
    ·have hs1:s1'=size:=by have q:=beq_true hb.1;rw[y1]at q;exact q
     subst hs1
     subst y2
     obtain⟨p,p1,p2⟩:=sub_of y4
     obtain⟨r,o,no,er⟩:=k.id id1 rfl
     have hT:SR (E.row H.next ⟨.ref h.next 0,0⟩) (newQ H2 (.o 0 (old++new))) (newO (setO h id1 none) (p.app cs))/\Nx E (E.row H.next ⟨.ref h.next 0,0⟩) H (newQ H2 (.o 0 (old++new))) h (newO (setO h id1 none) (p.app cs)):=by
      refine step_row S k.n k.sub (Nat.le_succ _) (fun i hi q=>?_) (fun i e=>by cases e;exact⟨Nat.lt_succ_self _,.inl (Nat.le_refl _)⟩) ?_ rfl
      ·rw[newO_get',if_neg (by show ¬ i=h.next;omega),setO_get',if_neg]
       intro ei
       exact q r o no (by rw[ei];exact er)
      ·refine⟨h.next,p.app cs,rfl,by rw[newO_get'];exact if_pos rfl,?_,fun h=>(h rfl).elim⟩
       rw[toL_app,p2]
       change sliceCells h (.hsl id1 off1 n s1')=some (n,ds)at d1
       have:ds=ds:=rfl
       exact d2.app c2
     refine⟨_,_,_,?_,hT.2,hT.1,mkV⟩
     show(bif Nat.beq m 0 then Go.Ab.Ro.ok (.hsl id1 off1 n s1') h else match h.objs.get id1 with
      |none=>.bad
      |some cs'=>match cs'.sub off1 (Nat.mul n s1')with
       |none=>.bad
       |some pre=>bif Nat.ble (Nat.mul (Nat.add n m) bytes) 70368744177664&&(Nat.beq s1' s1'&&(allB cell1 cs&&(Nat.beq (len cs) (Nat.mul m s1')&&Nat.ble (Nat.add n m) 70368744177664)))then
        .ok (.hsl h.next 0 (Nat.add n m) s1') (newO (setO h id1 none) (pre.app cs))else .bad)=_
     have p1':row1.sub off1 (Nat.mul n s1')=some p:=p1
     rw[hnz]
     simp only[cond_false,y3,p1']
     rw[hone,hlc,Nat.beq_refl,show Nat.ble (Nat.mul (Nat.add n m) bytes) 70368744177664=true from by rw[Nat.ble_eq];exact r1,show Nat.ble (Nat.add n m) 70368744177664=true from by rw[Nat.ble_eq];exact r2]
     rfl
   ·cases e
  ·split at e
   ·exact typed e
   ·cases e
 ·split at e
  ·exact typed e
  ·cases e
end Lf
end Go.Ab

noncomputable section
namespace Go.Ab
namespace Lf
theorem sim_append(size bytes:Nat)(s x:Od):SimF (sAppend size bytes s x) (fun _ _=>kAppendN size bytes (aOd s) (aOd x)):=by
 intro E T t H h v T' H' hT hH e
 unfold sAppend at e
 split at e
 ·rename_i sv hs
  split at e
  ·rename_i xv hx
   obtain⟨a,ha,hav⟩:=opd_ok hT hs
   obtain⟨b,hb,hbv⟩:=opd_ok hT hx
   obtain⟨rfl,c,h',E',e1,X,S',hv'⟩:=sAppV_ok hH ha hav hb hbv e
   exact⟨c,h',E',Ev.const e1,X,S',hv',hT.mono X.e X.le⟩
  ·cases e
 ·cases e
theorem nil_sr:SR ⟨fun _=>⟨.any,0⟩,fun _=>.any,fun _=>none,fun _=>.any⟩ ⟨0,.nil⟩ ⟨0,.nil⟩:=
 ⟨(fun _ _ e=>by cases e),(fun _ _ _ o=>by obtain⟨_,e,_⟩:=o;cases e),(fun _ _ o=>by obtain⟨_,e,_⟩:=o;cases e),(fun _ _ e=>by cases e)⟩
theorem zeroT_ok{z:List AV}{t:Ty}{x:den t}(e:zeroT z=some ⟨t,x⟩)(G:Nat->Option Rw):EV G t x z:=by
 unfold zeroT at e
 split at e
 ·rename_i t' ht
  split at e
  ·rename_i l hl
   split at e
   ·rename_i y q hy
    cases e
    obtain⟨E',c,d,F,hcd,hev,hd⟩:=asT_ok t _ _ _ l [] z x q nil_sr (ofAs_ok hl) hy
    have:d=[]:=by cases hd;rfl
    rw[this,List.append_nil]at hcd
    rw[hcd]
    refine EV.mono (fun id row k=>?_) _ _ _ hev
    have:=(F.S.g id row k).1
    exact absurd this (Nat.not_lt_zero _)
   ·cases e
  ·cases e
 ·cases e
theorem els_rep{G:Nat->Option Rw}{t:Ty}{x:den t}{z:List AV}(h:EV G t x z): ∀ n,Els (EV G t) (List.replicate n x) (repeatL n z)
 |0=>rfl
 |n+1=>by
  rw[List.replicate_succ]
  show Els _ _ (app z (repeatL n z))
  rw[app_eq]
  exact⟨z,_,rfl,h,els_rep h n⟩
theorem sim_appZ(size bytes:Nat)(z:List AV)(s x:Od):SimF (sAppZ size bytes z s x) (fun _ _=>kAppZ size bytes z (aOd s) (aOd x)):=by
 intro E T t H h v T' H' hT hH e
 unfold sAppZ at e
 split at e
 ·rename_i sv hs
  split at e
  ·rename_i xv hx
   split at e
   ·rename_i k n hn
    obtain⟨_,e⟩:=cond_left e
    split at e
    ·rename_i ty y hz
     obtain⟨hb,e⟩:=cond_left e
     obtain⟨h0,e⟩:=Lf.T.ck_some e
     rw[Bool.and_eq_true]at hb
     have hb1:=beq_true hb.1
     obtain⟨a,ha,hav⟩:=opd_ok hT hs
     obtain⟨b,hb',hbv⟩:=opd_ok hT hx
     have:=v_num hbv hn;subst this
     obtain⟨j,rfl⟩:=Int.eq_ofNat_of_zero_le (by simpa using h0)
     have hy:=els_rep (zeroT_ok hz E.G) (j:Int).toNat
     obtain⟨rfl,c,h',E',e1,X,S',hv'⟩:=apT_ok hH hav hy (z:=Nat.beq j 0) (fun q=>by have:=beq_true q;subst this;rfl) e
     refine⟨c,h',E',Ev.const ?_,X,S',hv',hT.mono X.e X.le⟩
     unfold kAppZ
     rw[ha,hb']
     rw[List.length_replicate]at e1
     show(bif isE a&&Nat.beq j 0 then Go.Ab.Ro.ok a h else kAppC size bytes h (wkE a) j (repeatL j z))=_
     rw[hb1];exact e1
    ·cases e
   ·cases e
  ·cases e
 ·cases e
theorem els_bytes(G:Nat->Option Rw): ∀ (l:List UInt8),Els (EV G (.int .u8)) (l.map fun b=>Int.ofNat b.toNat) (l.map fun b=>AV.int .u8 (.ofNat b.toNat))
 | []=>rfl
 |b::l=>⟨[_],_,rfl,rfl,els_bytes G l⟩
theorem sim_appS(bytes:Nat)(s x:Od):SimF (sAppS bytes s x) (fun _ _=>kAppS bytes (aOd s) (aOd x)):=by
 intro E T t H h v T' H' hT hH e
 unfold sAppS at e
 split at e
 ·rename_i sv hs
  split at e
  ·rename_i xv hx
   split at e
   ·rename_i k y hn
    obtain⟨_,e⟩:=cond_left e
    obtain⟨a,ha,hav⟩:=opd_ok hT hs
    obtain⟨b,hb',hbv⟩:=opd_ok hT hx
    have:=v_str hbv hn;subst this
    have hl:y.data.toList.length=y.size:=Array.length_toList
    obtain⟨rfl,c,h',E',e1,X,S',hv'⟩:=apT_ok hH hav (els_bytes E.G y.data.toList) (z:=Nat.beq y.size 0) (fun q=>by have:=beq_true q;rw[<-hl]at this;rw[List.eq_nil_of_length_eq_zero this];rfl) e
    refine⟨c,h',E',Ev.const ?_,X,S',hv',hT.mono X.e X.le⟩
    unfold kAppS
    rw[ha,hb']
    rw[List.length_map,hl]at e1
    exact e1
   ·cases e
  ·cases e
 ·cases e
theorem sim_bytes(x:Od):SimF (sBytes x) (fun _ _=>kBytes (aOd x)):=by
 intro E T t H h v T' H' hT hH e
 unfold sBytes at e
 split at e
 ·rename_i xv hx
  split at e
  ·rename_i k y hn
   obtain⟨rfl,rfl,rfl⟩:=okV_some e
   obtain⟨b,hb',hbv⟩:=opd_ok hT hx
   have:=v_str hbv hn;subst this
   have hl:y.data.toList.length=y.size:=Array.length_toList
   obtain⟨S,X⟩:=add_l hH (t:=.int .u8) (rw:=ofL (y.data.toList.map fun b=>AV.int .u8 (.ofNat b.toNat))) (by rw[toL_ofL];exact els_bytes E.G y.data.toList)
   refine⟨.hsl h.next 0 y.size 1,_,_,Ev.const ?_,X,S,?_,hT.mono X.e X.le⟩
   ·unfold kBytes
    rw[hb']
   ·have hv:=V.os (E:=E.row H.next ⟨.hsl h.next 0 (y.data.toList.map fun b=>Int.ofNat b.toNat).length (Lf.size (.int .u8)),(y.data.toList.map fun b=>Int.ofNat b.toNat).length⟩) (N:=(newQ H (.l (.int .u8) (y.data.toList.map fun b=>Int.ofNat b.toNat))).next) (r:=H.next) (sz:=1) (Nat.lt_succ_self _) (.inr ⟨h.next,0,by show(if H.next=H.next then _ else _:Kr).av=AV.hsl _ _ (if H.next=H.next then _ else _:Kr).n _;rw[if_pos rfl];rfl⟩)
    have e2:((E.row H.next ⟨.hsl h.next 0 (y.data.toList.map fun b=>Int.ofNat b.toNat).length (Lf.size (.int .u8)),(y.data.toList.map fun b=>Int.ofNat b.toNat).length⟩).K H.next).av=.hsl h.next 0 y.size 1:=by
     show(if H.next=H.next then _ else _:Kr).av=_
     rw[if_pos rfl]
     show AV.hsl _ _ _ _=_
     rw[List.length_map,hl];rfl
    rw[e2]at hv
    exact hv
  ·cases e
 ·cases e
theorem eqOd_ok{T:Tq}{l c:Od}{lv cv:Sv}{k k':IntKind}{m n:Int}(h:eqOd l c=true)(h1:opd l T=some lv)(h2:opd c T=some cv)(e1:toN lv=some (k,m))(e2:toN cv=some (k',n)):m=n:=by
 unfold eqOd at h
 split at h
 ·have:=beq_true h;subst this
  rw[h1]at h2;cases h2
  rw[e1]at e2;cases e2;rfl
 ·cases h1;cases h2;cases e1;cases e2
  exact eqI_iff.1 h
 ·cases h
theorem sim_make(size bytes:Nat)(z:List AV)(l c:Od):SimF (sMake size bytes z l c) (fun _ _=>kMake size bytes z (aOd l) (aOd c)):=by
 intro E T t H h v T' H' hT hH e
 unfold sMake at e
 split at e
 ·rename_i lv hl
  split at e
  ·rename_i cv hc
   split at e
   ·rename_i k l' hln
    split at e
    ·rename_i k' c' hcn
     split at e
     ·rename_i ty y hz
      obtain⟨hb,e⟩:=cond_left e
      obtain⟨h0,e⟩:=Lf.T.ck_some e
      obtain⟨rfl,rfl,rfl⟩:=okV_some e
      rw[Bool.and_eq_true]at hb
      have hb1:=beq_true hb.1
      simp only[Bool.and_eq_true,decide_eq_true_eq]at h0
      obtain⟨⟨h1,h2⟩,h3⟩:=h0
      obtain⟨a,ha,hav⟩:=opd_ok hT hl
      obtain⟨b,hb',hbv⟩:=opd_ok hT hc
      have:=v_num hav hln;subst this
      have:=v_num hbv hcn;subst this
      have heq:eqOd l c=true->l'=c':=fun q=>eqOd_ok q hl hc hln hcn
      obtain⟨m,rfl⟩:=Int.eq_ofNat_of_zero_le h1
      obtain⟨n,rfl⟩:=Int.eq_ofNat_of_zero_le (Int.le_trans h1 h2)
      have hmn:m<=n:=by omega
      have h3:n*bytes<=70368744177664:=h3
      have hk:kMake size bytes z (aOd l) (aOd c) t h=bif Nat.beq n 0 then .ok .nel h else .ok (.hsl h.next 0 m size) (newO h ⟨Nat.mul n (len z),z,.nil⟩):=by
       unfold kMake
       rw[ha,hb']
       show(bif Nat.ble m n&&Nat.ble (Nat.mul n bytes) 70368744177664 then(bif Nat.beq n 0 then Go.Ab.Ro.ok .nel h else .ok (.hsl h.next 0 m size) (newO h ⟨Nat.mul n (len z),z,.nil⟩))else .bad)=_
       rw[show Nat.ble m n=true from by rw[Nat.ble_eq];exact hmn,show Nat.ble (Nat.mul n bytes) 70368744177664=true from by rw[Nat.ble_eq];exact h3]
       rfl
      have hels:=els_rep (zeroT_ok hz E.G) n
      simp only[Int.toNat_natCast]
      cases hn:Nat.beq n 0 with
      |true=>
       have hn0:=beq_true hn
       subst hn0
       have hm0:m=0:=by omega
       subst hm0
       rw[hn]at hk
       have hT2:SR (E.row H.next ⟨.nel,0⟩) (newQ H (.l ty (List.replicate 0 y))) h/\Nx E (E.row H.next ⟨.nel,0⟩) H (newQ H (.l ty (List.replicate 0 y))) h h:=
        step_row hH rfl (fun _ _ e=>e) (Nat.le_refl _) (fun _ _ _=>rfl) (fun _ e=>by cases e) ⟨rfl,.inl ⟨rfl,rfl⟩⟩ rfl
       refine⟨.nel,h,_,Ev.const hk,hT2.2,hT2.1,?_,hT.mono hT2.2.e hT2.2.le⟩
       have K0:(E.row H.next ⟨.nel,0⟩).K H.next=⟨.nel,0⟩:=if_pos rfl
       cases hq:eqOd l c with
       |true=>
        have:=V.os (E:=E.row H.next ⟨.nel,0⟩) (N:=(newQ H (.l ty (List.replicate 0 y))).next) (r:=H.next) (sz:=size) (Nat.lt_succ_self _) (.inl (by rw[K0];exact⟨rfl,rfl⟩))
        rw[K0]at this;exact this
       |false=>
        have:=V.se (E:=E.row H.next ⟨.nel,0⟩) (N:=(newQ H (.l ty (List.replicate 0 y))).next) (r:=H.next) (sz:=size) (off:=0) (Nat.lt_succ_self _) (by rw[K0];rfl) (by rw[K0]) rfl
        rw[K0]at this;exact this
      |false=>
       rw[hn]at hk
       obtain⟨S,X⟩:=add_l hH (t:=ty) (x:=List.replicate n y) (rw:=⟨Nat.mul n (len z),z,.nil⟩) (by rw[toL_rep];exact hels)
       refine⟨_,_,_,Ev.const hk,X,S,?_,hT.mono X.e X.le⟩
       have K0:(E.row H.next ⟨.hsl h.next 0 (List.replicate n y).length (Lf.size ty),(List.replicate n y).length⟩).K H.next=⟨.hsl h.next 0 n size,n⟩:=by
        show(if H.next=H.next then _ else _)=_
        rw[if_pos rfl,List.length_replicate,hb1]
       cases hq:eqOd l c with
       |true=>
        have hmn':m=n:=by have:=heq hq;omega
        subst hmn'
        have:=V.os (E:=E.row H.next ⟨.hsl h.next 0 (List.replicate m y).length (Lf.size ty),(List.replicate m y).length⟩) (N:=(newQ H (.l ty (List.replicate m y))).next) (r:=H.next) (sz:=size) (Nat.lt_succ_self _) (.inr (by rw[K0];exact⟨_,_,rfl⟩))
        rw[K0]at this;exact this
       |false=>
        have:=V.ss (E:=E.row H.next ⟨.hsl h.next 0 (List.replicate n y).length (Lf.size ty),(List.replicate n y).length⟩) (N:=(newQ H (.l ty (List.replicate n y))).next) (r:=H.next) (sz:=size) (off:=0) (n:=m) (id:=h.next) (base:=0) (Nat.lt_succ_self _) (by rw[K0]) (by rw[K0];show 0+m<=n;omega)
        rw[Nat.zero_mul]at this;exact this
     ·cases e
    ·cases e
   ·cases e
  ·cases e
 ·cases e
def SimC(call:CallQ)(cal:CallN):Prop:= ∀ (E:En) (f:FuncId) (args:List Sv) (as:List AV) (H:Hq) (h:Hp) (v:Sv) (H':Hq),Vs E H.next args as->SR E H h->(call f args H).val=some (v,H')->
 ∃ c h' E',Ev (fun n d=>cal n d f as h) (.ok c h')/\Nx E E' H H' h h'/\SR E' H' h'/\V E' H'.next v c
section
variable {call:CallQ}{cal:CallN}(C:SimC call cal)
include C
theorem sim_call(f:FuncId)(args:List Od):SimF (sCall call f args) (fun n d=>kCall (cal n d) f (args.map aOd)):=by
 intro E T t H h v T' H' hT hH e
 unfold sCall at e
 split at e
 ·rename_i vs hv
  obtain⟨p,e1,e2⟩:=Lf.T.bd_some e
  obtain⟨rfl,rfl,rfl⟩:=okV_some e2
  obtain⟨cs,hc,hcv⟩:=opdl_ok hT hv
  obtain⟨c,h',E',k,X,S,w⟩:=C E f vs cs H h p.1 p.2 hcv hH e1
  refine⟨c,h',E',?_,X,S,w,hT.mono X.e X.le⟩
  unfold kCall
  simp only[hc]
  exact k
 ·cases e
theorem sim_callV(f:Od)(args:List Od):SimF (sCallV call f args) (fun n d=>kCallV (cal n d) (aOd f) (args.map aOd)):=by
 intro E T t H h v T' H' hT hH e
 unfold sCallV at e
 split at e
 ·rename_i g cap hg
  split at e
  ·rename_i vs hv
   obtain⟨p,e1,e2⟩:=Lf.T.bd_some e
   obtain⟨rfl,rfl,rfl⟩:=okV_some e2
   obtain⟨a,ha,hav⟩:=opd_ok hT hg
   obtain⟨cs,hc,hcv⟩:=opdl_ok hT hv
   cases hav with
   |fn hcap=>
    rename_i l'
    rw[app_eq]at e1
    obtain⟨c,h',E',k,X,S,w⟩:=C E g _ _ H h p.1 p.2 (hcv.app hcap) hH e1
    refine⟨c,h',E',?_,X,S,w,hT.mono X.e X.le⟩
    unfold kCallV
    simp only[ha,hc,app_eq]
    exact k
  ·cases e
 ·cases e
omit C in
theorem mintL_ok{h:Hp}: ∀ (l:List Sv) (cs:List AV) (E:En) (H:Hq),SR E H h->Vs E H.next l cs->
 ∃ E',Nx E E' H ⟨(mintL l H.next).2,H.objs⟩ h h/\SR E' ⟨(mintL l H.next).2,H.objs⟩ h/\Vs E' (mintL l H.next).2 (mintL l H.next).1 cs:=by
 intro l
 induction l with
 |nil=>intro cs E H S v;exact⟨E,Nx.refl _ _ _,S,v⟩
 |cons a l ih=>
  intro cs E H S v
  have plain: ∀ (c:AV) (cs':List AV),cs=c::cs'->V E H.next a c->Vs E H.next l cs'-> ∃ E',Nx E E' H ⟨(mintL l H.next).2,H.objs⟩ h h/\SR E' ⟨(mintL l H.next).2,H.objs⟩ h/\Vs E' (mintL l H.next).2 (a::(mintL l H.next).1) cs:=by
   rintro c cs' rfl va vl
   obtain⟨E',n1,s1,v1⟩:=ih cs' E H S vl
   exact⟨E',n1,s1,.cons (va.mono n1.e n1.le) v1⟩
  cases v with
  |cons va vl=>
   rename_i c cs'
   cases a with
   |c m t x=>
    cases t with
    |sli t=>
     cases hm:Nat.beq m 0 with
     |false=>
      have e:mintL (.c m (.sli t) x::l) H.next=(.c m (.sli t) x::(mintL l H.next).1,(mintL l H.next).2):=by
       show(bif Nat.beq m 0 then _ else _)=_
       rw[hm];rfl
      rw[e]
      exact plain c cs' rfl va vl
     |true=>
      have e:mintL (.c m (.sli t) x::l) H.next=(.c H.next (.sli t) x::(mintL l (Nat.add H.next 1)).1,(mintL l (Nat.add H.next 1)).2):=by
       show(bif Nat.beq m 0 then _ else _)=_
       rw[hm];rfl
      rw[e]
      let E1:En:=⟨E.K,fun r=>if r=H.next then c else E.tk r,E.G,E.A⟩
      let H1:Hq:=⟨Nat.add H.next 1,H.objs⟩
      have el:ELe E E1 H.next:=⟨fun _ _=>rfl,fun r hr=>if_neg (Nat.ne_of_lt hr),fun _ _ e=>e,rfl⟩
      have hle:H.next<=H1.next:=Nat.le_add_right _ 1
      have n0:Nx E E1 H H1 h h:=⟨el,hle,Nat.le_refl _,fun r _ a b=>.inl ⟨r,a,b⟩,fun _ _ a=>.inl a,fun _ _ _=>rfl⟩
      have s1:SR E1 H1 h:=⟨fun r R hr=>⟨Nat.lt_of_lt_of_le (S.row r R hr).1 hle,RV.mono el hle (fun _ _ _ _ k=>k) (S.row r R hr).2⟩,S.inj,S.lt,S.g⟩
      obtain⟨E',n1,s2,v1⟩:=ih cs' E1 H1 s1 (vl.mono el hle)
      refine⟨E',n0.trans n1,s2,.cons ?_ v1⟩
      cases va with
      |c k _=>
       refine .c (EV.mono (fun _ _ e=>n1.e.G _ _ e) _ _ _ k) fun _=>⟨Nat.lt_of_lt_of_le (Nat.lt_succ_self H.next) n1.le,?_⟩
       rw[n1.e.tk H.next (Nat.lt_succ_self H.next)]
       exact(if_pos rfl).symm
    | _=>exact plain c cs' rfl va vl
   | _=>exact plain c cs' rfl va vl
omit C in
theorem sim_pre(b:Od){f:SOpF}{g:OpN}(k:SimF f g):SimF (sPre b f) g:=by
 intro E T t H h v T' H' hT hH e
 unfold sPre at e
 split at e
 ·rename_i i
  cases hi:Nat.blt i 512 with
  |false=>rw[hi]at e;exact k E T t H h v T' H' hT hH e
  |true=>
   rw[hi]at e
   simp only[cond_true]at e
   split at e
   ·rename_i l hl
    obtain⟨a,ha,hav⟩:=hT i _ (blt_iff.1 hi) hl
    cases hav with
    |ag hl'=>
     rename_i l'
     obtain⟨E1,n1,s1,v1⟩:=mintL_ok l l' E H hH hl'
     have hT1:TV E1 (mintL l H.next).2 (T.put i (some (.ag (mintL l H.next).1))) t:=by
      have:=(hT.mono n1.e n1.le)
      intro j w hj hw
      rw[Tq.at_put _ _ _ _ (blt_iff.1 hi) hj]at hw
      split at hw
      ·rename_i e1
       subst e1
       cases hw
       exact⟨_,ha,.ag v1⟩
      ·exact this j w hj hw
     obtain⟨c,h',E',k1,k2,k3,k4,k5⟩:=k E1 _ t ⟨(mintL l H.next).2,H.objs⟩ h v T' H' hT1 s1 e
     exact⟨c,h',E',k1,n1.trans k2,k3,k4,k5⟩
   ·exact k E T t H h v T' H' hT hH e
 ·exact k E T t H h v T' H' hT hH e
omit C in
theorem sim_mark(a:Od):SimF (sMark a) (fun _ _=>kMark (aOd a)):=sim_same (by
 intro E T t H h v T' H' hT hH e
 unfold sMark at e
 split at e
 ·rename_i r sz hw
  split at e
  ·rename_i ty x hr
   obtain⟨c1,e⟩:=Lf.T.ck_some e
   obtain⟨rfl,rfl,rfl⟩:=okV_some e
   obtain⟨c,hc,hcv⟩:=opd_ok hT hw
   refine⟨rfl,rfl,c,?_,hcv⟩
   have hne:Nat.beq x.length 0=false:=by cases q:Nat.beq x.length 0 with
    |true=>rw[q]at c1;cases c1
    |false=>rfl
   rcases lr_os hcv (hH.row _ _ hr).2 with⟨_,rfl⟩|⟨id,base,row,ls,rfl,_,_,k4,_⟩
   ·cases hne
   ·unfold kMark
    rw[hc]
    simp only[hne,k4,cond_false]
  ·cases e
 ·rename_i r sz off n hw
  split at e
  ·rename_i g l hr
   cases hn:Nat.beq n 0 with
   |true=>rw[hn]at e;cases e
   |false=>
    rw[hn]at e
    obtain⟨rfl,rfl,rfl⟩:=okV_some e
    obtain⟨c,hc,hcv⟩:=opd_ok hT hw
    refine⟨rfl,rfl,c,?_,hcv⟩
    obtain⟨id,row,k1,k2,_⟩:=(hH.row _ _ hr).2
    cases hcv with
    |xo _ h2=>
     rw[k1]at h2
     cases h2
     unfold kMark
     rw[hc]
     simp only[hn,k2,cond_false]
  ·cases e
 ·cases e)
omit C in
theorem sim_map:SimF (fun t h=>okV (.a .any) t h) (fun _ _=>Go.Ab.kMap):=by
 intro E T t H h v T' H' hT hH e
 obtain⟨rfl,rfl,rfl⟩:=okV_some e
 exact⟨.any,h,E,Ev.const rfl,Nx.refl _ _ _,hH,.a rfl,hT⟩
theorem sim_op0(o:OpK):SimF (sOp0 call o) (fun n d=>aOp (cal n d) o):=by
 cases o<;>first|exact sim_bad|skip
 case mv=>exact sim_move _
 case pk=>exact sim_pick _ _ _
 case nw=>exact sim_new _
 case bx=>exact sim_box _
 case bd=>exact sim_build _ _
 case rw=>exact sim_row _ _ _ _
 case ld=>exact sim_load _ _ _
 case sto=>exact sim_pre _ (sim_store _ _ _)
 case nl=>exact sim_nil _
 case bn=>exact sim_bin _ _ _
 case un=>exact sim_un _ _
 case bys=>exact sim_bytes _
 case fn=>exact sim_fn _ _
 case mk=>exact sim_make _ _ _ _ _
 case slS=>exact sim_sliceS _ _ _
 case slN=>exact sim_sliceN _ _ _ _
 case slA=>exact sim_sliceA _ _ _ _ _
 case fa=>exact sim_fieldAddr _ _
 case fd=>exact sim_field _ _ _ _
 case ixS=>exact sim_ixS _ _ _
 case ixA=>exact sim_ixA _ _ _ _
 case ix=>exact sim_index _ _ _ _ _
 case ixT=>exact sim_indexS _ _
 case ex=>exact sim_extract _ _
 case lnT=>exact sim_lenT _
 case ln=>exact sim_len _
 case ap=>exact sim_append _ _ _ _
 case apZ=>exact sim_appZ _ _ _ _ _
 case apS=>exact sim_appS _ _ _
 case emp=>exact sim_emp _ _ _
 case mrk=>exact sim_mark _
 case min=>exact sim_min _ _
 case max=>exact sim_max _ _
 case cap=>exact sim_cap _
 case map=>exact sim_map
 case call=>exact sim_call C _ _
 case callV=>exact sim_callV C _ _
end
end Lf
end Go.Ab

noncomputable section
namespace Go.Ab
namespace Lf
theorem eqSc_empty{v:Value}(h:emptyV (.sc v)=true):eqSc v v=true:=by
 have h':isNil (.sc v)=true:=h
 cases v<;>first|(cases h';done)|skip
 rename_i p n c
 cases p with
 |none=>show(Nat.beq n n&&Nat.beq c c)=true;rw[Nat.beq_refl,Nat.beq_refl];rfl
 |some _=>cases h'
theorem eqI_self(n:Int):eqI n n=true:=eqI_iff.2 rfl
theorem eqA_empty{a:AV}(h:emptyV a=true):eqA a a=true:=by
 cases a<;>first|(cases h;done)|skip
 ·exact eqSc_empty h
 ·rfl
 ·rfl
theorem eqAs_app{l m:List AV}(h:eqAs l l=true)(k:eqAs m m=true):eqAs (l++m) (l++m)=true:=by
 induction l with
 |nil=>exact k
 |cons a l ih=>
  have h:(eqA a a&&eqAs l l)=true:=h
  rw[Bool.and_eq_true]at h
  show(eqA a a&&eqAs (l++m) (l++m))=true
  rw[h.1,ih h.2];rfl
theorem eqAs_els{α:Type}{E:α->List AV->Prop}(hE: ∀ x cs,E x cs->eqAs cs cs=true): ∀ {x:List α} {ls:List AV},Els E x ls->eqAs ls ls=true
 | [],_,e=>by have e':_=[]:=e;subst e';rfl
 | _::_,_,⟨c,r,e,a,b⟩=>by subst e;exact eqAs_app (hE _ _ a) (eqAs_els hE b)
theorem eqA_cvs{G:Nat->Option Rw}{t:Ty}{E:den t->List AV->Prop}(hE: ∀ x cs,E x cs->eqAs cs cs=true){x:List (den t)}{a:AV}(k:CVs G t E x a):eqA a a=true:=by
 rcases k with⟨k,_⟩|⟨ls,k1,k2|⟨id,base,row,k2,_,_⟩⟩
 ·exact eqA_empty k
 ·subst k2
  show(Nat.beq _ _&&eqAs ls ls)=true
  rw[Nat.beq_refl,Bool.true_and]
  exact eqAs_els hE k1
 ·subst k2
  show(Nat.beq _ _&&Nat.beq _ _&&Nat.beq _ _&&Nat.beq _ _)=true
  simp
theorem eqAs_ev{G:Nat->Option Rw}: ∀ (t:Ty) (x:den t) (cs:List AV),EV G t x cs->eqAs cs cs=true
 | .int k,x,_,e=>by
  have e':_=_:=e;subst e'
  show(eqK k k&&eqI x x&&true)=true
  rw[eqK_self,eqI_self];rfl
 | .bool,x,_,e=>by
  have e':_=_:=e;subst e'
  show(!(xor x x)&&true)=true
  cases x<;>rfl
 | .str,x,_,e=>by
  have e':_=_:=e;subst e'
  show(eqSc (.string x) (.string x)&&true)=true
  rw[Bool.and_true];show(x.data.toList == x.data.toList)=true;exact beq_self_eq_true _
 | .sli t,_,_,⟨a,e,k⟩=>by
  subst e
  show(eqA a a&&true)=true
  rw[eqA_cvs (fun x cs=>eqAs_ev t x cs) k];rfl
 | .pair a b,_,_,⟨c,d,e,k1,k2⟩=>by
  subst e
  exact eqAs_app (eqAs_ev a _ _ k1) (eqAs_ev b _ _ k2)
theorem same1_ok{E:En}{N:Nat}{u v:Sv}{a b:AV}{c:LB}(hu:V E N u a)(hv:V E N v b)(e:same1 u v=some c)(hc:c.v=true):eqA a b=true:=by
 have nums:(match toN u,toN v with
  |some (k,a),some (k',b)=>bif eqK k k' then some (LB.t (decide (a=b)))else none
  | _,_=>match toB u,toB v with
   |some a,some b=>some (LB.t (!(xor a.v b.v)))
   | _,_=>none)=some c->eqA a b=true:=by
  intro e
  split at e
  ·rename_i k m k' n h1 h2
   obtain⟨hk,e⟩:=condS e
   cases e
   rw[v_num hu h1,v_num hv h2]
   have:m=n:=by simpa[LB.v]using hc
   subst this
   show(eqK k k'&&eqI m m)=true
   rw[hk,eqI_self];rfl
  ·split at e
   ·rename_i x y h1 h2
    cases e
    rw[v_bool hu h1,v_bool hv h2]
    exact hc
   ·cases e
 unfold same1 at e
 split at e
 ·have e:=(condS e).1;cases hu;cases hv;exact e
 ·cases hu;cases hv
  rename_i a b
  cases a<;>cases b<;>first|rfl|(cases e;done)
 ·have e:=(condS e).1;cases hu;cases hv;exact e
 ·have e:=(condS e).1
  rw[Bool.and_eq_true]at e
  have e1:=beq_true e.1;have e2:=beq_true e.2
  subst e1;subst e2
  cases hu with
  |rf _ h1=>cases hv with
   |rf _ h2=>
    rw[h1]at h2;cases h2
    show(Nat.beq _ _&&Nat.beq _ _)=true
    simp
 ·have e0:=(condS e).1
  replace e:=(condS e).2
  rw[Bool.and_eq_true,Bool.and_eq_true]at e0
  have e1:=beq_true e0.1;have e2:=beq_true e0.2.1;have e3:=beq_true e0.2.2
  subst e1;subst e2;subst e3
  cases e
  simp only[LB.v,decide_eq_true_eq]at hc
  subst hc
  cases hu with
  |re _ h1 _=>cases hv with
   |re _ h2 _=>
    rw[h1]at h2;cases h2
    show(Nat.beq _ _&&Nat.beq _ _)=true
    simp
 ·have e0:=(condS e).1
  rw[Bool.and_eq_true]at e0
  have e1:=beq_true e0.1;have e2:=beq_true e0.2
  subst e1;subst e2
  cases hu with
  |os _ h1=>cases hv with
   |os _ h2=>
    rcases h1 with⟨h1,_⟩|⟨id,base,h1⟩
    ·exact eqA_empty h1
    ·rw[h1];show(Nat.beq _ _&&Nat.beq _ _&&Nat.beq _ _&&Nat.beq _ _)=true;simp
 ·have e0:=(condS e).1
  replace e:=(condS e).2
  rw[Bool.and_eq_true]at e0
  have e1:=beq_true e0.1;have e2:=beq_true e0.2
  subst e1;subst e2
  cases e
  simp only[LB.v,Bool.and_eq_true,decide_eq_true_eq]at hc
  obtain⟨c1,c2⟩:=hc
  subst c1;subst c2
  cases hu with
  |se _ h1 _ _=>cases hv with
   |se _ _ _ _=>exact eqA_empty h1
   |ss _ h2 _=>rw[h2]at h1;cases h1
  |ss _ h1 _=>cases hv with
   |se _ h2 _ _=>rw[h1]at h2;cases h2
   |ss _ h2 _=>
    rw[h1]at h2
    injection h2 with a1 a2 _ _
    subst a1;subst a2
    show(Nat.beq _ _&&Nat.beq _ _&&Nat.beq _ _&&Nat.beq _ _)=true;simp
 ·have e0:=(condS e).1
  rw[Bool.and_eq_true,Bool.and_eq_true,Bool.and_eq_true]at e0
  have e1:=beq_true e0.1;have e2:=beq_true e0.2.1;have e3:=beq_true e0.2.2.1;have e4:=beq_true e0.2.2.2
  subst e1;subst e2;subst e3;subst e4
  cases hu with
  |xo _ h1=>cases hv with
   |xo _ h2=>rw[h1]at h2;cases h2;show(Nat.beq _ _&&Nat.beq _ _&&Nat.beq _ _&&Nat.beq _ _)=true;simp
 ·have e0:=(condS e).1
  rw[Bool.and_eq_true]at e0
  have hp:=blt_iff.1 e0.1
  have e1:=beq_true e0.2
  subst e1
  cases hu with
  |c k1 m1=>cases hv with
   |c k2 m2=>
    rw[(m1 (by omega)).2,<-(m2 (by omega)).2]
    have:=eqAs_ev _ _ _ k2
    have this:(eqA b b&&true)=true:=this
    rwa [Bool.and_true]at this
 ·exact nums e
theorem sameL_ok{E:En}{N:Nat}: ∀ {l m:List Sv} {as bs:List AV} {c:LB},Vs E N l as->Vs E N m bs->sameL l m=some c->c.v=true->eqAs as bs=true
 | [],[],_,_,_,.nil,.nil,_,_=>rfl
 | [],_::_,_,_,_,_,_,e,_=>by cases e
 | _::_,[],_,_,_,_,_,e,_=>by cases e
 |u::l,v::m,a::as,b::bs,c,.cons hu hl,.cons hv hm,e,hc=>by
  unfold sameL at e
  split at e
  ·rename_i x hx
   split at e
   ·rename_i y hy
    cases e
    rw[LB.and_v,Bool.and_eq_true]at hc
    show(eqA a b&&eqAs as bs)=true
    rw[same1_ok hu hv hx hc.1,sameL_ok hl hm hy hc.2];rfl
   ·cases e
  ·cases e
theorem sameS_ok{E:En}{N:Nat}{u v:Sv}{a b:AV}{c:LB}(hu:V E N u a)(hv:V E N v b)(e:sameS u v=some c)(hc:c.v=true):eqA a b=true:=by
 unfold sameS at e
 split at e
 ·cases hu with
  |ag h1=>cases hv with
   |ag h2=>exact sameL_ok h1 h2 e hc
 ·exact same1_ok hu hv e hc
theorem Ev.map{α β:Type}{p:Nat->Nat->α}{r:α}(h:Ev p r){q:Nat->Nat->β}{s:β}(k: ∃ M,∀ n d,M<=n->M<=d->p n d=r->q n d=s):Ev q s:=by
 obtain⟨M,h⟩:=h
 obtain⟨M',k⟩:=k
 exact⟨max M M',fun n d h1 h2=>k n d (by omega) (by omega) (h n d (by omega) (by omega))⟩
theorem Ev.map0{α β:Type}{p:Nat->Nat->α}{r:α}(h:Ev p r){q:Nat->Nat->β}{s:β}(k: ∀ n d,p n d=r->q n d=s):Ev q s:=h.map ⟨0,fun n d _ _=>k n d⟩
theorem Ev.map2{α β γ:Type}{p:Nat->Nat->α}{r:α}(h:Ev p r){q:Nat->Nat->β}{s:β}(k:Ev q s){f:Nat->Nat->γ}{u:γ}(g: ∀ n d,p n d=r->q n d=s->f n d=u):Ev f u:=by
 obtain⟨M,h⟩:=h
 obtain⟨M',k⟩:=k
 exact⟨max M M',fun n d h1 h2=>g n d (h n d (by omega) (by omega)) (k n d (by omega) (by omega))⟩
theorem sim_mn{f:SOpF}{g:OpN}(s:SimF f g):SimF f (fun n d=>mn (g n d)):=by
 intro E T t H h v T' H' hT hH e
 obtain⟨c,h',E',k,X,S,w,hT'⟩:=s E T t H h v T' H' hT hH e
 refine⟨c,h',E',k.map0 fun n d q=>?_,X,S,w,hT'⟩
 have hb:Nat.ble h.next h'.next=true:=by rw[Nat.ble_eq];exact X.le'
 simp only[mn,q,hb]
theorem sim_gd{f:SOpF}{g:OpN}(s:SimF f g)(j:Od)(want:Bool):SimF (sGd j want f) (fun n d=>gF (aOd j) want (g n d)):=by
 intro E T t H h v T' H' hT hH e
 unfold sGd at e
 split at e
 ·rename_i hj
  obtain⟨rfl,rfl,rfl⟩:=okV_some e
  obtain⟨a,ha,hav⟩:=opd_ok hT hj
  cases hav with
  |tu k=>cases k;exact⟨undefA,h,E,⟨0,fun n d _ _=>by unfold gF;simp only[ha]⟩,Nx.refl _ _ _,hH,.tu .nil,hT⟩
 ·obtain⟨c,T1,hc,hT1,h1,h2⟩:=splitB_ok hT e
  have hg: ∀ n d,gF (aOd j) want (g n d) t h=ifb (ifb want c (!c)) (g n d t h) (.ok undefA h):=fun n d=>by unfold gF;rw[hc]
  have yes:(bif want then c else !c)=true->(f T1 H).val=some (v,T',H')-> ∃ c h' E',Ev (fun n d=>gF (aOd j) want (g n d) t h) (.ok c h')/\Nx E E' H H' h h'/\SR E' H' h'/\V E' H'.next v c/\TV E' H'.next T' t:=by
   intro hw e
   obtain⟨x,h',E',k,X,S,w,hT'⟩:=s E T1 t H h v T' H' hT1 hH e
   refine⟨x,h',E',k.map0 fun n d q=>?_,X,S,w,hT'⟩
   rw[hg,q]
   cases want<;>cases c<;>first|rfl|cases hw
  have no:(bif want then c else !c)=false->(okV undefS T1 H).val=some (v,T',H')-> ∃ c h' E',Ev (fun n d=>gF (aOd j) want (g n d) t h) (.ok c h')/\Nx E E' H H' h h'/\SR E' H' h'/\V E' H'.next v c/\TV E' H'.next T' t:=by
   intro hw e
   obtain⟨rfl,rfl,rfl⟩:=okV_some e
   refine⟨undefA,h,E,⟨0,fun n d _ _=>?_⟩,Nx.refl _ _ _,hH,.tu .nil,hT1⟩
   show gF (aOd j) want (g n d) t h=_
   rw[hg]
   cases want<;>cases c<;>first|rfl|cases hw
  cases c with
  |true=>
   have:=h1 rfl
   cases want with
   |true=>exact yes rfl this
   |false=>exact no rfl this
  |false=>
   have:=h2 rfl
   cases want with
   |true=>exact no rfl this
   |false=>exact yes rfl this
end Lf
end Go.Ab
