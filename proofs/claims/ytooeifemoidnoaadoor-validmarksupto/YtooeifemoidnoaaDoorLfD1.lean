import Derived.Test.YtooeifemoidnoaaDoorLfA
noncomputable section
namespace Go.Ab
namespace Lf
section
variable {E:En}{N:Nat}
theorem ofA_ok{a:AV}{b:Sv}(h:ofA a=some b):V E N b a:=by
 unfold ofA at h
 split at h
 ·cases h;exact .i
 ·cases h;exact .b
 ·cases h;exact .a rfl
 ·cases h;exact .a rfl
 ·cases h;exact .a rfl
 ·cases h;exact .tu .nil
 ·cases h;exact .fn .nil
 ·cases h
theorem ofAs_ok{l:List AV}: ∀ {m:List Sv},ofAs l=some m->Vs E N m l:=by
 induction l with
 |nil=>intro m h;cases h;exact .nil
 |cons a l ih=>
  intro m h
  change (match ofA a with|some b=>(match ofAs l with|some r=>some (b::r)|none=>none)|none=>none)=some m at h
  split at h
  ·rename_i b hb
   split at h
   ·rename_i r hr;cases h;exact .cons (ofA_ok hb) (ih hr)
   ·cases h
  ·cases h
theorem opd_ok{T:Tq}{t:Tm}(hT:TV E N T t){o:Od}{a:Sv}(h:opd o T=some a): ∃ c,aOd o t=some c/\V E N a c:=by
 cases o with
 |t i=>
  change (bif Nat.blt i 512 then T.at i else none)=some a at h
  obtain⟨hi,h⟩:=condS h
  exact hT i a (blt_iff.1 hi) h
 |c v=>exact⟨v,rfl,ofA_ok h⟩
 |zz=>cases h
 |w o=>cases h
theorem opw_ok{T:Tq}{t:Tm}(hT:TV E N T t){o:Od}{a:Sv}(h:opw o T=some a): ∃ c,aOd o t=some (wkE c)/\V E N a c:=by
 cases o with
 |w o=>
  obtain⟨c,hc,hv⟩:=opd_ok hT (o:=o) h
  refine⟨c,?_,hv⟩
  show(Option.rec none (fun a=>some (wkE a)) (aOd o t):Option AV)=_
  rw[hc]
 | _=>cases h
theorem opdl_ok{T:Tq}{t:Tm}(hT:TV E N T t): ∀ {l:List Od} {vs:List Sv},opdl l T=some vs->(∃ cs,opds (l.map aOd) t=some cs/\Vs E N vs cs):=by
 intro l
 induction l with
 |nil=>intro vs h;cases h;exact⟨[],rfl,.nil⟩
 |cons o l ih=>
  intro vs h
  change (match opd o T with|some v=>(match opdl l T with|some vs=>some (v::vs)|none=>none)|none=>none)=some vs at h
  split at h
  ·rename_i v hv
   split at h
   ·rename_i us hu
    cases h
    obtain⟨c,hc,hcv⟩:=opd_ok hT hv
    obtain⟨cs,hcs,hcsv⟩:=ih hu
    refine⟨c::cs,?_,.cons hcv hcsv⟩
    show(Option.rec none (fun v=>Option.rec none (fun vs=>some (v::vs)) (opds (l.map aOd) t)) (aOd o t):Option (List AV))=_
    rw[hc,hcs]
   ·cases h
  ·cases h
theorem v_bool{v:Sv}{x:LB}{a:AV}(h:V E N v a)(e:toB v=some x):a=.bool x.v:=by
 cases h with
 |b=>cases e;rfl
 |c k _=>
  unfold toB at e
  split at e
  ·rename_i h;cases h
  ·rename_i h;cases h;cases e
   have k':[a]=[AV.bool _]:=k
   injection k'
  ·cases e
 | _=>cases e
theorem v_num{v:Sv}{k:IntKind}{n:Int}{a:AV}(h:V E N v a)(e:toN v=some (k,n)):a=.int k n:=by
 cases h with
 |i=>cases e;rfl
 |c q _=>
  unfold toN at e
  split at e
  ·rename_i h;cases h
  ·rename_i h;cases h;cases e
   have k':[a]=[AV.int _ _]:=q
   injection k'
  ·cases e
 | _=>cases e
theorem v_str{v:Sv}{l:Bool}{s:ByteArray}{a:AV}(h:V E N v a)(e:toS v=some (l,s)):a=.sc (.string s):=by
 cases h with
 |a h=>
  unfold toS at e
  split at e
  ·rename_i h;cases h;cases e;rfl
  ·rename_i h;cases h
  ·cases e
 |c q _=>
  unfold toS at e
  split at e
  ·rename_i h;cases h
  ·rename_i h;cases h;cases e
   have k':[a]=[AV.sc (.string _)]:=q
   injection k'
  ·cases e
 | _=>cases e
theorem ci_num{k:IntKind}{n:Int}:V E N (.c 0 (.int k) n) (.int k n):=.c rfl fun h=>(h rfl).elim
theorem ci_bool{b:Bool}:V E N (.c 0 .bool b) (.bool b):=.c rfl fun h=>(h rfl).elim
theorem svB_ok{c:LB}:V E N (svB c) (.bool c.v):=by cases c with
 |l b=>exact .b
 |t b=>exact ci_bool
theorem splitB_ok{α:Type}{j:Od}{T:Tq}{t:Tm}{a b:Tq->Lf.T α}{r:α}(hT:TV E N T t)(h:(splitB j T a b).val=some r):
 ∃ c T1,aOd j t=some (.bool c)/\TV E N T1 t/\(c=true->(a T1).val=some r)/\(c=false->(b T1).val=some r):=by
 unfold splitB at h
 split at h
 ·rename_i i
  cases hb:Nat.blt i 512 with
  |false=>rw[hb]at h;cases h
  |true=>
   rw[hb]at h
   simp only[cond_true]at h
   split at h
   ·rename_i c hc
    obtain⟨x,hx,hv⟩:=hT i _ (blt_iff.1 hb) hc
    cases hv
    refine⟨c,T,hx,hT,fun e=>?_,fun e=>?_⟩<;>subst e<;>exact h
   ·rename_i m x hc
    obtain⟨y,hy,hv⟩:=hT i _ (blt_iff.1 hb) hc
    have:=v_bool hv rfl
    subst this
    have key: ∀ c:Bool,c=x->TV E N (T.put i (some (.b c))) t:=by
     intro c hcx j v hj hv
     rw[Tq.at_put _ _ _ _ (blt_iff.1 hb) hj]at hv
     split at hv
     ·rename_i e;subst e;cases hv;exact⟨_,hy,by rw[hcx];exact .b⟩
     ·exact hT j v hj hv
    cases x with
    |true=>exact⟨true,_,hy,key true rfl,fun _=>h,fun e=>by cases e⟩
    |false=>exact⟨false,_,hy,key false rfl,(fun e=>by cases e),fun _=>h⟩
   ·cases h
 ·rename_i c
  refine⟨c,T,rfl,hT,fun e=>?_,fun e=>?_⟩<;>subst e<;>exact h
 ·cases h
theorem sim_move(x:Od):SimF (sMove x) (fun _ _=>kMove (aOd x)):=sim_same (by
 intro E T t H h v T' H' hT hH e
 unfold sMove okO at e
 split at e
 ·rename_i v' hv
  cases e
  obtain⟨c,hc,hcv⟩:=opd_ok hT hv
  refine⟨rfl,rfl,c,?_,hcv⟩
  show(Option.rec Go.Ab.Ro.bad (fun v=>Go.Ab.Ro.ok v h) (aOd x t):Go.Ab.Ro)=_
  rw[hc]
 ·cases e)
theorem sim_pick(c a b:Od):SimF (sPick c a b) (fun _ _=>kPick (aOd c) (aOd a) (aOd b)):=by
 intro E T t H h v T' H' hT hH e
 obtain⟨x,T1,hx,hT1,h1,h2⟩:=splitB_ok hT e
 have hk:kPick (aOd c) (aOd a) (aOd b) t h=bif x then kMove (aOd a) t h else kMove (aOd b) t h:=by unfold kPick;rw[hx]
 cases x with
 |true=>
  obtain⟨c',h',E',e1,e2⟩:=sim_move a E T1 t H h v T' H' hT1 hH (h1 rfl)
  exact⟨c',h',E',by simp only[hk];exact e1,e2⟩
 |false=>
  obtain⟨c',h',E',e1,e2⟩:=sim_move b E T1 t H h v T' H' hT1 hH (h2 rfl)
  exact⟨c',h',E',by simp only[hk];exact e1,e2⟩
theorem okO_some{v:Option Sv}{t T':Tq}{h H':Hq}{w:Sv}(e:(okO v t h).val=some (w,T',H')):v=some w/\T'=t/\H'=h:=by
 unfold okO at e
 split at e
 ·cases e;exact⟨rfl,rfl,rfl⟩
 ·cases e
theorem okV_some{v:Sv}{t T':Tq}{h H':Hq}{w:Sv}(e:(okV v t h).val=some (w,T',H')):v=w/\T'=t/\H'=h:=by cases e;exact⟨rfl,rfl,rfl⟩
theorem sim_extract(a:Od)(i:Nat):SimF (sExtract a i) (fun _ _=>kExtract (aOd a) i):=sim_same (by
 intro E T t H h v T' H' hT hH e
 unfold sExtract at e
 split at e
 ·rename_i vs hv
  obtain⟨e1,rfl,rfl⟩:=okO_some e
  obtain⟨c,hc,hcv⟩:=opd_ok hT hv
  cases hcv with
  |tu k=>
   rw[getN_eq]at e1
   obtain⟨c,h1,h2⟩:=k.get e1
   refine⟨rfl,rfl,c,?_,h2⟩
   unfold kExtract
   rw[hc]
   simp only[getN_eq,h1]
 ·cases e)
theorem sim_field(off size:Nat)(agg:Bool)(a:Od):SimF (sField off size agg a) (fun _ _=>kField off size agg (aOd a)):=sim_same (by
 intro E T t H h v T' H' hT hH e
 unfold sField at e
 split at e
 ·rename_i vs hv
  obtain⟨e1,rfl,rfl⟩:=okO_some e
  obtain⟨c,hc,hcv⟩:=opd_ok hT hv
  cases hcv with
  |ag k=>
   obtain⟨c,h1,h2⟩:=part1_ok k e1
   refine⟨rfl,rfl,c,?_,h2⟩
   unfold kField
   rw[hc]
   simp only[h1]
 ·cases e)
theorem sim_fn(f:FuncId)(cap:List Od):SimF (sFn f cap) (fun _ _=>kFn f (cap.map aOd)):=sim_same (by
 intro E T t H h v T' H' hT hH e
 unfold sFn at e
 split at e
 ·rename_i vs hv
  obtain⟨rfl,rfl,rfl⟩:=okV_some e
  obtain⟨c,hc,hcv⟩:=opdl_ok hT hv
  refine⟨rfl,rfl,_,?_,.fn hcv⟩
  unfold kFn
  rw[hc]
 ·cases e)
theorem sim_nil(a:Od):SimF (sNilc a) (fun _ _=>kNil (aOd a)):=sim_same (by
 intro E T t H h v T' H' hT hH e
 unfold sNilc at e
 split at e
 all_goals first
  |(cases e;done)
  |(rename_i hv
    obtain⟨rfl,rfl,rfl⟩:=okV_some e
    obtain⟨c,hc,hcv⟩:=opd_ok hT hv
    refine⟨rfl,rfl,c,?_,hcv⟩
    unfold kNil
    rw[hc]
    cases hcv<;>rfl))
theorem sim_fieldAddr(off:Nat)(a:Od):SimF (sFieldAddr off a) (fun _ _=>kFieldAddr off (aOd a)):=sim_same (by
 intro E T t H h v T' H' hT hH e
 unfold sFieldAddr at e
 split at e
 ·rename_i r o hv
  obtain⟨rfl,rfl,rfl⟩:=okV_some e
  obtain⟨c,hc,hcv⟩:=opd_ok hT hv
  cases hcv with
  |rf h1 h2=>exact⟨rfl,rfl,_,by unfold kFieldAddr;rw[hc],.rf h1 h2⟩
 ·rename_i r s i o hv
  obtain⟨rfl,rfl,rfl⟩:=okV_some e
  obtain⟨c,hc,hcv⟩:=opd_ok hT hv
  cases hcv with
  |re h1 h2 h3=>exact⟨rfl,rfl,_,by unfold kFieldAddr;rw[hc],by have:=V.re (o:=o+off) h1 h2 h3;rw[<-Nat.add_assoc]at this;exact this⟩
 ·rename_i l hv
  cases hb:Nat.ble off (len l)with
  |false=>rw[hb]at e;cases e
  |true=>
   rw[hb]at e
   obtain⟨rfl,rfl,rfl⟩:=okV_some e
   have hle:off<=l.length:=by have:=Nat.le_of_ble_eq_true hb;rwa [len_eq]at this
   obtain⟨c,hc,hcv⟩:=opd_ok hT hv
   rw[dp_eq]
   cases hcv with
   |zp k=>
    rename_i l' r
    refine⟨rfl,rfl,_,by unfold kFieldAddr;rw[hc],?_⟩
    rw[dp_eq,List.drop_append_of_le_length (by rw[<-k.length];exact hle)]
    exact .zp (k.drop off)
   |zr k g s=>
    rename_i l' id o row
    refine⟨rfl,rfl,_,by unfold kFieldAddr;rw[hc],?_⟩
    refine .zr (k.drop off) g ?_
    obtain⟨s1,s2⟩:=seg_iff.1 s
    rw[List.length_drop]
    refine seg_iff.2 ⟨by have e1:Nat.add o off=o+off:=rfl;omega,?_⟩
    rw[s2,List.drop_take,List.drop_drop]
    rfl
 ·cases e)
end
end Lf
end Go.Ab

noncomputable section
namespace Go.Ab
namespace Lf
theorem newQ_get{H:Hq}{R:Row}{i:Nat}:(newQ H R).objs.get i=if i=H.next then some R else H.objs.get i:=Tr.get_set _ _ _ _
theorem setQ_get{H:Hq}{r i:Nat}{R:Option Row}:(setQ H r R).objs.get i=if i=r then R else H.objs.get i:=Tr.get_set _ _ _ _
theorem newO_get'{h:Hp}{cs:Rw}{i:Nat}:(newO h cs).objs.get i=if i=h.next then some cs else h.objs.get i:=Tr.get_set _ _ _ _
theorem setO_get'{h:Hp}{r i:Nat}{cs:Option Rw}:(setO h r cs).objs.get i=if i=r then cs else h.objs.get i:=Tr.get_set _ _ _ _
theorem LR.mono{G G':Nat->Option Rw}{S S':Nat->Option Rw}(hg:GLe G G'){t:Ty}{x:List (den t)}{k:Kr}(hs: ∀ id row,ido k.av=some id->S id=some row->S' id=some row)(h:LR G t x k S):LR G' t x k S':=by
 refine⟨h.1,?_⟩
 rcases h.2 with h2|⟨id,base,row,ls,e,s,g,l⟩
 ·exact .inl h2
 ·exact .inr ⟨id,base,row,ls,e,hs _ _ (by rw[e];rfl) s,g,l.mono (EV.mono hg t)⟩
theorem RV.mono{E E':En}{N N':Nat}{h h':Hp}{k:Kr}{R:Row}(e:ELe E E' N)(hN:N<=N')(hs:R.live=true-> ∀ id row,ido k.av=some id->h.objs.get id=some row->h'.objs.get id=some row)(r:RV E N h k R):RV E' N' h' k R:=by
 cases R with
 |o g l=>obtain⟨id,row,a,b,c,d⟩:=r;exact⟨id,row,a,hs rfl _ _ (by rw[a];rfl) b,c.mono e hN,by rw[e.A];exact d⟩
 |zo l=>obtain⟨id,row,a,b,c⟩:=r;exact⟨id,row,a,e.G _ _ b,c.mono e hN⟩
 |l t x=>exact LR.mono e.G (hs rfl) r
 |z t x=>exact LR.mono e.G (fun id row _ k=>e.G _ _ k) r
def En.row(E:En)(r:Nat)(k:Kr):En:=⟨fun i=>if i=r then k else E.K i,E.tk,E.G,E.A⟩
theorem En.row_le(E:En)(r:Nat)(k:Kr):ELe E (E.row r k) r:=⟨fun i hi=>if_neg (by omega),fun _ _=>rfl,fun _ _ e=>e,rfl⟩
theorem step_row{E:En}{H:Hq}{h:Hp}(S:SR E H h){H1:Hq}(hn1:H1.next=H.next)(hsub: ∀ r R,H1.objs.get r=some R->H.objs.get r=some R){k:Kr}{R:Row}{h':Hp}(hn:h.next<=h'.next)
 (hsame: ∀ id,id<h.next->(∀ r,own H r-> ¬ own H1 r->ido (E.K r).av≠some id)->h'.objs.get id=h.objs.get id)
 (hid: ∀ id,ido k.av=some id->id<h'.next/\(h.next<=id∨ ∃ r,own H r/\ ¬ own H1 r/\ido (E.K r).av=some id))
 (hR:RV E H.next h' k R)(live:R.live=true):SR (E.row H.next k) (newQ H1 R) h'/\Nx E (E.row H.next k) H (newQ H1 R) h h':=by
 have hle:=En.row_le E H.next k
 have ow1: ∀ r,own H1 r->own H r:=fun r ⟨R,a,b⟩=>⟨R,hsub _ _ a,b⟩
 have own': ∀ r,own (newQ H1 R) r->r=H.next∨(r<H.next/\own H1 r):=by
  rintro r ⟨R',a,b⟩
  rw[newQ_get,hn1]at a
  split at a
  ·exact .inl ‹_›
  ·exact .inr ⟨(S.row _ _ (hsub _ _ a)).1,R',a,b⟩
 have keep: ∀ r,own H1 r-> ∀ id,ido (E.K r).av=some id->h'.objs.get id=h.objs.get id:=by
  intro r o id e
  refine hsame id (S.lt r id (ow1 r o) e) fun r' o' n' e'=>?_
  exact n' (by rw[S.inj r' r id o' (ow1 r o) e' e];exact o)
 have keepG: ∀ id row,E.G id=some row->h'.objs.get id=some row:=by
  intro id row e
  obtain⟨a,b,c⟩:=S.g id row e
  rw[hsame id a fun r o _=>c r o,b]
 have K0:(E.row H.next k).K H.next=k:=if_pos rfl
 have K1: ∀ r,r<H.next->(E.row H.next k).K r=E.K r:=fun r hr=>if_neg (by omega)
 refine⟨⟨?_,?_,?_,?_⟩,⟨hle,?_,hn,?_,?_,?_⟩⟩
 ·intro r R' hr
  rw[newQ_get,hn1]at hr
  split at hr
  ·rename_i e
   cases hr
   subst e
   rw[K0]
   exact⟨by show _<Nat.add H1.next 1;rw[hn1];exact Nat.lt_succ_self _,RV.mono hle (by show _<=Nat.add H1.next 1;rw[hn1];exact Nat.le_succ _) (fun _ _ _ _ e=>e) hR⟩
  ·have h0:=S.row _ _ (hsub _ _ hr)
   refine⟨by show _<Nat.add H1.next 1;rw[hn1];exact Nat.lt_succ_of_lt h0.1,?_⟩
   rw[K1 _ h0.1]
   exact RV.mono hle (by show _<=Nat.add H1.next 1;rw[hn1];exact Nat.le_succ _) (fun lv id row e1 e2=>by rw[keep r ⟨R',hr,lv⟩ id e1];exact e2) h0.2
 ·intro r r' id o o' e e'
  rcases own' r o with a|⟨a1,a2⟩<;>rcases own' r' o' with b|⟨b1,b2⟩
  ·rw[a,b]
  ·subst a
   rw[K0]at e;rw[K1 _ b1]at e'
   rcases(hid id e).2 with c|⟨q,q1,q2,q3⟩
   ·have:=S.lt _ _ (ow1 _ b2) e';omega
   ·exact(q2 (by rw[S.inj q r' id q1 (ow1 _ b2) q3 e'];exact b2)).elim
  ·subst b
   rw[K0]at e';rw[K1 _ a1]at e
   rcases(hid id e').2 with c|⟨q,q1,q2,q3⟩
   ·have:=S.lt _ _ (ow1 _ a2) e;omega
   ·exact(q2 (by rw[S.inj q r id q1 (ow1 _ a2) q3 e];exact a2)).elim
  ·rw[K1 _ a1]at e;rw[K1 _ b1]at e'
   exact S.inj r r' id (ow1 _ a2) (ow1 _ b2) e e'
 ·intro r id o e
  rcases own' r o with a|⟨a1,a2⟩
  ·subst a;rw[K0]at e;exact(hid id e).1
  ·rw[K1 _ a1]at e;exact Nat.lt_of_lt_of_le (S.lt _ _ (ow1 _ a2) e) hn
 ·intro id row e
  obtain⟨a,b,c⟩:=S.g id row e
  refine⟨Nat.lt_of_lt_of_le a hn,keepG id row e,fun r o e2=>?_⟩
  rcases own' r o with q|⟨q1,q2⟩
  ·subst q;rw[K0]at e2
   rcases(hid id e2).2 with w|⟨w,w1,w2,w3⟩
   ·omega
   ·exact c _ w1 w3
  ·rw[K1 _ q1]at e2;exact c r (ow1 _ q2) e2
 ·show H.next<=Nat.add H1.next 1;rw[hn1];exact Nat.le_succ _
 ·intro r id o e
  rcases own' r o with a|⟨a1,a2⟩
  ·subst a;rw[K0]at e
   rcases(hid id e).2 with w|⟨w,w1,w2,w3⟩
   ·exact .inr w
   ·exact .inl ⟨w,w1,w3⟩
  ·rw[K1 _ a1]at e;exact .inl ⟨r,ow1 _ a2,e⟩
 ·exact fun id row e=>.inl e
 ·exact fun id hi hn=>hsame id hi fun r o _=>hn r o
theorem add_row{E:En}{H:Hq}{h:Hp}(S:SR E H h){k:Kr}{R:Row}{rw:Rw}(hk:ido k.av=some h.next∨ido k.av=none)
 (hR:RV E H.next (newO h rw) k R)(live:R.live=true):SR (E.row H.next k) (newQ H R) (newO h rw)/\Nx E (E.row H.next k) H (newQ H R) h (newO h rw):=by
 refine step_row S rfl (fun _ _ e=>e) (Nat.le_succ _) (fun id hi _=>?_) (fun id e=>?_) hR live
 ·rw[newO_get',if_neg (by omega)]
 ·rcases hk with hk|hk
  ·rw[hk]at e;cases e;exact⟨Nat.lt_succ_self _,.inl (Nat.le_refl _)⟩
  ·rw[hk]at e;cases e
theorem add_o{E:En}{H:Hq}{h:Hp}(S:SR E H h){l:List Sv}{rw:Rw}(hv:Vs E H.next l rw.toL):
 SR (E.row H.next ⟨.ref h.next 0,0⟩) (newQ H (.o 0 l)) (newO h rw)/\Nx E (E.row H.next ⟨.ref h.next 0,0⟩) H (newQ H (.o 0 l)) h (newO h rw):=
 add_row S (.inl rfl) ⟨h.next,rw,rfl,by rw[newO_get',if_pos rfl],hv,fun h=>(h rfl).elim⟩ rfl
theorem add_l{E:En}{H:Hq}{h:Hp}(S:SR E H h){t:Ty}{x:List (den t)}{rw:Rw}(hv:Els (EV E.G t) x rw.toL):
 SR (E.row H.next ⟨.hsl h.next 0 x.length (size t),x.length⟩) (newQ H (.l t x)) (newO h rw)/\Nx E (E.row H.next ⟨.hsl h.next 0 x.length (size t),x.length⟩) H (newQ H (.l t x)) h (newO h rw):=by
 have hl:=hv.length (EV.length t)
 refine add_row S (.inl rfl) ⟨rfl,.inr ⟨h.next,0,rw,rw.toL,rfl,by rw[newO_get',if_pos rfl],?_,hv⟩⟩ rfl
 refine seg_iff.2 ⟨by rw[<-toL_len,hl,Nat.zero_add];exact Nat.le_refl _,?_⟩
 show _=List.take (x.length*size t) _
 rw[<-hl,List.drop_zero,List.take_length]
theorem TV.put{E:En}{N:Nat}{T:Tq}{t:Tm}(h:TV E N T t){i:Nat}{v:Sv}{a:AV}(hi:i<512)(hv:V E N v a):TV E N (T.put i (some v)) (t.put i (some a)):=by
 intro j w hj hw
 rw[Tq.at_put _ _ _ _ hi hj]at hw
 rw[Tm.at_put _ _ _ _ hi hj]
 split at hw
 ·rename_i e;cases hw;exact⟨a,if_pos e,hv⟩
 ·rename_i e;rw[if_neg e];exact h j w hj hw
theorem sim_new(cs:List AV):SimF (sNew cs) (fun _ _=>kNew cs):=by
 intro E T t H h v T' H' hT hH e
 unfold sNew at e
 split at e
 ·rename_i l hl
  obtain⟨rfl,rfl,rfl⟩:=okV_some e
  obtain⟨S,X⟩:=add_o hH (l:=l) (rw:=ofL cs) (by rw[toL_ofL];exact ofAs_ok hl)
  exact⟨_,_,_,Ev.const rfl,X,S,.rf (Nat.lt_succ_self _) (by show(if H.next=H.next then _ else _:Kr).av=_;rw[if_pos rfl]),hT.mono X.e X.le⟩
 ·cases e
theorem sim_box(x:Od):SimF (sBox x) (fun _ _=>kBox (aOd x)):=by
 intro E T t H h v T' H' hT hH e
 unfold sBox at e
 split at e
 ·rename_i w hw
  obtain⟨rfl,rfl,rfl⟩:=okV_some e
  obtain⟨c,hc,hcv⟩:=opd_ok hT hw
  obtain⟨S,X⟩:=add_o hH (l:=w.cells) (rw:=ofL c.cells) (by rw[toL_ofL];exact hcv.cells)
  refine⟨_,_,_,Ev.const ?_,X,S,.rf (Nat.lt_succ_self _) (by show(if H.next=H.next then _ else _:Kr).av=_;rw[if_pos rfl]),hT.mono X.e X.le⟩
  unfold kBox
  rw[hc]
 ·cases e
theorem putS_eq(l:List Sv)(off:Nat)(new:List Sv):putS l off new=l.take off++(new++l.drop (off+new.length)):=by
 unfold putS;rw[app_eq,app_eq,tk_eq,dp_eq,len_eq];rfl
theorem Vs.put{E:En}{N:Nat}{l:List Sv}{l':List AV}{m:List Sv}{m':List AV}(h:Vs E N l l')(k:Vs E N m m')(off:Nat):Vs E N (putS l off m) (put l' off m'):=by
 rw[putS_eq,put_eq,k.length]
 exact(h.take off).app (k.app (h.drop _))
theorem fillGS_ok{E:En}{N:Nat}: ∀ {ps:List (Nat×Nat×Sv)} {qs:List (Nat×Nat×AV)} {z r:List Sv} {z':List AV},ps.length=qs.length->(∀ (i:Nat) (p:Nat×Nat×Sv),ps[i]? =some p-> ∃ q:Nat×Nat×AV,qs[i]? =some q/\q.1=p.1/\q.2.1=p.2.1/\V E N p.2.2 q.2.2)->Vs E N z z'->
 fillGS ps z=some r-> ∃ r',fillG qs z'=some r'/\Vs E N r r'
 | [],[],z,r,z',_,_,hz,e=>by cases e;exact⟨z',rfl,hz⟩
 | [],_::_,_,_,_,h,_,_,_=>by cases h
 | _::_,[],_,_,_,h,_,_,_=>by cases h
 |p::ps,q::qs,z,r,z',hl,hq,hz,e=>by
  obtain⟨q',hq1,h1,h2,hv⟩:=hq 0 p rfl
  cases hq1
  change (bif Nat.beq (len p.2.2.cells) p.2.1&&Nat.ble (Nat.add p.1 p.2.1) (len z)then fillGS ps (putS z p.1 p.2.2.cells)else none)=some r at e
  obtain⟨hb,e⟩:=condS e
  obtain⟨r',hr,hrv⟩:=fillGS_ok (ps:=ps) (qs:=qs) (by simpa using hl) (fun i p hp=>hq (i+1) p hp) (hz.put hv.cells p.1) e
  refine⟨r',?_,hrv⟩
  show(bif Nat.beq (len q.2.2.cells) q.2.1&&Nat.ble (Nat.add q.1 q.2.1) (len z')then fillG qs (put z' q.1 q.2.2.cells)else none)=some r'
  rw[len_eq,<-hv.cells.length,h1,h2,len_eq,<-hz.length,<-len_eq,<-len_eq,hb,cond_true,hr]
theorem parts3_ok{E:En}{N:Nat}{T:Tq}{t:Tm}(hT:TV E N T t): ∀ {ps:List (Nat×Nat×Od)} {vs:List (Nat×Nat×Sv)},parts3S ps T=some vs->
 ∃ qs,parts3 (ps.map fun p=>(p.1,p.2.1,aOd p.2.2)) t=some qs/\vs.length=qs.length/\ ∀ (i:Nat) (p:Nat×Nat×Sv),vs[i]? =some p-> ∃ q:Nat×Nat×AV,qs[i]? =some q/\q.1=p.1/\q.2.1=p.2.1/\V E N p.2.2 q.2.2
 | [],vs,e=>by cases e;exact⟨[],rfl,rfl,fun i p h=>by simp at h⟩
 |p::ps,vs,e=>by
  change (match opd p.2.2 T with|some v=>(match parts3S ps T with|some vs=>some ((p.1,p.2.1,v)::vs)|none=>none)|none=>none)=some vs at e
  split at e
  ·rename_i v hv
   split at e
   ·rename_i us hu
    cases e
    obtain⟨c,hc,hcv⟩:=opd_ok hT hv
    obtain⟨qs,h1,h2,h3⟩:=parts3_ok hT hu
    refine⟨(p.1,p.2.1,c)::qs,?_,by simp[h2],fun i x hx=>?_⟩
    ·show(match aOd p.2.2 t with|some v=>(match parts3 (ps.map fun(p:Nat×Nat×Od)=>(p.1,p.2.1,aOd p.2.2)) t with|some vs=>some ((p.1,p.2.1,v)::vs)|none=>none)|none=>none)=_
     rw[hc,h1]
    ·cases i with
     |zero=>simp at hx;subst hx;exact⟨_,rfl,rfl,rfl,hcv⟩
     |succ i=>simpa using h3 i x (by simpa using hx)
   ·cases e
  ·cases e
theorem parts2_ok{E:En}{N:Nat}{T:Tq}{t:Tm}(hT:TV E N T t): ∀ {ps:List (Nat×Od)} {vs:List (Nat×Sv)},parts2S ps T=some vs->
 ∃ qs,parts2 (ps.map fun p=>(p.1,aOd p.2)) t=some qs/\vs.length=qs.length/\ ∀ (i:Nat) (p:Nat×Sv),vs[i]? =some p-> ∃ q:Nat×AV,qs[i]? =some q/\q.1=p.1/\V E N p.2 q.2
 | [],vs,e=>by cases e;exact⟨[],rfl,rfl,fun i p h=>by simp at h⟩
 |p::ps,vs,e=>by
  change (match opd p.2 T with|some v=>(match parts2S ps T with|some vs=>some ((p.1,v)::vs)|none=>none)|none=>none)=some vs at e
  split at e
  ·rename_i v hv
   split at e
   ·rename_i us hu
    cases e
    obtain⟨c,hc,hcv⟩:=opd_ok hT hv
    obtain⟨qs,h1,h2,h3⟩:=parts2_ok hT hu
    refine⟨(p.1,c)::qs,?_,by simp[h2],fun i x hx=>?_⟩
    ·show(match aOd p.2 t with|some v=>(match parts2 (ps.map fun(p:Nat×Od)=>(p.1,aOd p.2)) t with|some vs=>some ((p.1,v)::vs)|none=>none)|none=>none)=_
     rw[hc,h1]
    ·cases i with
     |zero=>simp at hx;subst hx;exact⟨_,rfl,rfl,hcv⟩
     |succ i=>simpa using h3 i x (by simpa using hx)
   ·cases e
  ·cases e
theorem sim_build(z:List AV)(ps:List (Nat×Nat×Od)):SimF (sBuild z ps) (fun _ _=>kBuild z (ps.map fun p=>(p.1,p.2.1,aOd p.2.2))):=sim_same (by
 intro E T t H h v T' H' hT hH e
 unfold sBuild at e
 split at e
 ·rename_i zs hz
  split at e
  ·rename_i vs hv
   split at e
   ·rename_i cs hc
    obtain⟨rfl,rfl,rfl⟩:=okV_some e
    obtain⟨qs,h1,h2,h3⟩:=parts3_ok hT hv
    obtain⟨r',hr,hrv⟩:=fillGS_ok h2 h3 (ofAs_ok hz) hc
    refine⟨rfl,rfl,.agg r',?_,.ag hrv⟩
    unfold kBuild
    rw[h1]
    simp only[hr]
   ·cases e
  ·cases e
 ·cases e)
theorem fillSS_ok{E:En}{N size:Nat}: ∀ {ps:List (Nat×Sv)} {qs:List (Nat×AV)} {k:Nat} {r:List Sv},ps.length=qs.length->(∀ (i:Nat) (p:Nat×Sv),ps[i]? =some p-> ∃ q:Nat×AV,qs[i]? =some q/\q.1=p.1/\V E N p.2 q.2)->
 fillSS size ps k=some r-> ∃ r',fillS size qs k=some r'/\Vs E N r r'
 | [],[],_,_,_,_,e=>by cases e;exact⟨[],rfl,.nil⟩
 | [],_::_,_,_,h,_,_=>by cases h
 | _::_,[],_,_,h,_,_=>by cases h
 |p::ps,q::qs,k,r,hl,hq,e=>by
  obtain⟨q',hq1,h1,hv⟩:=hq 0 p rfl
  cases hq1
  change (bif Nat.beq p.1 k&&Nat.beq (len p.2.cells) size then(match fillSS size ps (Nat.add k 1)with|some r=>some (app p.2.cells r)|none=>none)else none)=some r at e
  obtain⟨hb,e⟩:=condS e
  split at e
  ·rename_i s hs
   cases e
   obtain⟨r',hr,hrv⟩:=fillSS_ok (ps:=ps) (qs:=qs) (by simpa using hl) (fun i p hp=>hq (i+1) p hp) hs
   refine⟨q.2.cells++r',?_,?_⟩
   ·show(bif Nat.beq q.1 k&&Nat.beq (len q.2.cells) size then(match fillS size qs (Nat.add k 1)with|some r=>some (app q.2.cells r)|none=>none)else none)=_
    rw[len_eq,<-hv.cells.length,h1,<-len_eq,hb,cond_true,hr];simp only[app_eq]
   ·rw[app_eq];exact hv.cells.app hrv
  ·cases e
theorem repS_ok{E:En}{N:Nat}{z:List Sv}{z':List AV}(h:Vs E N z z'): ∀ n,Vs E N (repS n z) (repeatL n z')
 |0=>.nil
 |n+1=>by
  show Vs E N (app z (repS n z)) (app z' (repeatL n z'))
  rw[app_eq,app_eq];exact h.app (repS_ok h n)
theorem scale_ok{E:En}{N size:Nat}: ∀ {ps:List (Nat×Sv)} {qs:List (Nat×AV)},ps.length=qs.length->(∀ (i:Nat) (p:Nat×Sv),ps[i]? =some p-> ∃ q:Nat×AV,qs[i]? =some q/\q.1=p.1/\V E N p.2 q.2)->
 (scaleS size ps).length=(scale size qs).length/\ ∀ (i:Nat) (p:Nat×Nat×Sv),(scaleS size ps)[i]? =some p-> ∃ q:Nat×Nat×AV,(scale size qs)[i]? =some q/\q.1=p.1/\q.2.1=p.2.1/\V E N p.2.2 q.2.2
 | [],[],_,_=>⟨rfl,fun i p h=>by simp[scaleS]at h⟩
 | [],_::_,h,_=>by cases h
 | _::_,[],h,_=>by cases h
 |p::ps,q::qs,hl,hq=>by
  obtain⟨q',hq1,h1,hv⟩:=hq 0 p rfl
  cases hq1
  obtain⟨a,b⟩:=scale_ok (ps:=ps) (qs:=qs) (by simpa using hl) (fun i p hp=>hq (i+1) p hp)
  refine⟨by show _+1=_+1;exact congrArg _ a,fun i x hx=>?_⟩
  cases i with
  |zero=>
   change some (Nat.mul p.1 size,size,p.2)=some x at hx
   cases hx
   exact⟨(Nat.mul q.1 size,size,q.2),rfl,by show Nat.mul q.1 size=Nat.mul p.1 size;rw[h1],rfl,hv⟩
  |succ i=>exact b i x hx
theorem sim_row(n sz:Nat)(z:List AV)(ps:List (Nat×Od)):SimF (sRow n sz z ps) (fun _ _=>kRow n sz z (ps.map fun p=>(p.1,aOd p.2))):=by
 intro E T t H h v T' H' hT hH e
 unfold sRow at e
 split at e
 ·rename_i vs hv
  obtain⟨qs,h1,h2,h3⟩:=parts2_ok hT hv
  cases hn:Nat.beq n 0 with
  |true=>
   rw[hn]at e
   simp only[cond_true]at e
   split at e
   ·obtain⟨rfl,rfl,rfl⟩:=okV_some e
    refine⟨_,_,E,Ev.const ?_,Nx.refl _ _ _,hH,.a (v:=.nel) rfl,hT⟩
    unfold kRow
    rw[h1]
    simp only[hn,cond_true]
    have:qs=[]:=by cases qs with
     |nil=>rfl
     |cons _ _=>cases h2
    rw[this]
   ·cases e
  |false=>
   rw[hn]at e
   simp only[cond_false]at e
   split at e
   ·rename_i zs hz
    split at e
    ·rename_i cs hc
     cases hb:(allB one1 cs&&(Nat.blt 0 sz&&Nat.beq (len cs) (Nat.mul n sz)))with
     |false=>rw[hb]at e;cases e
     |true=>
      rw[hb]at e
      simp only[cond_true]at e
      obtain⟨rfl,rfl,rfl⟩:=okV_some e
      have key: ∃ cs',fillRow n sz z qs=some cs'/\Vs E H.next cs cs':=by
       unfold fillRowS at hc
       unfold fillRow
       rw[len_eq,<-h2,<-len_eq]
       cases hq:Nat.beq (len vs) n with
       |true=>
        rw[hq]at hc
        simp only[cond_true]at hc ⊢
        split at hc
        ·rename_i q hqq
         cases hc
         obtain⟨r',a,b⟩:=fillSS_ok h2 h3 hqq
         rw[a];exact⟨r',rfl,b⟩
        ·rename_i hqq
         obtain⟨a,b⟩:=scale_ok (size:=sz) h2 h3
         obtain⟨r',c,d⟩:=fillGS_ok a b (repS_ok (ofAs_ok hz) n) hc
         cases hf:fillS sz qs 0 with
         |none=>exact⟨r',c,d⟩
         |some w=>
          exfalso
          have back: ∀ {ps:List (Nat×Sv)} {qs:List (Nat×AV)} {k:Nat} {w:List AV},ps.length=qs.length->(∀ (i:Nat) (p:Nat×Sv),ps[i]? =some p-> ∃ q:Nat×AV,qs[i]? =some q/\q.1=p.1/\V E H.next p.2 q.2)->fillS sz qs k=some w-> ∃ r,fillSS sz ps k=some r:=by
           intro ps
           induction ps with
           |nil=>intro qs k w _ _ _;exact⟨[],rfl⟩
           |cons p ps ih=>
            intro qs k w hl hq e
            cases qs with
            |nil=>cases hl
            |cons q qs=>
             obtain⟨q',hq1,h1,hv⟩:=hq 0 p rfl
             cases hq1
             change (bif Nat.beq q.1 k&&Nat.beq (len q.2.cells) sz then(match fillS sz qs (Nat.add k 1)with|some r=>some (app q.2.cells r)|none=>none)else none)=some w at e
             obtain⟨hb,e⟩:=condS e
             split at e
             ·rename_i s hs
              obtain⟨r,hr⟩:=ih (by simpa using hl) (fun i p hp=>hq (i+1) p hp) hs
              refine⟨app p.2.cells r,?_⟩
              show(bif Nat.beq p.1 k&&Nat.beq (len p.2.cells) sz then(match fillSS sz ps (Nat.add k 1)with|some r=>some (app p.2.cells r)|none=>none)else none)=_
              rw[len_eq,hv.cells.length,<-h1,<-len_eq,hb,cond_true,hr]
             ·cases e
          obtain⟨r,hr⟩:=back h2 h3 hf
          rw[hqq]at hr
          cases hr
       |false=>
        rw[hq]at hc
        simp only[cond_false]at hc ⊢
        obtain⟨a,b⟩:=scale_ok (size:=sz) h2 h3
        exact fillGS_ok a b (repS_ok (ofAs_ok hz) n) hc
      obtain⟨cs',k1,k2⟩:=key
      obtain⟨S,X⟩:=add_o hH (l:=cs) (rw:=ofL cs') (by rw[toL_ofL];exact k2)
      refine⟨_,_,_,Ev.const ?_,X,S,.xo (id:=h.next) (Nat.lt_succ_self _) (by show(if H.next=H.next then _ else _:Kr).av=_;rw[if_pos rfl]),hT.mono X.e X.le⟩
      unfold kRow
      rw[h1]
      simp only[hn,cond_false,k1]
    ·cases e
   ·cases e
 ·cases e
end Lf
end Go.Ab

noncomputable section
namespace Go.Ab
namespace Lf
theorem own_setN{H:Hq}{r:Nat}{R:Row}(hl:R.live=false){q:Nat}(o:own (setQ H r (some R)) q):q≠r/\own H q:=by
 obtain⟨R',a,b⟩:=o
 rw[setQ_get]at a
 split at a
 ·cases a;rw[hl]at b;cases b
 ·exact⟨‹_›,R',a,b⟩
def En.fz(E:En)(a:AV)(h:Hp):En:=⟨E.K,E.tk,fun id=>if ido a=some id then h.objs.get id else E.G id,E.A⟩
inductive Frz:Row->Row->Prop
 |l {t x}:Frz (.l t x) (.z t x)
 |o {g l}:Frz (.o g l) (.zo l)
theorem freeze_ok{E:En}{H:Hq}{h:Hp}(S:SR E H h){r:Nat}{R R':Row}(hr:H.objs.get r=some R)(f:Frz R R'):
 SR (E.fz (E.K r).av h) (setQ H r (some R')) h/\Nx E (E.fz (E.K r).av h) H (setQ H r (some R')) h h:=by
 have lv:R.live=true:=by cases f<;>rfl
 have lv':R'.live=false:=by cases f<;>rfl
 have hg:GLe E.G (E.fz (E.K r).av h).G:=by
  intro id row e
  show(if _ then _ else _)=_
  split
  ·rename_i c;exact((S.g id row e).2.2 r ⟨R,hr,lv⟩ c).elim
  ·exact e
 have le:ELe E (E.fz (E.K r).av h) H.next:=⟨fun _ _=>rfl,fun _ _=>rfl,hg,rfl⟩
 refine⟨⟨?_,?_,?_,?_⟩,⟨le,Nat.le_refl _,Nat.le_refl _,?_,?_,fun _ _ _=>rfl⟩⟩
 ·intro q Q hq
  rw[setQ_get]at hq
  split at hq
  ·rename_i e;subst e;cases hq
   obtain⟨h1,h2⟩:=S.row _ _ hr
   refine⟨h1,?_⟩
   cases f with
   |l=>exact LR.mono hg (fun id row e k=>by have e':ido (E.K q).av=some id:=e;show(if _ then _ else _)=_;rw[if_pos e'];exact k) h2
   |o=>
    obtain⟨id,row,a,b,c,_⟩:=h2
    exact⟨id,row,a,by show(if _ then _ else _)=_;rw[if_pos (by rw[a];rfl)];exact b,c.mono le (Nat.le_refl _)⟩
  ·obtain⟨h1,h2⟩:=S.row _ _ hq
   exact⟨h1,h2.mono le (Nat.le_refl _) (fun _ _ _ _ e=>e)⟩
 ·intro a b id oa ob ea eb
  exact S.inj a b id (own_setN lv' oa).2 (own_setN lv' ob).2 ea eb
 ·intro a id oa ea
  exact S.lt a id (own_setN lv' oa).2 ea
 ·intro id row e
  have e':(if ido (E.K r).av=some id then h.objs.get id else E.G id)=some row:=e
  split at e'
  ·rename_i c
   refine⟨S.lt r id ⟨R,hr,lv⟩ c,e',fun q oq eq=>?_⟩
   exact(own_setN lv' oq).1 (S.inj q r id (own_setN lv' oq).2 ⟨R,hr,lv⟩ eq c)
  ·obtain⟨a,b,c⟩:=S.g id row e'
   exact⟨a,b,fun q oq=>c q (own_setN lv' oq).2⟩
 ·intro q id oq eq
  exact .inl ⟨q,(own_setN lv' oq).2,eq⟩
 ·intro id row e
  have e':(if ido (E.K r).av=some id then h.objs.get id else E.G id)=some row:=e
  split at e'
  ·rename_i c;exact .inr (.inl ⟨r,⟨R,hr,lv⟩,c⟩)
  ·exact .inl e'
structure Fz(E E':En)(H H':Hq)(h:Hp):Prop where
 K:E'.K=E.K
 tk:E'.tk=E.tk
 n:H'.next=H.next
 S:SR E' H' h
 X:Nx E E' H H' h h
theorem Fz.refl{E:En}{H:Hq}{h:Hp}(S:SR E H h):Fz E E H H h:=⟨rfl,rfl,rfl,S,Nx.refl _ _ _⟩
theorem Fz.trans{E E1 E2:En}{H H1 H2:Hq}{h:Hp}(a:Fz E E1 H H1 h)(b:Fz E1 E2 H1 H2 h):Fz E E2 H H2 h:=⟨b.K.trans a.K,b.tk.trans a.tk,b.n.trans a.n,b.S,a.X.trans b.X⟩
theorem Fz.g{E E':En}{H H':Hq}{h:Hp}(a:Fz E E' H H' h):GLe E.G E'.G:=a.X.e.G
theorem Fz.v{E E':En}{H H':Hq}{h:Hp}(a:Fz E E' H H' h){v:Sv}{c:AV}(k:V E H.next v c):V E' H'.next v c:=k.mono a.X.e a.X.le
theorem Fz.vs{E E':En}{H H':Hq}{h:Hp}(a:Fz E E' H H' h){v:List Sv}{c:List AV}(k:Vs E H.next v c):Vs E' H'.next v c:=k.mono a.X.e a.X.le
theorem freeze_fz{E:En}{H:Hq}{h:Hp}(S:SR E H h){r:Nat}{R R':Row}(hr:H.objs.get r=some R)(f:Frz R R'):Fz E (E.fz (E.K r).av h) H (setQ H r (some R')) h:=
 ⟨rfl,rfl,rfl,(freeze_ok S hr f).1,(freeze_ok S hr f).2⟩
def RdOk(t:Ty)(f:List Sv->Hq->Option (den t×List Sv×Hq)):Prop:= ∀ (E:En) (H:Hq) (h:Hp) (l r:List Sv) (cs:List AV) (x:den t) (H':Hq),SR E H h->Vs E H.next l cs->f l H=some (x,r,H')->
 ∃ E' c d,Fz E E' H H' h/\cs=c++d/\EV E'.G t x c/\Vs E' H'.next r d
theorem rdS_ok{t:Ty}{f:List Sv->Hq->Option (den t×List Sv×Hq)}(hf:RdOk t f): ∀ (n:Nat) (E:En) (H:Hq) (h:Hp) (l:List Sv) (cs:List AV) (x:List (den t)) (H':Hq),SR E H h->Vs E H.next l cs->rdS t f n l H=some (x,H')->
 ∃ E' c d,Fz E E' H H' h/\cs=c++d/\Els (EV E'.G t) x c/\x.length=n
 |0,E,H,h,l,cs,x,H',S,_,e=>by cases e;exact⟨E,[],cs,Fz.refl S,rfl,rfl,rfl⟩
 |n+1,E,H,h,l,cs,x,H',S,hv,e=>by
  change (match f l H with|some (x,r,h)=>(match rdS t f n r h with|some (xs,h)=>some (x::xs,h)|none=>none)|none=>none)=some (x,H')at e
  split at e
  ·rename_i y r H1 hy
   split at e
   ·rename_i ys H2 hys
    cases e
    obtain⟨E1,c1,d1,F1,rfl,v1,w1⟩:=hf E H h l r cs y H1 S hv hy
    obtain⟨E2,c2,d2,F2,rfl,v2,w2⟩:=rdS_ok hf n E1 H1 h r d1 ys H' F1.S w1 hys
    exact⟨E2,c1++c2,d2,F1.trans F2,by simp,⟨c1,c2,rfl,EV.mono F2.g _ _ _ v1,v2⟩,by simp[w2]⟩
   ·cases e
  ·cases e
theorem drop_take_seg{r:Rw}{base k:Nat}{ls:List AV}(s:r.seg base k=some ls){o n:Nat}(h:o+n<=k):r.seg (base+o) n=some ((ls.drop o).take n):=by
 obtain⟨a,b⟩:=seg_iff.1 s
 refine seg_iff.2 ⟨by omega,?_⟩
 rw[b,List.drop_take,List.take_take,List.drop_drop,Nat.min_eq_left (by omega)]
theorem lr_part{G:Nat->Option Rw}{t:Ty}{x:List (den t)}{id base n off m:Nat}{row:Rw}{ls:List AV}(hx:x.length=n)(s:row.seg base (n*size t)=some ls)(e:Els (EV G t) x ls)(h:off+m<=n):
 ((x.drop off).take m).length=m/\row.seg (base+off*size t) (m*size t)=some ((ls.drop (off*size t)).take (m*size t))/\Els (EV G t) ((x.drop off).take m) ((ls.drop (off*size t)).take (m*size t)):=by
 refine⟨by rw[List.length_take,List.length_drop];omega,drop_take_seg s ?_,(e.drop (EV.length t) off).take (EV.length t) m⟩
 rw[<-Nat.add_mul];exact Nat.mul_le_mul_right _ h
theorem lr_os{E:En}{N:Nat}{t:Ty}{x:List (den t)}{r sz:Nat}{a:AV}{S:Nat->Option Rw}(hv:V E N (.os r sz) a)(l:LR E.G t x (E.K r) S):
 (emptyV a=true/\x=[])∨ ∃ id base row ls,a=.hsl id base x.length (size t)/\(E.K r).av=a/\sz=size t/\S id=some row/\row.seg base (x.length*size t)=some ls/\Els (EV E.G t) x ls:=by
 cases hv with
 |os h1 h2=>
  rcases l.2 with k|⟨id,base,row,ls,k1,k2,k3,k4⟩
  ·exact .inl k
  ·rw[l.1]
   rcases h2 with h2|⟨id',base',h2⟩
   ·rw[k1]at h2;cases h2.1
   ·rw[k1]at h2
    injection h2 with _ _ _ a4
    exact .inr ⟨id,base,row,ls,k1,rfl,a4.symm,k2,k3,k4⟩
theorem lr_ss{E:En}{N:Nat}{t:Ty}{x:List (den t)}{r sz off n:Nat}{a:AV}{S:Nat->Option Rw}(hv:V E N (.ss r sz off n) a)(l:LR E.G t x (E.K r) S):
 (emptyV a=true/\n=0/\x=[]/\off=0/\(E.K r).av=a)∨ ∃ id base row ls,a=.hsl id (base+off*size t) n (size t)/\off+n<=x.length/\(E.K r).av=.hsl id base x.length (size t)/\sz=size t/\S id=some row/\row.seg base (x.length*size t)=some ls/\Els (EV E.G t) x ls:=by
 cases hv with
 |se h1 h2 h3 h4=>
  refine .inl ⟨h2,rfl,?_,h4,rfl⟩
  have:=l.1;rw[h3]at this
  exact List.eq_nil_of_length_eq_zero this
 |ss h1 h2 h3=>
  rcases l.2 with k|⟨id,base,row,ls,k1,k2,k3,k4⟩
  ·rw[h2]at k;cases k.1
  ·rw[k1]at h2
   injection h2 with a1 a2 _ a4
   subst a1;subst a2;subst a4
   rw[l.1]
   exact .inr ⟨id,base,row,ls,rfl,h3,k1,rfl,k2,k3,k4⟩
theorem cvs_of_z{E:En}{t:Ty}{x:List (den t)}{a:AV}{id base:Nat}{row:Rw}{ls:List AV}(ha:a=.hsl id base x.length (size t))(hg:E.G id=some row)(s:row.seg base (x.length*size t)=some ls)(e:Els (EV E.G t) x ls):CVs E.G t (EV E.G t) x a:=
 .inr ⟨ls,e,.inr ⟨id,base,row,ha,hg,s⟩⟩
theorem cvs_os{E:En}{N:Nat}{t:Ty}{x:List (den t)}{r sz:Nat}{a:AV}(hv:V E N (.os r sz) a)(l:LR E.G t x (E.K r) E.G):CVs E.G t (EV E.G t) x a:=by
 rcases lr_os hv l with k|⟨id,base,row,ls,k1,_,_,k2,k3,k4⟩
 ·exact .inl k
 ·exact cvs_of_z k1 k2 k3 k4
theorem cvs_ss{E:En}{N:Nat}{t:Ty}{x:List (den t)}{r sz off n:Nat}{a:AV}(hv:V E N (.ss r sz off n) a)(l:LR E.G t x (E.K r) E.G):CVs E.G t (EV E.G t) ((x.drop off).take n) a:=by
 rcases lr_ss hv l with⟨k1,k2,k3,_⟩|⟨id,base,row,ls,k1,k2,_,_,k3,k4,k5⟩
 ·subst k3;exact .inl ⟨k1,by simp⟩
 ·obtain⟨a1,a2,a3⟩:=lr_part rfl k4 k5 k2 (id:=0)
  refine cvs_of_z (id:=id) (base:=base+off*size t) (row:=row) ?_ k3 ?_ a3
  ·rw[a1];exact k1
  ·rw[a1];exact a2
theorem asL_ok{t:Ty}{f:List Sv->Hq->Option (den t×List Sv×Hq)}(hf:RdOk t f){E:En}{H H':Hq}{h:Hp}{v:Sv}{a:AV}{x:List (den t)}(S:SR E H h)(hv:V E H.next v a)(e:asL t f v H=some (x,H')):
 ∃ E',Fz E E' H H' h/\CVs E'.G t (EV E'.G t) x a:=by
 have xo: ∀ {r sz off n:Nat} {l:List Sv} {E1:En} {H1:Hq} {id:Nat} {row:Rw},Fz E E1 H H1 h->sz=size t->a=.hsl id off n sz->E1.G id=some row->Vs E1 H1.next l row.toL->rdX t f n off l H1=some (x,H')-> ∃ E',Fz E E' H H' h/\CVs E'.G t (EV E'.G t) x a:=by
  intro r sz off n l E1 H1 id row F hsz ha hg hl e
  unfold rdX at e
  obtain⟨hb,e⟩:=condS e
  have hle:=Nat.le_of_ble_eq_true hb
  rw[len_eq]at hle
  rw[dp_eq]at e
  obtain⟨E2,c,d,F2,e1,e2,e3⟩:=rdS_ok hf n E1 H1 h _ _ x H' F.S (hl.drop off) e
  refine⟨E2,F.trans F2,?_⟩
  have hc:=e2.length (EV.length t)
  have hlen:=hl.length
  refine cvs_of_z (id:=id) (base:=off) (row:=row) (ls:=c) (by rw[e3,ha,hsz]) (F2.g _ _ hg) ?_ e2
  refine seg_iff.2 ⟨?_,?_⟩
  ·have:=congrArg List.length e1
   rw[List.length_drop,List.length_append,hc]at this
   rw[<-toL_len];omega
  ·rw[e1,<-hc,List.take_left]
 cases v with
 |a w=>
  obtain⟨hb,e⟩:=condS e
  cases e
  cases hv with
  |a _=>exact⟨E,Fz.refl S,.inl ⟨hb,rfl⟩⟩
 |c m ty y=>
  cases ty with
  |sli t'=>
   change (match teq t' t with|some ⟨e⟩=>some (e▸y,H)|none=>none)=some (x,H')at e
   split at e
   ·rename_i p hp
    cases p
    cases e
    cases hv with
    |c k _=>obtain⟨b,hb,k⟩:=k;cases hb;exact⟨E,Fz.refl S,k⟩
   ·cases e
  | _=>cases e
 |os r s=>
  change (match H.objs.get r with
   |some (.l t' x)=>(match teq t' t with|some ⟨e⟩=>some (e▸x,setQ H r (some (.z t' x)))|none=>none)
   |some (.z t' x)=>(match teq t' t with|some ⟨e⟩=>some (e▸x,H)|none=>none)
   | _=>none)=some (x,H')at e
  split at e
  ·rename_i t' y hr
   split at e
   ·rename_i p hp
    cases p
    cases e
    have F:=freeze_fz S hr .l
    refine⟨_,F,cvs_os (F.v hv) ?_⟩
    have:=F.S.row r (.z t y) (by rw[setQ_get,if_pos rfl])
    exact this.2
   ·cases e
  ·rename_i t' y hr
   split at e
   ·rename_i p hp
    cases p
    cases e
    exact⟨E,Fz.refl S,cvs_os hv (S.row _ _ hr).2⟩
   ·cases e
  ·cases e
 |ss r s off n=>
  change (match H.objs.get r with
   |some (.l t' x)=>(match teq t' t with|some ⟨e⟩=>some (((e▸x:List (den t)).drop off).take n,setQ H r (some (.z t' x)))|none=>none)
   |some (.z t' x)=>(match teq t' t with|some ⟨e⟩=>some (((e▸x:List (den t)).drop off).take n,H)|none=>none)
   | _=>none)=some (x,H')at e
  split at e
  ·rename_i t' y hr
   split at e
   ·rename_i p hp
    cases p
    cases e
    have F:=freeze_fz S hr .l
    refine⟨_,F,cvs_ss (F.v hv) ?_⟩
    have:=F.S.row r (.z t y) (by rw[setQ_get,if_pos rfl])
    exact this.2
   ·cases e
  ·rename_i t' y hr
   split at e
   ·rename_i p hp
    cases p
    cases e
    exact⟨E,Fz.refl S,cvs_ss hv (S.row _ _ hr).2⟩
   ·cases e
  ·cases e
 |xo r sz off n=>
  change (bif Nat.beq sz (size t)then(match H.objs.get r with
   |some (.o _ l)=>rdX t f n off l (setQ H r (some (.zo l)))
   |some (.zo l)=>rdX t f n off l H
   | _=>none)else none)=some (x,H')at e
  obtain⟨hb,e⟩:=condS e
  split at e
  ·rename_i l hr
   have F:=freeze_fz S hr .o
   have k:=(F.S.row r (.zo l) (by rw[setQ_get,if_pos rfl])).2
   obtain⟨id,row,k1,k2,k3⟩:=k
   cases hv with
   |xo h1 h2=>
    have k1':(E.K r).av=.ref id 0:=k1
    rw[h2]at k1';cases k1'
    exact xo (r:=r) F (beq_true hb) rfl k2 k3 e
  ·rename_i l hr
   obtain⟨id,row,k1,k2,k3⟩:=(S.row _ _ hr).2
   cases hv with
   |xo h1 h2=>
    rw[h2]at k1;cases k1
    exact xo (r:=r) (Fz.refl S) (beq_true hb) rfl k2 k3 e
  ·cases e
 | _=>cases e
theorem asT_ok: ∀ (t:Ty),RdOk t (asT t)
 | .int k=>by
  intro E H h l r cs x H' S hv e
  cases l with
  |nil=>cases e
  |cons v l=>
   change (match toN v with|some (k',n)=>(bif eqK k k' then some (n,l,H)else none)|none=>none)=some (x,r,H')at e
   split at e
   ·rename_i k' n hn
    obtain⟨hb,e⟩:=condS e
    cases e
    cases hv with
    |cons a b=>
     have:=v_num a hn
     rw[eqK_iff.1 hb]
     exact⟨E,[_],_,Fz.refl S,rfl,by rw[this];rfl,b⟩
   ·cases e
 | .bool=>by
  intro E H h l r cs x H' S hv e
  cases l with
  |nil=>cases e
  |cons v l=>
   change (match toB v with|some b=>some (b.v,l,H)|none=>none)=some (x,r,H')at e
   split at e
   ·rename_i b hn
    cases e
    cases hv with
    |cons a c=>
     have:=v_bool a hn
     exact⟨E,[_],_,Fz.refl S,rfl,by rw[this];rfl,c⟩
   ·cases e
 | .str=>by
  intro E H h l r cs x H' S hv e
  cases l with
  |nil=>cases e
  |cons v l=>
   change (match toS v with|some (_,s)=>some (s,l,H)|none=>none)=some (x,r,H')at e
   split at e
   ·rename_i b s hn
    cases e
    cases hv with
    |cons a c=>
     have:=v_str a hn
     exact⟨E,[_],_,Fz.refl S,rfl,by rw[this];rfl,c⟩
   ·cases e
 | .sli t=>by
  intro E H h l r cs x H' S hv e
  cases l with
  |nil=>cases e
  |cons v l=>
   change (match asL t (asT t) v H with|some (x,h)=>some (x,l,h)|none=>none)=some (x,r,H')at e
   split at e
   ·rename_i y H1 hy
    cases e
    cases hv with
    |cons a c=>
     obtain⟨E',F,k⟩:=asL_ok (asT_ok t) S a hy
     exact⟨E',[_],_,F,rfl,⟨_,rfl,k⟩,F.vs c⟩
   ·cases e
 | .pair a b=>by
  intro E H h l r cs x H' S hv e
  change (match asT a l H with|some (x,r,h)=>(match asT b r h with|some (y,r,h)=>some ((x,y),r,h)|none=>none)|none=>none)=some (x,r,H')at e
  split at e
  ·rename_i y q H1 hy
   split at e
   ·rename_i z q2 H2 hz
    cases e
    obtain⟨E1,c1,d1,F1,rfl,v1,w1⟩:=asT_ok a E H h l q cs y H1 S hv hy
    obtain⟨E2,c2,d2,F2,rfl,v2,w2⟩:=asT_ok b E1 H1 h q _ d1 z H' F1.S w1 hz
    exact⟨E2,c1++c2,d2,F1.trans F2,by simp,⟨c1,c2,rfl,EV.mono F2.g _ _ _ v1,v2⟩,w2⟩
   ·cases e
  ·cases e
theorem lst_ok{t:Ty}{E:En}{H H':Hq}{h:Hp}{v:Sv}{a:AV}{x:List (den t)}(S:SR E H h)(hv:V E H.next v a)(e:lst t v H=some (x,H')):
 ∃ E',Fz E E' H H' h/\CVs E'.G t (EV E'.G t) x a:=asL_ok (asT_ok t) S hv e
theorem wk_empty{a:AV}(k:emptyV a=true):wkE a=.esl:=by
 cases a with
 |sc v=>have k':isE (.sc v)=true:=k;unfold wkE;rw[k'];rfl
 |esl=>rfl
 |nel=>rfl
 | _=>cases k
theorem cvs_cells{E:En}{H:Hq}{h:Hp}(S:SR E H h){t:Ty}{x:List (den t)}{a:AV}(k:CVs E.G t (EV E.G t) x a): ∃ cs,sliceCells h (wkE a)=some (x.length,cs)/\Els (EV E.G t) x cs:=by
 rcases k with⟨k,rfl⟩|⟨ls,k1,k2⟩
 ·refine⟨[],?_,rfl⟩
  rw[wk_empty k];rfl
 ·rcases k2 with rfl|⟨id,base,row,rfl,g,s⟩
  ·exact⟨ls,rfl,k1⟩
  ·refine⟨ls,?_,k1⟩
   show(match h.objs.get id with|some cs=>(match cs.seg base (Nat.mul x.length (size t))with|some l=>some (x.length,l)|none=>none)|none=>none)=_
   rw[(S.g _ _ g).2.1]
   have s':row.seg base (Nat.mul x.length (size t))=some ls:=s
   simp only[s']
def lenA:AV->Option Nat
 | .hsl _ _ n _=>some n
 | .isl n _=>some n
 | .esl=>some 0
 | _=>none
theorem lenS_ok{E:En}{H:Hq}{h:Hp}(S:SR E H h){v m:Sv}{a:AV}(hv:V E H.next v a)(e:lenS v H=some m): ∃ n:Nat,toN m=some (.i64,(n:Int))/\V E H.next m (.int .i64 n)/\lenA (wkE a)=some n/\(emptyV a=true->n=0):=by
 have row: ∀ {r sz:Nat} {t:Ty} {x:List (den t)} {S':Nat->Option Rw},V E H.next (.os r sz) a->LR E.G t x (E.K r) S'-> ∃ n:Nat,toN (.c 0 (.int .i64) (Int.ofNat x.length))=some (.i64,(n:Int))/\V E H.next (.c 0 (.int .i64) (Int.ofNat x.length)) (.int .i64 n)/\lenA (wkE a)=some n/\(emptyV a=true->n=0):=by
  intro r sz t x S' hv l
  refine⟨x.length,rfl,ci_num,?_⟩
  rcases lr_os hv l with⟨k,rfl⟩|⟨id,base,row,ls,k1,_⟩
  ·rw[wk_empty k];exact⟨rfl,fun _=>rfl⟩
  ·rw[k1];exact⟨rfl,fun k=>by cases k⟩
 cases v with
 |a w=>
  obtain⟨hb,e⟩:=condS e
  cases e
  cases hv with
  |a _=>exact⟨0,rfl,.i,by rw[wk_empty hb];rfl,fun _=>rfl⟩
 |c q ty x=>
  cases ty with
  |sli t=>
   cases e
   refine⟨x.length,rfl,ci_num,?_⟩
   cases hv with
   |c k _=>
    obtain⟨b,hb,k⟩:=k;cases hb
    rcases k with⟨k,hx⟩|⟨ls,k1,k2|⟨_,_,_,k2,_⟩⟩
    ·rw[wk_empty k];subst hx;exact⟨rfl,fun _=>rfl⟩
    ·rw[k2];exact⟨rfl,fun k=>by cases k⟩
    ·rw[k2];exact⟨rfl,fun k=>by cases k⟩
  | _=>cases e
 |os r s=>
  change (match H.objs.get r with|some (.l _ x)=>some (Sv.c 0 (.int .i64) (Int.ofNat x.length))|some (.z _ x)=>some (Sv.c 0 (.int .i64) (Int.ofNat x.length))| _=>none)=some m at e
  split at e
  ·rename_i hr;cases e;exact row hv (S.row _ _ hr).2
  ·rename_i hr;cases e;exact row hv (S.row _ _ hr).2
  ·cases e
 |ss r s off n=>
  cases e
  refine⟨n,rfl,ci_num,?_⟩
  cases hv with
  |se h1 h2 h3 h4=>rw[wk_empty h2];exact⟨rfl,fun _=>rfl⟩
  |ss h1 h2 h3=>exact⟨rfl,fun k=>by cases k⟩
 |xo r s off n=>
  cases e
  cases hv with
  |xo _ _=>exact⟨n,rfl,.i,rfl,fun k=>by cases k⟩
 | _=>cases e
theorem sim_len(a:Od):SimF (sLen a) (fun _ _=>kLen (aOd a)):=sim_same (by
 intro E T t H h v T' H' hT hH e
 unfold sLen at e
 split at e
 ·rename_i w hw
  obtain⟨e1,rfl,rfl⟩:=okO_some e
  obtain⟨c,hc,hcv⟩:=opw_ok hT hw
  obtain⟨n,h1,h2,h3,_⟩:=lenS_ok hH hcv e1
  refine⟨rfl,rfl,_,?_,h2⟩
  unfold kLen
  rw[hc]
  generalize wkE c=y at h3 ⊢
  cases y<;>first|(cases h3;done)|(cases h3;rfl)
 ·cases e)
end Lf
end Go.Ab

noncomputable section
namespace Go.Ab
namespace Lf
theorem eqK_self(k:IntKind):eqK k k=true:=eqK_iff.2 rfl
theorem orS_some{f s:AV->AV->Option AV}{x y r:AV}(h:f x y=some r):orS f s x y=some r:=by unfold orS;rw[h]
theorem bInt_eq{f:IntKind->Int->Int->Option AV}(k:IntKind)(a b:Int):bInt f (.int k a) (.int k b)=f k a b:=by show(bif eqK k k then _ else _)=_;rw[eqK_self];rfl
theorem bits_eq(op:BinOp)(hop:op=.and∨op=.or∨op=.xor)(f:Nat->Nat->Nat)(k:IntKind)(a b:Int): ∃ r,bBits op f (.int k a) (.int k b)=some (.int k r):=by
 unfold bBits
 rw[bInt_eq]
 have hr: ∃ r,ofRun (pureRun (Op.intBits op k a b))=some (.int k r):=by rcases hop with rfl|rfl|rfl<;>exact⟨_,rfl⟩
 split
 ·rename_i a b
  cases hc:(Nat.blt a (lim k)&&Nat.blt b (lim k))with
  |true=>exact⟨_,rfl⟩
  |false=>exact hr
 ·exact hr
theorem intOf_eq{o:Option AV}{k:IntKind}(h: ∃ r,o=some (.int k r)):o=some (.int k (intOf o)):=by obtain⟨r,h⟩:=h;rw[h];rfl
theorem ar_ok{f:BF}{g:IntKind->Int->Int->Int}(h:clsF f=.ar g)(k:IntKind)(a b:Int):f.f (.int k a) (.int k b)=some (.int k (g k a b)):=by
 cases f<;>first|(cases h;done)|skip
 case add=>cases h;exact orS_some (bInt_eq k a b)
 case sub=>cases h;exact orS_some (bInt_eq k a b)
 case mul=>cases h;exact orS_some (bInt_eq k a b)
 case and=>cases h;exact orS_some (intOf_eq (bits_eq .and (.inl rfl) Nat.land k a b))
 case or=>cases h;exact orS_some (intOf_eq (bits_eq .or (.inr (.inl rfl)) Nat.lor k a b))
 case xor=>cases h;exact orS_some (intOf_eq (bits_eq .xor (.inr (.inr rfl)) Nat.xor k a b))
 case andNot=>
  cases h
  have hr: ∃ r,ofRun (pureRun (Op.intBits .andNot k a b))=some (.int k r):=⟨_,rfl⟩
  refine intOf_eq (o:=bAndNot (.int k a) (.int k b)) ?_
  unfold bAndNot;rw[bInt_eq];exact hr
theorem dv_ok{f:BF}{g:IntKind->Int->Int->Int}(h:clsF f=.dv g)(k:IntKind)(a b:Int)(hb: ¬ b=0):f.f (.int k a) (.int k b)=some (.int k (g k a b)):=by
 have hz:eqI b 0=false:=by cases e:eqI b 0 with
  |false=>rfl
  |true=>exact(hb (eqI_iff.1 e)).elim
 cases f<;>first|(cases h;done)|skip
 case quo=>cases h;exact orS_some (by unfold bQuo;rw[bInt_eq,hz];rfl)
 case rem=>cases h;exact orS_some (by unfold bRem;rw[bInt_eq,hz];rfl)
theorem sh_ok{f:BF}{g:IntKind->Int->Int->Int}(h:clsF f=.sh g)(k k':IntKind)(a b:Int)(hb:0<=b):f.f (.int k a) (.int k' b)=some (.int k (g k a b)):=by
 obtain⟨n,rfl⟩:=Int.eq_ofNat_of_zero_le hb
 cases f<;>first|(cases h;done)|skip
 case shl=>cases h;have q:bShl (.int k a) (.int k' (Int.ofNat n))=some (.int k (shlW k a (Int.ofNat n))):=rfl;show orS bShl noS (.int k a) (.int k' (Int.ofNat n))=_;exact orS_some q
 case shr=>cases h;have q:bShr (.int k a) (.int k' (Int.ofNat n))=some (.int k (shrW k a (Int.ofNat n))):=rfl;show orS bShr noS (.int k a) (.int k' (Int.ofNat n))=_;exact orS_some q
theorem cm_ok{f:BF}{g:Int->Int->Bool}(h:clsF f=.cm g)(k:IntKind)(a b:Int):f.f (.int k a) (.int k b)=some (.bool (g a b)):=by
 cases f<;>first|(cases h;done)|skip
 case lss=>cases h;refine orS_some ?_;unfold bLss;rw[bInt_eq,ltI_eq]
 case leq=>cases h;refine orS_some ?_;unfold bLeq;rw[bInt_eq,ltI_eq];simp[<-Int.not_lt]
 case gtr=>cases h;refine orS_some ?_;unfold bGtr;rw[bInt_eq,ltI_eq]
 case geq=>cases h;refine orS_some ?_;unfold bGeq;rw[bInt_eq,ltI_eq];simp[<-Int.not_lt]
 case eqI neg=>
  have he:eqI a b=decide (a=b):=by
   cases e:eqI a b with
   |true=>exact(decide_eq_true (eqI_iff.1 e)).symm
   |false=>refine(decide_eq_false fun q=>?_).symm;rw[eqI_iff.2 q]at e;cases e
  cases neg with
  |false=>cases h;refine orS_some ?_;unfold bEqI;rw[bInt_eq,he];rfl
  |true=>cases h;refine orS_some ?_;unfold bEqI;rw[bInt_eq,he];rfl
section
variable {E:En}{N:Nat}
theorem eqL1_ok{i:Bool}{x y:Sv}{c d:AV}{r:LB}(hx:V E N x c)(hy:V E N y d)(h:eqL1 i x y=some r):eq1 i c d=some r.v:=by
 unfold eqL1 at h
 split at h
 ·split at h
  ·obtain⟨hk,h⟩:=condS h
   cases h
   cases hx;cases hy
   show(bif eqK _ _ then some (eqI _ _)else none)=_
   rw[hk];rfl
  ·split at h
   ·rename_i k a k' b h1 h2
    obtain⟨hk,h⟩:=condS h
    cases h
    rw[v_num hx h1,v_num hy h2]
    show(bif eqK k k' then some (eqI a b)else none)=_
    rw[hk]
    show some (eqI a b)=some (decide (a=b))
    congr 1
    cases e:eqI a b with
    |true=>exact(decide_eq_true (eqI_iff.1 e)).symm
    |false=>refine(decide_eq_false fun q=>?_).symm;rw[eqI_iff.2 q]at e;cases e
   ·cases h
 ·split at h
  ·rename_i h1 h2;cases h;rw[v_bool hx h1,v_bool hy h2];rfl
  ·rename_i a b h1 h2;cases h;rw[v_bool hx h1,v_bool hy h2];rfl
  ·cases h
theorem LB.and_v(a b:LB):(a.and b).v=(a.v&&b.v):=by
 cases a with
 |l a=>cases a<;>cases b<;>rfl
 |t a=>cases b with
  |l b=>cases b<;>simp[LB.and,LB.v]
  |t b=>rfl
theorem eqLs_ok: ∀ {l:List Bool} {xs ys:List Sv} {cs ds:List AV} {r:LB},Vs E N xs cs->Vs E N ys ds->eqLs l xs ys=some r->eqCs l cs ds=some r.v
 | [],_,_,_,_,_,_,_,h=>by cases h;rfl
 |i::l,[],_,_,_,_,_,_,h=>by cases h
 |i::l,_::_,[],_,_,_,_,_,h=>by cases h
 |i::l,x::xs,y::ys,c'::l1,d'::l2,r,.cons hx hxs,.cons hy hys,h=>by
  change (match eqL1 i x y with|some c=>(match eqLs l xs ys with|some d=>some (c.and d)|none=>none)|none=>none)=some r at h
  split at h
  ·rename_i c hc
   split at h
   ·rename_i d hd
    cases h
    have h1:=eqL1_ok hx hy hc
    have h2:=eqLs_ok hxs hys hd
    show(match eq1 i c' d' with|none=>none|some c=>Bool.rec (some false) (eqCs l l1 l2) c)=_
    rw[h1,LB.and_v]
    simp only
    cases c.v with
    |true=>simp[h2]
    |false=>rfl
   ·cases h
  ·cases h
theorem negL_v(neg:Bool)(c:LB):(negL neg c).v=bif neg then !c.v else c.v:=by cases neg<;>cases c<;>rfl
theorem isPt_ok{y:Sv}{d:AV}(hy:V E N y d)(h:isPt y=true):(∃ i o,d=.ref i o)∨ ∃ l,d=.iptr l:=by
 cases hy<;>first|(cases h;done)|exact .inl ⟨_,_,rfl⟩|exact .inr ⟨_,rfl⟩
theorem sBnN_ok{f:BF}{x y v:Sv}{c d:AV}(hx:V E N x c)(hy:V E N y d)(h:(sBnN f x y).val=some v): ∃ r,f.f c d=some r/\V E N v r:=by
 unfold sBnN at h
 split at h
 ·split at h
  ·rename_i hr;cases h;cases hx;cases hy;exact⟨_,hr,.i⟩
  ·rename_i hr;cases h;cases hx;cases hy;exact⟨_,hr,.b⟩
  ·cases h
 ·split at h
  ·rename_i k a k' b h1 h2
   rw[v_num hx h1,v_num hy h2]
   split at h
   ·rename_i g hg
    cases hk:eqK k k' with
    |false=>rw[hk]at h;cases h
    |true=>
     rw[hk]at h;cases h
     have:=eqK_iff.1 hk;subst this
     exact⟨_,ar_ok hg k a b,ci_num⟩
   ·rename_i g hg
    cases hk:eqK k k' with
    |false=>rw[hk]at h;cases h
    |true=>
     rw[hk]at h
     have:=eqK_iff.1 hk;subst this
     simp only[cond_true]at h
     have key: ¬ b=0/\v=.c 0 (.int k) (g k a b):=by
      cases hl:litI y with
      |true=>
       rw[hl]at h
       simp only[cond_true]at h
       cases hz:eqI b 0 with
       |true=>rw[hz]at h;cases h
       |false=>rw[hz]at h;cases h;exact⟨(fun q=>by rw[eqI_iff.2 q]at hz;cases hz),rfl⟩
      |false=>
       rw[hl]at h
       obtain⟨h1,h2⟩:=T.ck_some h
       cases h2
       exact⟨by simpa using h1,rfl⟩
     rw[key.2]
     exact⟨_,dv_ok hg k a b key.1,ci_num⟩
   ·rename_i g hg
    have key:0<=b/\v=.c 0 (.int k) (g k a b):=by
     cases hl:litI y with
     |true=>
      rw[hl]at h
      simp only[cond_true]at h
      cases hz:ltI b 0 with
      |true=>rw[hz]at h;cases h
      |false=>rw[hz]at h;cases h;exact⟨ltI_not.1 hz,rfl⟩
     |false=>
      rw[hl]at h
      obtain⟨h1,h2⟩:=T.ck_some h
      cases h2
      exact⟨by simpa using h1,rfl⟩
    rw[key.2]
    exact⟨_,sh_ok hg k k' a b key.1,ci_num⟩
   ·rename_i g hg
    cases hk:eqK k k' with
    |false=>rw[hk]at h;cases h
    |true=>
     rw[hk]at h;cases h
     have:=eqK_iff.1 hk;subst this
     exact⟨_,cm_ok hg k a b,ci_bool⟩
   ·cases h
  ·cases h
theorem sBn_ok{f:BF}{x y v:Sv}{c d:AV}(hx:V E N x c)(hy:V E N y d)(h:(sBn f x y).val=some v): ∃ r,f.f c d=some r/\V E N v r:=by
 cases f with
 |eqB neg=>
  simp only[sBn]at h
  split at h
  ·rename_i h1 h2;cases h;rw[v_bool hx h1,v_bool hy h2];exact⟨_,rfl,.b⟩
  ·rename_i h1 h2;cases h;rw[v_bool hx h1,v_bool hy h2];cases neg<;>exact⟨_,rfl,ci_bool⟩
  ·cases h
 |eqS neg=>
  simp only[sBn]at h
  split at h
  ·rename_i h1 h2;cases h;rw[v_str hx h1,v_str hy h2];exact⟨_,rfl,.b⟩
  ·rename_i h1 h2;cases h;rw[v_str hx h1,v_str hy h2];cases neg<;>exact⟨_,rfl,ci_bool⟩
  ·cases h
 |eqP neg=>
  simp only[sBn]at h
  split at h
  ·cases h;cases hx;cases hy;exact⟨_,rfl,.b⟩
  ·cases hp:isPt y with
   |false=>rw[hp]at h;cases h
   |true=>
    rw[hp]at h;cases h
    cases hx
    rcases isPt_ok hy hp with⟨_,_,rfl⟩|⟨_,rfl⟩<;>exact⟨_,rfl,.b⟩
  ·cases hp:isPt x with
   |false=>rw[hp]at h;cases h
   |true=>
    rw[hp]at h;cases h
    cases hy
    rcases isPt_ok hx hp with⟨_,_,rfl⟩|⟨_,rfl⟩<;>exact⟨_,rfl,.b⟩
  ·cases h
 |eqN neg=>
  simp only[sBn]at h
  split at h
  ·rename_i v' w
   cases hn:isNil w with
   |false=>rw[hn]at h;cases h
   |true=>
    rw[hn]at h
    simp only[cond_true]at h
    split at h
    ·rename_i b hb
     cases h
     cases hx;cases hy
     refine⟨.bool (bif neg then !b else b),?_,.b⟩
     show(bif isNil _ then Option.rec none (fun b=>some (.bool (bif neg then !b else b))) (eqN1 _)else none:Option AV)=_
     rw[hn,hb];rfl
    ·cases h
  ·rename_i w
   cases hn:isNil w with
   |false=>rw[hn]at h;cases h
   |true=>
    rw[hn]at h
    cases h
    cases hx;cases hy
    refine⟨.bool neg,?_,.b⟩
    simp only[BF.f,bEqN,hn,cond_true]
    cases neg<;>rfl
  ·rename_i t x w
   cases hn:isNil w with
   |false=>rw[hn]at h;cases h
   |true=>
    rw[hn]at h
    obtain⟨hl,h⟩:=Lf.T.ck_some h
    cases h
    cases hy
    refine⟨.bool neg,?_,.b⟩
    simp only[BF.f,bEqN,hn,cond_true]
    cases hx with
    |c k _=>
     obtain⟨a,ea,k⟩:=k
     cases ea
     have hx0: ¬ x.length=0:=fun e=>by rw[e]at hl;cases hl
     rcases k with⟨_,k⟩|⟨ls,_,k|⟨id,base,row,k,_⟩⟩
     ·subst k;exact(hx0 rfl).elim
     ·subst k
      have hb:Nat.beq x.length 0=false:=by revert hl;cases Nat.beq x.length 0<;>simp
      simp only[eqN1,isNil,cond_false,hb]
      cases neg<;>rfl
     ·subst k
      simp only[eqN1,isNil,cond_false]
      cases neg<;>rfl
  ·cases h
 |eqA neg l=>
  simp only[sBn]at h
  split at h
  ·rename_i xs ys
   split at h
   ·rename_i r hr
    cases h
    cases hx with
    |ag hx=>cases hy with
     |ag hy=>
      refine⟨.bool (bif neg then !r.v else r.v),?_,by have:=svB_ok (E:=E) (N:=N) (c:=negL neg r);rw[negL_v]at this;exact this⟩
      show(match eqCs l _ _ with|some c=>some (AV.bool (bif neg then !c else c))|none=>none)=_
      rw[eqLs_ok hx hy hr]
   ·cases h
  ·cases h
 | _=>exact sBnN_ok hx hy h
theorem sUn1_ok{f:UF}{x v:Sv}{c:AV}(hx:V E N x c)(h:sUn1 f x=some v): ∃ r,f.f c=some r/\V E N v r:=by
 unfold sUn1 at h
 split at h
 ·split at h
  ·rename_i h1;cases h;rw[v_bool hx h1];exact⟨_,rfl,.b⟩
  ·rename_i h1;cases h;rw[v_bool hx h1];exact⟨_,rfl,ci_bool⟩
  ·cases h
 ·split at h
  ·cases h;cases hx;exact⟨_,rfl,.i⟩
  ·cases h;rw[v_num hx rfl];exact⟨_,rfl,ci_num⟩
  ·cases h
 ·split at h
  ·cases h;cases hx;exact⟨_,rfl,.i⟩
  ·cases h;rw[v_num hx rfl];exact⟨_,rfl,ci_num⟩
  ·cases h
 ·split at h
  ·cases h;cases hx;exact⟨_,rfl,.i⟩
  ·cases h;rw[v_num hx rfl];exact⟨_,rfl,ci_num⟩
  ·cases h
end
theorem sim_bin(f:BF)(a b:Od):SimF (sBin f a b) (fun _ _=>kBin f.f (aOd a) (aOd b)):=sim_same (by
 intro E T t H h v T' H' hT hH e
 unfold sBin at e
 split at e
 ·rename_i x hx
  split at e
  ·rename_i y hy
   obtain⟨w,e1,e2⟩:=Lf.T.bd_some e
   obtain⟨rfl,rfl,rfl⟩:=okV_some e2
   obtain⟨c,hc,hcv⟩:=opd_ok hT hx
   obtain⟨d,hd,hdv⟩:=opd_ok hT hy
   obtain⟨r,hr,hrv⟩:=sBn_ok hcv hdv e1
   refine⟨rfl,rfl,r,?_,hrv⟩
   show(Option.rec Go.Ab.Ro.bad (fun a'=>Option.rec Go.Ab.Ro.bad (fun b'=>Option.rec Go.Ab.Ro.bad (fun v=>Go.Ab.Ro.ok v h) (f.f a' b')) (aOd b t)) (aOd a t):Go.Ab.Ro)=_
   rw[hc,hd]
   simp only[hr]
  ·cases e
 ·cases e)
theorem sim_un(f:UF)(a:Od):SimF (sUn f a) (fun _ _=>kUn f.f (aOd a)):=sim_same (by
 intro E T t H h v T' H' hT hH e
 unfold sUn at e
 split at e
 ·rename_i x hx
  obtain⟨e1,rfl,rfl⟩:=okO_some e
  obtain⟨c,hc,hcv⟩:=opd_ok hT hx
  obtain⟨r,hr,hrv⟩:=sUn1_ok hcv e1
  refine⟨rfl,rfl,r,?_,hrv⟩
  show(Option.rec Go.Ab.Ro.bad (fun a'=>Option.rec Go.Ab.Ro.bad (fun v=>Go.Ab.Ro.ok v h) (f.f a')) (aOd a t):Go.Ab.Ro)=_
  rw[hc]
  simp only[hr]
 ·cases e)
theorem sim_lenT(a:Od):SimF (sLenT a) (fun _ _=>kLenS (aOd a)):=sim_same (by
 intro E T t H h v T' H' hT hH e
 unfold sLenT at e
 split at e
 ·rename_i x hx
  obtain⟨c,hc,hcv⟩:=opd_ok hT hx
  split at e
  ·rename_i s hs
   obtain⟨rfl,rfl,rfl⟩:=okV_some e
   have:=v_str hcv hs;subst this
   exact⟨rfl,rfl,_,by unfold kLenS;rw[hc],.i⟩
  ·rename_i s hs
   obtain⟨rfl,rfl,rfl⟩:=okV_some e
   have:=v_str hcv hs;subst this
   exact⟨rfl,rfl,_,by unfold kLenS;rw[hc],ci_num⟩
  ·cases e
 ·cases e)
theorem kMin_eq(a b:Od){t:Tm}{h:Hp}{k:IntKind}{m n:Int}(h1:aOd a t=some (.int k m))(h2:aOd b t=some (.int k n)):kMin (aOd a) (aOd b) t h=.ok (.int k (bif ltI n m then n else m)) h:=by
 unfold kMin kBin
 rw[h1,h2]
 have q:=bInt_eq (f:=fun k a b=>some (.int k (bif ltI b a then b else a))) k m n
 simp only[orS_some q]
theorem kMax_eq(a b:Od){t:Tm}{h:Hp}{k:IntKind}{m n:Int}(h1:aOd a t=some (.int k m))(h2:aOd b t=some (.int k n)):kMax (aOd a) (aOd b) t h=.ok (.int k (bif ltI m n then n else m)) h:=by
 unfold kMax kBin
 rw[h1,h2]
 have q:=bInt_eq (f:=fun k a b=>some (.int k (bif ltI a b then b else a))) k m n
 simp only[orS_some q]
theorem mn_eq(m n:Int):(bif ltI n m then n else m)=min m n:=by
 rw[ltI_eq]
 by_cases q:n<m
 ·simp only[decide_eq_true q,cond_true];omega
 ·simp only[decide_eq_false q,cond_false];omega
theorem mx_eq(m n:Int):(bif ltI m n then n else m)=max m n:=by
 rw[ltI_eq]
 by_cases q:m<n
 ·simp only[decide_eq_true q,cond_true];omega
 ·simp only[decide_eq_false q,cond_false];omega
theorem sMin_ok{mx:Bool}{a b:Od}{E:En}{T T':Tq}{t:Tm}{H H':Hq}{v:Sv}(hT:TV E H.next T t)(e:(sMin mx a b T H).val=some (v,T',H')):
 H'=H/\T'=T/\ ∃ k m n,aOd a t=some (.int k m)/\aOd b t=some (.int k n)/\V E H.next v (.int k (bif mx then(bif ltI m n then n else m)else(bif ltI n m then n else m))):=by
 unfold sMin at e
 split at e
 ·rename_i x hx
  split at e
  ·rename_i y hy
   obtain⟨c,hc,hcv⟩:=opd_ok hT hx
   obtain⟨d,hd,hdv⟩:=opd_ok hT hy
   split at e
   ·rename_i k m k' n
    cases hk:eqK k k' with
    |false=>rw[hk]at e;cases e
    |true=>
     rw[hk]at e
     obtain⟨rfl,rfl,rfl⟩:=okV_some e
     have:=eqK_iff.1 hk;subst this
     cases hcv;cases hdv
     exact⟨rfl,rfl,k,m,n,hc,hd,.i⟩
   ·split at e
    ·rename_i k m k' n h1 h2
     cases hk:eqK k k' with
     |false=>rw[hk]at e;cases e
     |true=>
      rw[hk]at e
      obtain⟨rfl,rfl,rfl⟩:=okV_some e
      have:=eqK_iff.1 hk;subst this
      rw[v_num hcv h1]at hc
      rw[v_num hdv h2]at hd
      refine⟨rfl,rfl,k,m,n,hc,hd,?_⟩
      cases mx with
      |true=>simp only[cond_true,mx_eq];exact ci_num
      |false=>simp only[cond_false,mn_eq];exact ci_num
    ·cases e
  ·cases e
 ·cases e
theorem sim_min(a b:Od):SimF (sMin false a b) (fun _ _=>kMin (aOd a) (aOd b)):=sim_same (by
 intro E T t H h v T' H' hT hH e
 obtain⟨rfl,rfl,k,m,n,h1,h2,hv⟩:=sMin_ok hT e
 exact⟨rfl,rfl,_,kMin_eq a b h1 h2,hv⟩)
theorem sim_max(a b:Od):SimF (sMin true a b) (fun _ _=>kMax (aOd a) (aOd b)):=sim_same (by
 intro E T t H h v T' H' hT hH e
 obtain⟨rfl,rfl,k,m,n,h1,h2,hv⟩:=sMin_ok hT e
 exact⟨rfl,rfl,_,kMax_eq a b h1 h2,hv⟩)
end Lf
end Go.Ab
