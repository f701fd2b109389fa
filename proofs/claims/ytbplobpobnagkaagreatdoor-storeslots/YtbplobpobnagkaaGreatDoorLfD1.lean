import Derived.Test.YtbplobpobnagkaaGreatDoorAb35
noncomputable section
namespace Go.Ab
namespace Lf
section
variable {E:En}{N:Nat}
theorem MP{a:AV}{b:Sv}(h:ofA a=some b):V E N b a:=by
 unfold ofA at h
 split at h
 ·cases h;exact .i
 ·cases h;exact .b
 ·cases h;exact .a rfl
 ·cases h;exact .a rfl
 ·cases h;exact .a rfl
 ·cases h;exact .tu .nil
 ·cases h;exact .fn .nil
 ·cases h
theorem uF{l:List AV}: ∀ {m:List Sv},Jx l=some m->Vs E N m l:=by
 induction l with
 |nil=>intro m h;cases h;exact .nil
 |cons a l ih=>
  intro m h
  change (match ofA a with|some b=>(match Jx l with|some r=>some (b::r)|none=>none)|none=>none)=some m at h
  split at h
  ·rename_i b hb
   split at h
   ·rename_i r hr;cases h;exact .cons (MP hb) (ih hr)
   ·cases h
  ·cases h
theorem bB{T:Tq}{t:Tm}(hT:TV E N T t){o:Od}{a:Sv}(h:j5 o T=some a): ∃ c,bF o t=some c/\V E N a c:=by
 cases o with
 |t i=>
  change (bif Nat.blt i 512 then T.at i else none)=some a at h
  obtain⟨hi,h⟩:=bV h
  exact hT i a (bO.1 hi) h
 |c v=>exact⟨v,rfl,MP h⟩
 |zz=>cases h
 |w o=>cases h
theorem nV{T:Tq}{t:Tm}(hT:TV E N T t){o:Od}{a:Sv}(h:opw o T=some a): ∃ c,bF o t=some (vq c)/\V E N a c:=by
 cases o with
 |w o=>
  obtain⟨c,hc,hv⟩:=bB hT (o:=o) h
  refine⟨c,?_,hv⟩
  show(Option.rec none (fun a=>some (vq a)) (bF o t):Option AV)=_
  rw[hc]
 | _=>cases h
theorem BE{T:Tq}{t:Tm}(hT:TV E N T t): ∀ {l:List Od} {vs:List Sv},Mu l T=some vs->(∃ cs,vr (l.map bF) t=some cs/\Vs E N vs cs):=by
 intro l
 induction l with
 |nil=>intro vs h;cases h;exact⟨[],rfl,.nil⟩
 |cons o l ih=>
  intro vs h
  change (match j5 o T with|some v=>(match Mu l T with|some vs=>some (v::vs)|none=>none)|none=>none)=some vs at h
  split at h
  ·rename_i v hv
   split at h
   ·rename_i us hu
    cases h
    obtain⟨c,hc,gh⟩:=bB hT hv
    obtain⟨cs,pD,Ya⟩:=ih hu
    refine⟨c::cs,?_,.cons gh Ya⟩
    show(Option.rec none (fun v=>Option.rec none (fun vs=>some (v::vs)) (vr (l.map bF) t)) (bF o t):Option (List AV))=_
    rw[hc,pD]
   ·cases h
  ·cases h
theorem iB{v:Sv}{x:LB}{a:AV}(h:V E N v a)(e:toB v=some x):a=.bool x.v:=by
 cases h with
 |b=>cases e;rfl
 |c k _=>
  unfold toB at e
  split at e
  ·rename_i h;cases h
  ·rename_i h;cases h;cases e
   have k':[a]=[AV.bool _]:=k
   injection k'
  ·cases e
 | _=>cases e
theorem iD{v:Sv}{k:IntKind}{n:Int}{a:AV}(h:V E N v a)(e:toN v=some (k,n)):a=.int k n:=by
 cases h with
 |i=>cases e;rfl
 |c q _=>
  unfold toN at e
  split at e
  ·rename_i h;cases h
  ·rename_i h;cases h;cases e
   have k':[a]=[AV.int _ _]:=q
   injection k'
  ·cases e
 | _=>cases e
theorem qu{v:Sv}{l:Bool}{s:ByteArray}{a:AV}(h:V E N v a)(e:toS v=some (l,s)):a=.sc (.string s):=by
 cases h with
 |a h=>
  unfold toS at e
  split at e
  ·rename_i h;cases h;cases e;rfl
  ·rename_i h;cases h
  ·cases e
 |c q _=>
  unfold toS at e
  split at e
  ·rename_i h;cases h
  ·rename_i h;cases h;cases e
   have k':[a]=[AV.sc (.string _)]:=q
   injection k'
  ·cases e
 | _=>cases e
theorem gm{k:IntKind}{n:Int}:V E N (.c 0 (.int k) n) (.int k n):=.c rfl fun h=>(h rfl).elim
theorem lW{b:Bool}:V E N (.c 0 .bool b) (.bool b):=.c rfl fun h=>(h rfl).elim
theorem Yb{c:LB}:V E N (svB c) (.bool c.v):=by cases c with
 |l b=>exact .b
 |t b=>exact lW
theorem vM{α:Type}{j:Od}{T:Tq}{t:Tm}{a b:Tq->Lf.T α}{r:α}(hT:TV E N T t)(h:(tp j T a b).val=some r):
 ∃ c T1,bF j t=some (.bool c)/\TV E N T1 t/\(c=true->(a T1).val=some r)/\(c=false->(b T1).val=some r):=by
 unfold tp at h
 split at h
 ·rename_i i
  cases hb:Nat.blt i 512 with
  |false=>rw[hb]at h;cases h
  |true=>
   rw[hb]at h
   simp only[cond_true]at h
   split at h
   ·rename_i c hc
    obtain⟨x,hx,hv⟩:=hT i _ (bO.1 hb) hc
    cases hv
    refine⟨c,T,hx,hT,fun e=>?_,fun e=>?_⟩<;>subst e<;>exact h
   ·rename_i m x hc
    obtain⟨y,hy,hv⟩:=hT i _ (bO.1 hb) hc
    have:=iB hv rfl
    subst this
    have key: ∀ c:Bool,c=x->TV E N (T.put i (some (.b c))) t:=by
     intro c hcx j v hj hv
     rw[Tq.jF _ _ _ _ (bO.1 hb) hj]at hv
     split at hv
     ·rename_i e;subst e;cases hv;exact⟨_,hy,by rw[hcx];exact .b⟩
     ·exact hT j v hj hv
    cases x with
    |true=>exact⟨true,_,hy,key true rfl,fun _=>h,fun e=>by cases e⟩
    |false=>exact⟨false,_,hy,key false rfl,(fun e=>by cases e),fun _=>h⟩
   ·cases h
 ·rename_i c
  refine⟨c,T,rfl,hT,fun e=>?_,fun e=>?_⟩<;>subst e<;>exact h
 ·cases h
theorem yr(x:Od):fg (ym x) (fun _ _=>aa (bF x)):=dh (by
 intro E T t H h v T' H' hT hH e
 unfold ym okO at e
 split at e
 ·rename_i v' hv
  cases e
  obtain⟨c,hc,gh⟩:=bB hT hv
  refine⟨rfl,rfl,c,?_,gh⟩
  show(Option.rec Go.Ab.Ro.bad (fun v=>Go.Ab.Ro.ok v h) (bF x t):Go.Ab.Ro)=_
  rw[hc]
 ·cases e)
theorem MQ(c a b:Od):fg (VS c a b) (fun _ _=>aW (bF c) (bF a) (bF b)):=by
 intro E T t H h v T' H' hT hH e
 obtain⟨x,T1,hx,tT,h1,h2⟩:=vM hT e
 have hk:aW (bF c) (bF a) (bF b) t h=bif x then aa (bF a) t h else aa (bF b) t h:=by unfold aW;rw[hx]
 cases x with
 |true=>
  obtain⟨c',h',E',e1,e2⟩:=yr a E T1 t H h v T' H' tT hH (h1 rfl)
  exact⟨c',h',E',by simp only[hk];exact e1,e2⟩
 |false=>
  obtain⟨c',h',E',e1,e2⟩:=yr b E T1 t H h v T' H' tT hH (h2 rfl)
  exact⟨c',h',E',by simp only[hk];exact e1,e2⟩
theorem mR{v:Option Sv}{t T':Tq}{h H':Hq}{w:Sv}(e:(okO v t h).val=some (w,T',H')):v=some w/\T'=t/\H'=h:=by
 unfold okO at e
 split at e
 ·cases e;exact⟨rfl,rfl,rfl⟩
 ·cases e
theorem aX{v:Sv}{t T':Tq}{h H':Hq}{w:Sv}(e:(okV v t h).val=some (w,T',H')):v=w/\T'=t/\H'=h:=by cases e;exact⟨rfl,rfl,rfl⟩
theorem Dw(a:Od)(i:Nat):fg (uB a i) (fun _ _=>aO (bF a) i):=dh (by
 intro E T t H h v T' H' hT hH e
 unfold uB at e
 split at e
 ·rename_i vs hv
  obtain⟨e1,rfl,rfl⟩:=mR e
  obtain⟨c,hc,gh⟩:=bB hT hv
  cases gh with
  |tu k=>
   rw[gH]at e1
   obtain⟨c,h1,h2⟩:=k.get e1
   refine⟨rfl,rfl,c,?_,h2⟩
   unfold aO
   rw[hc]
   simp only[gH,h1]
 ·cases e)
theorem JE(off size:Nat)(agg:Bool)(a:Od):fg (BA off size agg a) (fun _ _=>nP off size agg (bF a)):=dh (by
 intro E T t H h v T' H' hT hH e
 unfold BA at e
 split at e
 ·rename_i vs hv
  obtain⟨e1,rfl,rfl⟩:=mR e
  obtain⟨c,hc,gh⟩:=bB hT hv
  cases gh with
  |ag k=>
   obtain⟨c,h1,h2⟩:=oD k e1
   refine⟨rfl,rfl,c,?_,h2⟩
   unfold nP
   rw[hc]
   simp only[h1]
 ·cases e)
theorem Yc(f:FuncId)(cap:List Od):fg (sFn f cap) (fun _ _=>Qc f (cap.map bF)):=dh (by
 intro E T t H h v T' H' hT hH e
 unfold sFn at e
 split at e
 ·rename_i vs hv
  obtain⟨rfl,rfl,rfl⟩:=aX e
  obtain⟨c,hc,gh⟩:=BE hT hv
  refine⟨rfl,rfl,_,?_,.fn gh⟩
  unfold Qc
  rw[hc]
 ·cases e)
theorem R7(a:Od):fg (HI a) (fun _ _=>bt (bF a)):=dh (by
 intro E T t H h v T' H' hT hH e
 unfold HI at e
 split at e
 all_goals first
  |(cases e;done)
  |(rename_i hv
    obtain⟨rfl,rfl,rfl⟩:=aX e
    obtain⟨c,hc,gh⟩:=bB hT hv
    refine⟨rfl,rfl,c,?_,gh⟩
    unfold bt
    rw[hc]
    cases gh<;>rfl))
theorem zL(off:Nat)(a:Od):fg (pS off a) (fun _ _=>ab off (bF a)):=dh (by
 intro E T t H h v T' H' hT hH e
 unfold pS at e
 split at e
 ·rename_i r o hv
  obtain⟨rfl,rfl,rfl⟩:=aX e
  obtain⟨c,hc,gh⟩:=bB hT hv
  cases gh with
  |rf h1 h2=>exact⟨rfl,rfl,_,by unfold ab;rw[hc],.rf h1 h2⟩
 ·rename_i r s i o hv
  obtain⟨rfl,rfl,rfl⟩:=aX e
  obtain⟨c,hc,gh⟩:=bB hT hv
  cases gh with
  |re h1 h2 h3=>exact⟨rfl,rfl,_,by unfold ab;rw[hc],by have:=V.re (o:=o+off) h1 h2 h3;rw[<-Nat.add_assoc]at this;exact this⟩
 ·rename_i l hv
  cases hb:Nat.ble off (len l)with
  |false=>rw[hb]at e;cases e
  |true=>
   rw[hb]at e
   obtain⟨rfl,rfl,rfl⟩:=aX e
   have hle:off<=l.length:=by have:=Nat.le_of_ble_eq_true hb;rwa [bW]at this
   obtain⟨c,hc,gh⟩:=bB hT hv
   rw[j3]
   cases gh with
   |zp k=>
    rename_i l' r
    refine⟨rfl,rfl,_,by unfold ab;rw[hc],?_⟩
    rw[j3,List.drop_append_of_le_length (by rw[<-k.length];exact hle)]
    exact .zp (k.drop off)
   |zr k g s=>
    rename_i l' id o row
    refine⟨rfl,rfl,_,by unfold ab;rw[hc],?_⟩
    refine .zr (k.drop off) g ?_
    obtain⟨s1,s2⟩:=eS.1 s
    rw[List.length_drop]
    refine eS.2 ⟨by have e1:Nat.add o off=o+off:=rfl;omega,?_⟩
    rw[s2,List.drop_take,List.drop_drop]
    rfl
 ·cases e)
end
end Lf
end Go.Ab

noncomputable section
namespace Go.Ab
namespace Lf
theorem kS{H:Hq}{R:Row}{i:Nat}:(eI H R).aP.get i=if i=H.next then some R else H.aP.get i:=Tr.j2 _ _ _ _
theorem fp{H:Hq}{r i:Nat}{R:Option Row}:(jq H r R).aP.get i=if i=r then R else H.aP.get i:=Tr.j2 _ _ _ _
theorem gn{h:Hp}{cs:Rw}{i:Nat}:(dy h cs).aP.get i=if i=h.next then some cs else h.aP.get i:=Tr.j2 _ _ _ _
theorem jO{h:Hp}{r i:Nat}{cs:Option Rw}:(jE h r cs).aP.get i=if i=r then cs else h.aP.get i:=Tr.j2 _ _ _ _
theorem LR.mono{G G':Nat->Option Rw}{S S':Nat->Option Rw}(hg:R5 G G'){t:Ty}{x:List (den t)}{k:Kr}(hs: ∀ id row,lE k.av=some id->S id=some row->S' id=some row)(h:LR G t x k S):LR G' t x k S':=by
 refine⟨h.1,?_⟩
 rcases h.2 with h2|⟨id,base,row,ls,e,s,g,l⟩
 ·exact .inl h2
 ·exact .inr ⟨id,base,row,ls,e,hs _ _ (by rw[e];rfl) s,g,l.mono (EV.mono hg t)⟩
theorem RV.mono{E E':En}{N N':Nat}{h h':Hp}{k:Kr}{R:Row}(e:xq E E' N)(hN:N<=N')(hs:R.live=true-> ∀ id row,lE k.av=some id->h.aP.get id=some row->h'.aP.get id=some row)(r:RV E N h k R):RV E' N' h' k R:=by
 cases R with
 |o g l=>obtain⟨id,row,a,b,c,d⟩:=r;exact⟨id,row,a,hs rfl _ _ (by rw[a];rfl) b,c.mono e hN,by rw[e.A];exact d⟩
 |zo l=>obtain⟨id,row,a,b,c⟩:=r;exact⟨id,row,a,e.G _ _ b,c.mono e hN⟩
 |l t x=>exact LR.mono e.G (hs rfl) r
 |z t x=>exact LR.mono e.G (fun id row _ k=>e.G _ _ k) r
def En.row(E:En)(r:Nat)(k:Kr):En:=⟨fun i=>if i=r then k else E.K i,E.tk,E.G,E.A⟩
theorem En.qT(E:En)(r:Nat)(k:Kr):xq E (E.row r k) r:=⟨fun i hi=>if_neg (by omega),fun _ _=>rfl,fun _ _ e=>e,rfl⟩
theorem kT{E:En}{H:Hq}{h:Hp}(S:SR E H h){H1:Hq}(Yd:H1.next=H.next)(Ye: ∀ r R,H1.aP.get r=some R->H.aP.get r=some R){k:Kr}{R:Row}{h':Hp}(hn:h.next<=h'.next)
 (hJ: ∀ id,id<h.next->(∀ r,own H r-> ¬ own H1 r->lE (E.K r).av≠some id)->h'.aP.get id=h.aP.get id)
 (jG: ∀ id,lE k.av=some id->id<h'.next/\(h.next<=id∨ ∃ r,own H r/\ ¬ own H1 r/\lE (E.K r).av=some id))
 (hR:RV E H.next h' k R)(live:R.live=true):SR (E.row H.next k) (eI H1 R) h'/\Nx E (E.row H.next k) H (eI H1 R) h h':=by
 have hle:=En.qT E H.next k
 have MR: ∀ r,own H1 r->own H r:=fun r ⟨R,a,b⟩=>⟨R,Ye _ _ a,b⟩
 have og: ∀ r,own (eI H1 R) r->r=H.next∨(r<H.next/\own H1 r):=by
  rintro r ⟨R',a,b⟩
  rw[kS,Yd]at a
  split at a
  ·exact .inl ‹_›
  ·exact .inr ⟨(S.row _ _ (Ye _ _ a)).1,R',a,b⟩
 have A3: ∀ r,own H1 r-> ∀ id,lE (E.K r).av=some id->h'.aP.get id=h.aP.get id:=by
  intro r o id e
  refine hJ id (S.lt r id (MR r o) e) fun r' o' n' e'=>?_
  exact n' (by rw[S.inj r' r id o' (MR r o) e' e];exact o)
 have adm: ∀ id row,E.G id=some row->h'.aP.get id=some row:=by
  intro id row e
  obtain⟨a,b,c⟩:=S.g id row e
  rw[hJ id a fun r o _=>c r o,b]
 have K0:(E.row H.next k).K H.next=k:=if_pos rfl
 have K1: ∀ r,r<H.next->(E.row H.next k).K r=E.K r:=fun r hr=>if_neg (by omega)
 refine⟨⟨?_,?_,?_,?_⟩,⟨hle,?_,hn,?_,?_,?_⟩⟩
 ·intro r R' hr
  rw[kS,Yd]at hr
  split at hr
  ·rename_i e
   cases hr
   subst e
   rw[K0]
   exact⟨by show _<Nat.add H1.next 1;rw[Yd];exact Nat.lt_succ_self _,RV.mono hle (by show _<=Nat.add H1.next 1;rw[Yd];exact Nat.le_succ _) (fun _ _ _ _ e=>e) hR⟩
  ·have h0:=S.row _ _ (Ye _ _ hr)
   refine⟨by show _<Nat.add H1.next 1;rw[Yd];exact Nat.lt_succ_of_lt h0.1,?_⟩
   rw[K1 _ h0.1]
   exact RV.mono hle (by show _<=Nat.add H1.next 1;rw[Yd];exact Nat.le_succ _) (fun lv id row e1 e2=>by rw[A3 r ⟨R',hr,lv⟩ id e1];exact e2) h0.2
 ·intro r r' id o o' e e'
  rcases og r o with a|⟨a1,a2⟩<;>rcases og r' o' with b|⟨b1,b2⟩
  ·rw[a,b]
  ·subst a
   rw[K0]at e;rw[K1 _ b1]at e'
   rcases(jG id e).2 with c|⟨q,q1,q2,q3⟩
   ·have:=S.lt _ _ (MR _ b2) e';omega
   ·exact(q2 (by rw[S.inj q r' id q1 (MR _ b2) q3 e'];exact b2)).elim
  ·subst b
   rw[K0]at e';rw[K1 _ a1]at e
   rcases(jG id e').2 with c|⟨q,q1,q2,q3⟩
   ·have:=S.lt _ _ (MR _ a2) e;omega
   ·exact(q2 (by rw[S.inj q r id q1 (MR _ a2) q3 e];exact a2)).elim
  ·rw[K1 _ a1]at e;rw[K1 _ b1]at e'
   exact S.inj r r' id (MR _ a2) (MR _ b2) e e'
 ·intro r id o e
  rcases og r o with a|⟨a1,a2⟩
  ·subst a;rw[K0]at e;exact(jG id e).1
  ·rw[K1 _ a1]at e;exact Nat.lt_of_lt_of_le (S.lt _ _ (MR _ a2) e) hn
 ·intro id row e
  obtain⟨a,b,c⟩:=S.g id row e
  refine⟨Nat.lt_of_lt_of_le a hn,adm id row e,fun r o e2=>?_⟩
  rcases og r o with q|⟨q1,q2⟩
  ·subst q;rw[K0]at e2
   rcases(jG id e2).2 with w|⟨w,w1,w2,w3⟩
   ·omega
   ·exact c _ w1 w3
  ·rw[K1 _ q1]at e2;exact c r (MR _ q2) e2
 ·show H.next<=Nat.add H1.next 1;rw[Yd];exact Nat.le_succ _
 ·intro r id o e
  rcases og r o with a|⟨a1,a2⟩
  ·subst a;rw[K0]at e
   rcases(jG id e).2 with w|⟨w,w1,w2,w3⟩
   ·exact .inr w
   ·exact .inl ⟨w,w1,w3⟩
  ·rw[K1 _ a1]at e;exact .inl ⟨r,MR _ a2,e⟩
 ·exact fun id row e=>.inl e
 ·exact fun id hi hn=>hJ id hi fun r o _=>hn r o
theorem HN{E:En}{H:Hq}{h:Hp}(S:SR E H h){k:Kr}{R:Row}{rw:Rw}(hk:lE k.av=some h.next∨lE k.av=none)
 (hR:RV E H.next (dy h rw) k R)(live:R.live=true):SR (E.row H.next k) (eI H R) (dy h rw)/\Nx E (E.row H.next k) H (eI H R) h (dy h rw):=by
 refine kT S rfl (fun _ _ e=>e) (Nat.le_succ _) (fun id hi _=>?_) (fun id e=>?_) hR live
 ·rw[gn,if_neg (by omega)]
 ·rcases hk with hk|hk
  ·rw[hk]at e;cases e;exact⟨Nat.lt_succ_self _,.inl (Nat.le_refl _)⟩
  ·rw[hk]at e;cases e
theorem MS{E:En}{H:Hq}{h:Hp}(S:SR E H h){l:List Sv}{rw:Rw}(hv:Vs E H.next l rw.toL):
 SR (E.row H.next ⟨.ref h.next 0,0⟩) (eI H (.o 0 l)) (dy h rw)/\Nx E (E.row H.next ⟨.ref h.next 0,0⟩) H (eI H (.o 0 l)) h (dy h rw):=
 HN S (.inl rfl) ⟨h.next,rw,rfl,by rw[gn,if_pos rfl],hv,fun h=>(h rfl).elim⟩ rfl
theorem VW{E:En}{H:Hq}{h:Hp}(S:SR E H h){t:Ty}{x:List (den t)}{rw:Rw}(hv:kR (EV E.G t) x rw.toL):
 SR (E.row H.next ⟨.ff h.next 0 x.length (size t),x.length⟩) (eI H (.l t x)) (dy h rw)/\Nx E (E.row H.next ⟨.ff h.next 0 x.length (size t),x.length⟩) H (eI H (.l t x)) h (dy h rw):=by
 have hl:=hv.length (EV.length t)
 refine HN S (.inl rfl) ⟨rfl,.inr ⟨h.next,0,rw,rw.toL,rfl,by rw[gn,if_pos rfl],?_,hv⟩⟩ rfl
 refine eS.2 ⟨by rw[<-eO,hl,Nat.zero_add];exact Nat.le_refl _,?_⟩
 show _=List.take (x.length*size t) _
 rw[<-hl,List.drop_zero,List.take_length]
theorem TV.put{E:En}{N:Nat}{T:Tq}{t:Tm}(h:TV E N T t){i:Nat}{v:Sv}{a:AV}(hi:i<512)(hv:V E N v a):TV E N (T.put i (some v)) (t.put i (some a)):=by
 intro j w hj hw
 rw[Tq.jF _ _ _ _ hi hj]at hw
 rw[Tm.jF _ _ _ _ hi hj]
 split at hw
 ·rename_i e;cases hw;exact⟨a,if_pos e,hv⟩
 ·rename_i e;rw[if_neg e];exact h j w hj hw
theorem R8(cs:List AV):fg (XX cs) (fun _ _=>dJ cs):=by
 intro E T t H h v T' H' hT hH e
 unfold XX at e
 split at e
 ·rename_i l hl
  obtain⟨rfl,rfl,rfl⟩:=aX e
  obtain⟨S,X⟩:=MS hH (l:=l) (rw:=xe cs) (by rw[iO];exact uF hl)
  exact⟨_,_,_,Ev.const rfl,X,S,.rf (Nat.lt_succ_self _) (by show(if H.next=H.next then _ else _:Kr).av=_;rw[if_pos rfl]),hT.mono X.e X.le⟩
 ·cases e
theorem R9(x:Od):fg (XY x) (fun _ _=>dV (bF x)):=by
 intro E T t H h v T' H' hT hH e
 unfold XY at e
 split at e
 ·rename_i w hw
  obtain⟨rfl,rfl,rfl⟩:=aX e
  obtain⟨c,hc,gh⟩:=bB hT hw
  obtain⟨S,X⟩:=MS hH (l:=w.cells) (rw:=xe c.cells) (by rw[iO];exact gh.cells)
  refine⟨_,_,_,Ev.const ?_,X,S,.rf (Nat.lt_succ_self _) (by show(if H.next=H.next then _ else _:Kr).av=_;rw[if_pos rfl]),hT.mono X.e X.le⟩
  unfold dV
  rw[hc]
 ·cases e
theorem Sa(l:List Sv)(off:Nat)(new:List Sv):lV l off new=l.take off++(new++l.drop (off+new.length)):=by
 unfold lV;rw[bp,bp,qO,j3,bW];rfl
theorem Vs.put{E:En}{N:Nat}{l:List Sv}{l':List AV}{m:List Sv}{m':List AV}(h:Vs E N l l')(k:Vs E N m m')(off:Nat):Vs E N (lV l off m) (put l' off m'):=by
 rw[Sa,put_eq,k.length]
 exact(h.take off).app (k.app (h.drop _))
theorem rX{E:En}{N:Nat}: ∀ {ps:List (Nat×Nat×Sv)} {qs:List (Nat×Nat×AV)} {z r:List Sv} {z':List AV},ps.length=qs.length->(∀ (i:Nat) (p:Nat×Nat×Sv),ps[i]? =some p-> ∃ q:Nat×Nat×AV,qs[i]? =some q/\q.1=p.1/\q.2.1=p.2.1/\V E N p.2.2 q.2.2)->Vs E N z z'->
 Bv ps z=some r-> ∃ r',xE qs z'=some r'/\Vs E N r r'
 | [],[],z,r,z',_,_,hz,e=>by cases e;exact⟨z',rfl,hz⟩
 | [],_::_,_,_,_,h,_,_,_=>by cases h
 | _::_,[],_,_,_,h,_,_,_=>by cases h
 |p::ps,q::qs,z,r,z',hl,hq,hz,e=>by
  obtain⟨q',Yf,h1,h2,hv⟩:=hq 0 p rfl
  cases Yf
  change (bif Nat.beq (len p.2.2.cells) p.2.1&&Nat.ble (Nat.add p.1 p.2.1) (len z)then Bv ps (lV z p.1 p.2.2.cells)else none)=some r at e
  obtain⟨hb,e⟩:=bV e
  obtain⟨r',hr,L2⟩:=rX (ps:=ps) (qs:=qs) (by simpa using hl) (fun i p hp=>hq (i+1) p hp) (hz.put hv.cells p.1) e
  refine⟨r',?_,L2⟩
  show(bif Nat.beq (len q.2.2.cells) q.2.1&&Nat.ble (Nat.add q.1 q.2.1) (len z')then xE qs (put z' q.1 q.2.2.cells)else none)=some r'
  rw[bW,<-hv.cells.length,h1,h2,bW,<-hz.length,<-bW,<-bW,hb,cond_true,hr]
theorem Ax{E:En}{N:Nat}{T:Tq}{t:Tm}(hT:TV E N T t): ∀ {ps:List (Nat×Nat×Od)} {vs:List (Nat×Nat×Sv)},Bw ps T=some vs->
 ∃ qs,nM (ps.map fun p=>(p.1,p.2.1,bF p.2.2)) t=some qs/\vs.length=qs.length/\ ∀ (i:Nat) (p:Nat×Nat×Sv),vs[i]? =some p-> ∃ q:Nat×Nat×AV,qs[i]? =some q/\q.1=p.1/\q.2.1=p.2.1/\V E N p.2.2 q.2.2
 | [],vs,e=>by cases e;exact⟨[],rfl,rfl,fun i p h=>by simp at h⟩
 |p::ps,vs,e=>by
  change (match j5 p.2.2 T with|some v=>(match Bw ps T with|some vs=>some ((p.1,p.2.1,v)::vs)|none=>none)|none=>none)=some vs at e
  split at e
  ·rename_i v hv
   split at e
   ·rename_i us hu
    cases e
    obtain⟨c,hc,gh⟩:=bB hT hv
    obtain⟨qs,h1,h2,h3⟩:=Ax hT hu
    refine⟨(p.1,p.2.1,c)::qs,?_,by simp[h2],fun i x hx=>?_⟩
    ·show(match bF p.2.2 t with|some v=>(match nM (ps.map fun(p:Nat×Nat×Od)=>(p.1,p.2.1,bF p.2.2)) t with|some vs=>some ((p.1,p.2.1,v)::vs)|none=>none)|none=>none)=_
     rw[hc,h1]
    ·cases i with
     |zero=>simp at hx;subst hx;exact⟨_,rfl,rfl,rfl,gh⟩
     |succ i=>simpa using h3 i x (by simpa using hx)
   ·cases e
  ·cases e
theorem Ay{E:En}{N:Nat}{T:Tq}{t:Tm}(hT:TV E N T t): ∀ {ps:List (Nat×Od)} {vs:List (Nat×Sv)},Bx ps T=some vs->
 ∃ qs,nL (ps.map fun p=>(p.1,bF p.2)) t=some qs/\vs.length=qs.length/\ ∀ (i:Nat) (p:Nat×Sv),vs[i]? =some p-> ∃ q:Nat×AV,qs[i]? =some q/\q.1=p.1/\V E N p.2 q.2
 | [],vs,e=>by cases e;exact⟨[],rfl,rfl,fun i p h=>by simp at h⟩
 |p::ps,vs,e=>by
  change (match j5 p.2 T with|some v=>(match Bx ps T with|some vs=>some ((p.1,v)::vs)|none=>none)|none=>none)=some vs at e
  split at e
  ·rename_i v hv
   split at e
   ·rename_i us hu
    cases e
    obtain⟨c,hc,gh⟩:=bB hT hv
    obtain⟨qs,h1,h2,h3⟩:=Ay hT hu
    refine⟨(p.1,c)::qs,?_,by simp[h2],fun i x hx=>?_⟩
    ·show(match bF p.2 t with|some v=>(match nL (ps.map fun(p:Nat×Od)=>(p.1,bF p.2)) t with|some vs=>some ((p.1,v)::vs)|none=>none)|none=>none)=_
     rw[hc,h1]
    ·cases i with
     |zero=>simp at hx;subst hx;exact⟨_,rfl,rfl,gh⟩
     |succ i=>simpa using h3 i x (by simpa using hx)
   ·cases e
  ·cases e
theorem JF(z:List AV)(ps:List (Nat×Nat×Od)):fg (FW z ps) (fun _ _=>au z (ps.map fun p=>(p.1,p.2.1,bF p.2.2))):=dh (by
 intro E T t H h v T' H' hT hH e
 unfold FW at e
 split at e
 ·rename_i zs hz
  split at e
  ·rename_i vs hv
   split at e
   ·rename_i cs hc
    obtain⟨rfl,rfl,rfl⟩:=aX e
    obtain⟨qs,h1,h2,h3⟩:=Ax hT hv
    obtain⟨r',hr,L2⟩:=rX h2 h3 (uF hz) hc
    refine⟨rfl,rfl,.agg r',?_,.ag L2⟩
    unfold au
    rw[h1]
    simp only[hr]
   ·cases e
  ·cases e
 ·cases e)
theorem Az{E:En}{N size:Nat}: ∀ {ps:List (Nat×Sv)} {qs:List (Nat×AV)} {k:Nat} {r:List Sv},ps.length=qs.length->(∀ (i:Nat) (p:Nat×Sv),ps[i]? =some p-> ∃ q:Nat×AV,qs[i]? =some q/\q.1=p.1/\V E N p.2 q.2)->
 yl size ps k=some r-> ∃ r',tW size qs k=some r'/\Vs E N r r'
 | [],[],_,_,_,_,e=>by cases e;exact⟨[],rfl,.nil⟩
 | [],_::_,_,_,h,_,_=>by cases h
 | _::_,[],_,_,h,_,_=>by cases h
 |p::ps,q::qs,k,r,hl,hq,e=>by
  obtain⟨q',Yf,h1,hv⟩:=hq 0 p rfl
  cases Yf
  change (bif Nat.beq p.1 k&&Nat.beq (len p.2.cells) size then(match yl size ps (Nat.add k 1)with|some r=>some (app p.2.cells r)|none=>none)else none)=some r at e
  obtain⟨hb,e⟩:=bV e
  split at e
  ·rename_i s hs
   cases e
   obtain⟨r',hr,L2⟩:=Az (ps:=ps) (qs:=qs) (by simpa using hl) (fun i p hp=>hq (i+1) p hp) hs
   refine⟨q.2.cells++r',?_,?_⟩
   ·show(bif Nat.beq q.1 k&&Nat.beq (len q.2.cells) size then(match tW size qs (Nat.add k 1)with|some r=>some (app q.2.cells r)|none=>none)else none)=_
    rw[bW,<-hv.cells.length,h1,<-bW,hb,cond_true,hr];simp only[bp]
   ·rw[bp];exact hv.cells.app L2
  ·cases e
theorem BG{E:En}{N:Nat}{z:List Sv}{z':List AV}(h:Vs E N z z'): ∀ n,Vs E N (XU n z) (fW n z')
 |0=>.nil
 |n+1=>by
  show Vs E N (app z (XU n z)) (app z' (fW n z'))
  rw[bp,bp];exact h.app (BG h n)
theorem yt{E:En}{N size:Nat}: ∀ {ps:List (Nat×Sv)} {qs:List (Nat×AV)},ps.length=qs.length->(∀ (i:Nat) (p:Nat×Sv),ps[i]? =some p-> ∃ q:Nat×AV,qs[i]? =some q/\q.1=p.1/\V E N p.2 q.2)->
 (Bz size ps).length=(scale size qs).length/\ ∀ (i:Nat) (p:Nat×Nat×Sv),(Bz size ps)[i]? =some p-> ∃ q:Nat×Nat×AV,(scale size qs)[i]? =some q/\q.1=p.1/\q.2.1=p.2.1/\V E N p.2.2 q.2.2
 | [],[],_,_=>⟨rfl,fun i p h=>by simp[Bz]at h⟩
 | [],_::_,h,_=>by cases h
 | _::_,[],h,_=>by cases h
 |p::ps,q::qs,hl,hq=>by
  obtain⟨q',Yf,h1,hv⟩:=hq 0 p rfl
  cases Yf
  obtain⟨a,b⟩:=yt (ps:=ps) (qs:=qs) (by simpa using hl) (fun i p hp=>hq (i+1) p hp)
  refine⟨by show _+1=_+1;exact congrArg _ a,fun i x hx=>?_⟩
  cases i with
  |zero=>
   change some (Nat.mul p.1 size,size,p.2)=some x at hx
   cases hx
   exact⟨(Nat.mul q.1 size,size,q.2),rfl,by show Nat.mul q.1 size=Nat.mul p.1 size;rw[h1],rfl,hv⟩
  |succ i=>exact b i x hx
theorem Sb(n sz:Nat)(z:List AV)(ps:List (Nat×Od)):fg (XZ n sz z ps) (fun _ _=>bC n sz z (ps.map fun p=>(p.1,bF p.2))):=by
 intro E T t H h v T' H' hT hH e
 unfold XZ at e
 split at e
 ·rename_i vs hv
  obtain⟨qs,h1,h2,h3⟩:=Ay hT hv
  cases hn:Nat.beq n 0 with
  |true=>
   rw[hn]at e
   simp only[cond_true]at e
   split at e
   ·obtain⟨rfl,rfl,rfl⟩:=aX e
    refine⟨_,_,E,Ev.const ?_,Nx.refl _ _ _,hH,.a (v:=.qk) rfl,hT⟩
    unfold bC
    rw[h1]
    simp only[hn,cond_true]
    have:qs=[]:=by cases qs with
     |nil=>rfl
     |cons _ _=>cases h2
    rw[this]
   ·cases e
  |false=>
   rw[hn]at e
   simp only[cond_false]at e
   split at e
   ·rename_i zs hz
    split at e
    ·rename_i cs hc
     cases hb:(cu Dp cs&&(Nat.blt 0 sz&&Nat.beq (len cs) (Nat.mul n sz)))with
     |false=>rw[hb]at e;cases e
     |true=>
      rw[hb]at e
      simp only[cond_true]at e
      obtain⟨rfl,rfl,rfl⟩:=aX e
      have key: ∃ cs',rO n sz z qs=some cs'/\Vs E H.next cs cs':=by
       unfold Dq at hc
       unfold rO
       rw[bW,<-h2,<-bW]
       cases hq:Nat.beq (len vs) n with
       |true=>
        rw[hq]at hc
        simp only[cond_true]at hc ⊢
        split at hc
        ·rename_i q hqq
         cases hc
         obtain⟨r',a,b⟩:=Az h2 h3 hqq
         rw[a];exact⟨r',rfl,b⟩
        ·rename_i hqq
         obtain⟨a,b⟩:=yt (size:=sz) h2 h3
         obtain⟨r',c,d⟩:=rX a b (BG (uF hz) n) hc
         cases hf:tW sz qs 0 with
         |none=>exact⟨r',c,d⟩
         |some w=>
          exfalso
          have back: ∀ {ps:List (Nat×Sv)} {qs:List (Nat×AV)} {k:Nat} {w:List AV},ps.length=qs.length->(∀ (i:Nat) (p:Nat×Sv),ps[i]? =some p-> ∃ q:Nat×AV,qs[i]? =some q/\q.1=p.1/\V E H.next p.2 q.2)->tW sz qs k=some w-> ∃ r,yl sz ps k=some r:=by
           intro ps
           induction ps with
           |nil=>intro qs k w _ _ _;exact⟨[],rfl⟩
           |cons p ps ih=>
            intro qs k w hl hq e
            cases qs with
            |nil=>cases hl
            |cons q qs=>
             obtain⟨q',Yf,h1,hv⟩:=hq 0 p rfl
             cases Yf
             change (bif Nat.beq q.1 k&&Nat.beq (len q.2.cells) sz then(match tW sz qs (Nat.add k 1)with|some r=>some (app q.2.cells r)|none=>none)else none)=some w at e
             obtain⟨hb,e⟩:=bV e
             split at e
             ·rename_i s hs
              obtain⟨r,hr⟩:=ih (by simpa using hl) (fun i p hp=>hq (i+1) p hp) hs
              refine⟨app p.2.cells r,?_⟩
              show(bif Nat.beq p.1 k&&Nat.beq (len p.2.cells) sz then(match yl sz ps (Nat.add k 1)with|some r=>some (app p.2.cells r)|none=>none)else none)=_
              rw[bW,hv.cells.length,<-h1,<-bW,hb,cond_true,hr]
             ·cases e
          obtain⟨r,hr⟩:=back h2 h3 hf
          rw[hqq]at hr
          cases hr
       |false=>
        rw[hq]at hc
        simp only[cond_false]at hc ⊢
        obtain⟨a,b⟩:=yt (size:=sz) h2 h3
        exact rX a b (BG (uF hz) n) hc
      obtain⟨cs',k1,k2⟩:=key
      obtain⟨S,X⟩:=MS hH (l:=cs) (rw:=xe cs') (by rw[iO];exact k2)
      refine⟨_,_,_,Ev.const ?_,X,S,.xo (id:=h.next) (Nat.lt_succ_self _) (by show(if H.next=H.next then _ else _:Kr).av=_;rw[if_pos rfl]),hT.mono X.e X.le⟩
      unfold bC
      rw[h1]
      simp only[hn,cond_false,k1]
    ·cases e
   ·cases e
 ·cases e
end Lf
end Go.Ab

noncomputable section
namespace Go.Ab
namespace Lf
theorem mS{H:Hq}{r:Nat}{R:Row}(hl:R.live=false){q:Nat}(o:own (jq H r (some R)) q):q≠r/\own H q:=by
 obtain⟨R',a,b⟩:=o
 rw[fp]at a
 split at a
 ·cases a;rw[hl]at b;cases b
 ·exact⟨‹_›,R',a,b⟩
def En.fz(E:En)(a:AV)(h:Hp):En:=⟨E.K,E.tk,fun id=>if lE a=some id then h.aP.get id else E.G id,E.A⟩
inductive Frz:Row->Row->Prop
 |l {t x}:Frz (.l t x) (.z t x)
 |o {g l}:Frz (.o g l) (.zo l)
theorem AA{E:En}{H:Hq}{h:Hp}(S:SR E H h){r:Nat}{R R':Row}(hr:H.aP.get r=some R)(f:Frz R R'):
 SR (E.fz (E.K r).av h) (jq H r (some R')) h/\Nx E (E.fz (E.K r).av h) H (jq H r (some R')) h h:=by
 have lv:R.live=true:=by cases f<;>rfl
 have VX:R'.live=false:=by cases f<;>rfl
 have hg:R5 E.G (E.fz (E.K r).av h).G:=by
  intro id row e
  show(if _ then _ else _)=_
  split
  ·rename_i c;exact((S.g id row e).2.2 r ⟨R,hr,lv⟩ c).elim
  ·exact e
 have le:xq E (E.fz (E.K r).av h) H.next:=⟨fun _ _=>rfl,fun _ _=>rfl,hg,rfl⟩
 refine⟨⟨?_,?_,?_,?_⟩,⟨le,Nat.le_refl _,Nat.le_refl _,?_,?_,fun _ _ _=>rfl⟩⟩
 ·intro q Q hq
  rw[fp]at hq
  split at hq
  ·rename_i e;subst e;cases hq
   obtain⟨h1,h2⟩:=S.row _ _ hr
   refine⟨h1,?_⟩
   cases f with
   |l=>exact LR.mono hg (fun id row e k=>by have e':lE (E.K q).av=some id:=e;show(if _ then _ else _)=_;rw[if_pos e'];exact k) h2
   |o=>
    obtain⟨id,row,a,b,c,_⟩:=h2
    exact⟨id,row,a,by show(if _ then _ else _)=_;rw[if_pos (by rw[a];rfl)];exact b,c.mono le (Nat.le_refl _)⟩
  ·obtain⟨h1,h2⟩:=S.row _ _ hq
   exact⟨h1,h2.mono le (Nat.le_refl _) (fun _ _ _ _ e=>e)⟩
 ·intro a b id oa ob ea eb
  exact S.inj a b id (mS VX oa).2 (mS VX ob).2 ea eb
 ·intro a id oa ea
  exact S.lt a id (mS VX oa).2 ea
 ·intro id row e
  have e':(if lE (E.K r).av=some id then h.aP.get id else E.G id)=some row:=e
  split at e'
  ·rename_i c
   refine⟨S.lt r id ⟨R,hr,lv⟩ c,e',fun q oq eq=>?_⟩
   exact(mS VX oq).1 (S.inj q r id (mS VX oq).2 ⟨R,hr,lv⟩ eq c)
  ·obtain⟨a,b,c⟩:=S.g id row e'
   exact⟨a,b,fun q oq=>c q (mS VX oq).2⟩
 ·intro q id oq eq
  exact .inl ⟨q,(mS VX oq).2,eq⟩
 ·intro id row e
  have e':(if lE (E.K r).av=some id then h.aP.get id else E.G id)=some row:=e
  split at e'
  ·rename_i c;exact .inr (.inl ⟨r,⟨R,hr,lv⟩,c⟩)
  ·exact .inl e'
structure Fz(E E':En)(H H':Hq)(h:Hp):Prop where
 K:E'.K=E.K
 tk:E'.tk=E.tk
 n:H'.next=H.next
 S:SR E' H' h
 X:Nx E E' H H' h h
theorem Fz.refl{E:En}{H:Hq}{h:Hp}(S:SR E H h):Fz E E H H h:=⟨rfl,rfl,rfl,S,Nx.refl _ _ _⟩
theorem Fz.trans{E E1 E2:En}{H H1 H2:Hq}{h:Hp}(a:Fz E E1 H H1 h)(b:Fz E1 E2 H1 H2 h):Fz E E2 H H2 h:=⟨b.K.trans a.K,b.tk.trans a.tk,b.n.trans a.n,b.S,a.X.trans b.X⟩
theorem Fz.g{E E':En}{H H':Hq}{h:Hp}(a:Fz E E' H H' h):R5 E.G E'.G:=a.X.e.G
theorem Fz.v{E E':En}{H H':Hq}{h:Hp}(a:Fz E E' H H' h){v:Sv}{c:AV}(k:V E H.next v c):V E' H'.next v c:=k.mono a.X.e a.X.le
theorem Fz.vs{E E':En}{H H':Hq}{h:Hp}(a:Fz E E' H H' h){v:List Sv}{c:List AV}(k:Vs E H.next v c):Vs E' H'.next v c:=k.mono a.X.e a.X.le
theorem vN{E:En}{H:Hq}{h:Hp}(S:SR E H h){r:Nat}{R R':Row}(hr:H.aP.get r=some R)(f:Frz R R'):Fz E (E.fz (E.K r).av h) H (jq H r (some R')) h:=
 ⟨rfl,rfl,rfl,(AA S hr f).1,(AA S hr f).2⟩
def pL(t:Ty)(f:List Sv->Hq->Option (den t×List Sv×Hq)):Prop:= ∀ (E:En) (H:Hq) (h:Hp) (l r:List Sv) (cs:List AV) (x:den t) (H':Hq),SR E H h->Vs E H.next l cs->f l H=some (x,r,H')->
 ∃ E' c d,Fz E E' H H' h/\cs=c++d/\EV E'.G t x c/\Vs E' H'.next r d
theorem F7{t:Ty}{f:List Sv->Hq->Option (den t×List Sv×Hq)}(hf:pL t f): ∀ (n:Nat) (E:En) (H:Hq) (h:Hp) (l:List Sv) (cs:List AV) (x:List (den t)) (H':Hq),SR E H h->Vs E H.next l cs->rdS t f n l H=some (x,H')->
 ∃ E' c d,Fz E E' H H' h/\cs=c++d/\kR (EV E'.G t) x c/\x.length=n
 |0,E,H,h,l,cs,x,H',S,_,e=>by cases e;exact⟨E,[],cs,Fz.refl S,rfl,rfl,rfl⟩
 |n+1,E,H,h,l,cs,x,H',S,hv,e=>by
  change (match f l H with|some (x,r,h)=>(match rdS t f n r h with|some (xs,h)=>some (x::xs,h)|none=>none)|none=>none)=some (x,H')at e
  split at e
  ·rename_i y r H1 hy
   split at e
   ·rename_i ys H2 hys
    cases e
    obtain⟨E1,c1,d1,F1,rfl,v1,w1⟩:=hf E H h l r cs y H1 S hv hy
    obtain⟨E2,c2,d2,F2,rfl,v2,w2⟩:=F7 hf n E1 H1 h r d1 ys H' F1.S w1 hys
    exact⟨E2,c1++c2,d2,F1.trans F2,by simp,⟨c1,c2,rfl,EV.mono F2.g _ _ _ v1,v2⟩,by simp[w2]⟩
   ·cases e
  ·cases e
theorem nW{r:Rw}{base k:Nat}{ls:List AV}(s:r.lO base k=some ls){o n:Nat}(h:o+n<=k):r.lO (base+o) n=some ((ls.drop o).take n):=by
 obtain⟨a,b⟩:=eS.1 s
 refine eS.2 ⟨by omega,?_⟩
 rw[b,List.drop_take,List.take_take,List.drop_drop,Nat.min_eq_left (by omega)]
theorem BH{G:Nat->Option Rw}{t:Ty}{x:List (den t)}{id base n off m:Nat}{row:Rw}{ls:List AV}(hx:x.length=n)(s:row.lO base (n*size t)=some ls)(e:kR (EV G t) x ls)(h:off+m<=n):
 ((x.drop off).take m).length=m/\row.lO (base+off*size t) (m*size t)=some ((ls.drop (off*size t)).take (m*size t))/\kR (EV G t) ((x.drop off).take m) ((ls.drop (off*size t)).take (m*size t)):=by
 refine⟨by rw[List.length_take,List.length_drop];omega,nW s ?_,(e.drop (EV.length t) off).take (EV.length t) m⟩
 rw[<-Nat.add_mul];exact Nat.mul_le_mul_right _ h
theorem Dx{E:En}{N:Nat}{t:Ty}{x:List (den t)}{r sz:Nat}{a:AV}{S:Nat->Option Rw}(hv:V E N (.os r sz) a)(l:LR E.G t x (E.K r) S):
 (dI a=true/\x=[])∨ ∃ id base row ls,a=.ff id base x.length (size t)/\(E.K r).av=a/\sz=size t/\S id=some row/\row.lO base (x.length*size t)=some ls/\kR (EV E.G t) x ls:=by
 cases hv with
 |os h1 h2=>
  rcases l.2 with k|⟨id,base,row,ls,k1,k2,k3,k4⟩
  ·exact .inl k
  ·rw[l.1]
   rcases h2 with h2|⟨xH,MT,h2⟩
   ·rw[k1]at h2;cases h2.1
   ·rw[k1]at h2
    injection h2 with _ _ _ a4
    exact .inr ⟨id,base,row,ls,k1,rfl,a4.symm,k2,k3,k4⟩
theorem VY{E:En}{N:Nat}{t:Ty}{x:List (den t)}{r sz off n:Nat}{a:AV}{S:Nat->Option Rw}(hv:V E N (.ss r sz off n) a)(l:LR E.G t x (E.K r) S):
 (dI a=true/\n=0/\x=[]/\off=0/\(E.K r).av=a)∨ ∃ id base row ls,a=.ff id (base+off*size t) n (size t)/\off+n<=x.length/\(E.K r).av=.ff id base x.length (size t)/\sz=size t/\S id=some row/\row.lO base (x.length*size t)=some ls/\kR (EV E.G t) x ls:=by
 cases hv with
 |se h1 h2 h3 h4=>
  refine .inl ⟨h2,rfl,?_,h4,rfl⟩
  have:=l.1;rw[h3]at this
  exact List.eq_nil_of_length_eq_zero this
 |ss h1 h2 h3=>
  rcases l.2 with k|⟨id,base,row,ls,k1,k2,k3,k4⟩
  ·rw[h2]at k;cases k.1
  ·rw[k1]at h2
   injection h2 with a1 a2 _ a4
   subst a1;subst a2;subst a4
   rw[l.1]
   exact .inr ⟨id,base,row,ls,rfl,h3,k1,rfl,k2,k3,k4⟩
theorem uG{E:En}{t:Ty}{x:List (den t)}{a:AV}{id base:Nat}{row:Rw}{ls:List AV}(ha:a=.ff id base x.length (size t))(hg:E.G id=some row)(s:row.lO base (x.length*size t)=some ls)(e:kR (EV E.G t) x ls):JB E.G t (EV E.G t) x a:=
 .inr ⟨ls,e,.inr ⟨id,base,row,ha,hg,s⟩⟩
theorem MU{E:En}{N:Nat}{t:Ty}{x:List (den t)}{r sz:Nat}{a:AV}(hv:V E N (.os r sz) a)(l:LR E.G t x (E.K r) E.G):JB E.G t (EV E.G t) x a:=by
 rcases Dx hv l with k|⟨id,base,row,ls,k1,_,_,k2,k3,k4⟩
 ·exact .inl k
 ·exact uG k1 k2 k3 k4
theorem MV{E:En}{N:Nat}{t:Ty}{x:List (den t)}{r sz off n:Nat}{a:AV}(hv:V E N (.ss r sz off n) a)(l:LR E.G t x (E.K r) E.G):JB E.G t (EV E.G t) ((x.drop off).take n) a:=by
 rcases VY hv l with⟨k1,k2,k3,_⟩|⟨id,base,row,ls,k1,k2,_,_,k3,k4,k5⟩
 ·subst k3;exact .inl ⟨k1,by simp⟩
 ·obtain⟨a1,a2,a3⟩:=BH rfl k4 k5 k2 (id:=0)
  refine uG (id:=id) (base:=base+off*size t) (row:=row) ?_ k3 ?_ a3
  ·rw[a1];exact k1
  ·rw[a1];exact a2
theorem MW{t:Ty}{f:List Sv->Hq->Option (den t×List Sv×Hq)}(hf:pL t f){E:En}{H H':Hq}{h:Hp}{v:Sv}{a:AV}{x:List (den t)}(S:SR E H h)(hv:V E H.next v a)(e:asL t f v H=some (x,H')):
 ∃ E',Fz E E' H H' h/\JB E'.G t (EV E'.G t) x a:=by
 have xo: ∀ {r sz off n:Nat} {l:List Sv} {E1:En} {H1:Hq} {id:Nat} {row:Rw},Fz E E1 H H1 h->sz=size t->a=.ff id off n sz->E1.G id=some row->Vs E1 H1.next l row.toL->VP t f n off l H1=some (x,H')-> ∃ E',Fz E E' H H' h/\JB E'.G t (EV E'.G t) x a:=by
  intro r sz off n l E1 H1 id row F sr ha hg hl e
  unfold VP at e
  obtain⟨hb,e⟩:=bV e
  have hle:=Nat.le_of_ble_eq_true hb
  rw[bW]at hle
  rw[j3]at e
  obtain⟨E2,c,d,F2,e1,e2,e3⟩:=F7 hf n E1 H1 h _ _ x H' F.S (hl.drop off) e
  refine⟨E2,F.trans F2,?_⟩
  have hc:=e2.length (EV.length t)
  have hlen:=hl.length
  refine uG (id:=id) (base:=off) (row:=row) (ls:=c) (by rw[e3,ha,sr]) (F2.g _ _ hg) ?_ e2
  refine eS.2 ⟨?_,?_⟩
  ·have:=congrArg List.length e1
   rw[List.length_drop,List.length_append,hc]at this
   rw[<-eO];omega
  ·rw[e1,<-hc,List.take_left]
 cases v with
 |a w=>
  obtain⟨hb,e⟩:=bV e
  cases e
  cases hv with
  |a _=>exact⟨E,Fz.refl S,.inl ⟨hb,rfl⟩⟩
 |c m ty y=>
  cases ty with
  |ae t'=>
   change (match wm t' t with|some ⟨e⟩=>some (e▸y,H)|none=>none)=some (x,H')at e
   split at e
   ·rename_i p hp
    cases p
    cases e
    cases hv with
    |c k _=>obtain⟨b,hb,k⟩:=k;cases hb;exact⟨E,Fz.refl S,k⟩
   ·cases e
  | _=>cases e
 |os r s=>
  change (match H.aP.get r with
   |some (.l t' x)=>(match wm t' t with|some ⟨e⟩=>some (e▸x,jq H r (some (.z t' x)))|none=>none)
   |some (.z t' x)=>(match wm t' t with|some ⟨e⟩=>some (e▸x,H)|none=>none)
   | _=>none)=some (x,H')at e
  split at e
  ·rename_i t' y hr
   split at e
   ·rename_i p hp
    cases p
    cases e
    have F:=vN S hr .l
    refine⟨_,F,MU (F.v hv) ?_⟩
    have:=F.S.row r (.z t y) (by rw[fp,if_pos rfl])
    exact this.2
   ·cases e
  ·rename_i t' y hr
   split at e
   ·rename_i p hp
    cases p
    cases e
    exact⟨E,Fz.refl S,MU hv (S.row _ _ hr).2⟩
   ·cases e
  ·cases e
 |ss r s off n=>
  change (match H.aP.get r with
   |some (.l t' x)=>(match wm t' t with|some ⟨e⟩=>some (((e▸x:List (den t)).drop off).take n,jq H r (some (.z t' x)))|none=>none)
   |some (.z t' x)=>(match wm t' t with|some ⟨e⟩=>some (((e▸x:List (den t)).drop off).take n,H)|none=>none)
   | _=>none)=some (x,H')at e
  split at e
  ·rename_i t' y hr
   split at e
   ·rename_i p hp
    cases p
    cases e
    have F:=vN S hr .l
    refine⟨_,F,MV (F.v hv) ?_⟩
    have:=F.S.row r (.z t y) (by rw[fp,if_pos rfl])
    exact this.2
   ·cases e
  ·rename_i t' y hr
   split at e
   ·rename_i p hp
    cases p
    cases e
    exact⟨E,Fz.refl S,MV hv (S.row _ _ hr).2⟩
   ·cases e
  ·cases e
 |xo r sz off n=>
  change (bif Nat.beq sz (size t)then(match H.aP.get r with
   |some (.o _ l)=>VP t f n off l (jq H r (some (.zo l)))
   |some (.zo l)=>VP t f n off l H
   | _=>none)else none)=some (x,H')at e
  obtain⟨hb,e⟩:=bV e
  split at e
  ·rename_i l hr
   have F:=vN S hr .o
   have k:=(F.S.row r (.zo l) (by rw[fp,if_pos rfl])).2
   obtain⟨id,row,k1,k2,k3⟩:=k
   cases hv with
   |xo h1 h2=>
    have AB:(E.K r).av=.ref id 0:=k1
    rw[h2]at AB;cases AB
    exact xo (r:=r) F (beq_true hb) rfl k2 k3 e
  ·rename_i l hr
   obtain⟨id,row,k1,k2,k3⟩:=(S.row _ _ hr).2
   cases hv with
   |xo h1 h2=>
    rw[h2]at k1;cases k1
    exact xo (r:=r) (Fz.refl S) (beq_true hb) rfl k2 k3 e
  ·cases e
 | _=>cases e
theorem tv: ∀ (t:Ty),pL t (VQ t)
 | .int k=>by
  intro E H h l r cs x H' S hv e
  cases l with
  |nil=>cases e
  |cons v l=>
   change (match toN v with|some (k',n)=>(bif jA k k' then some (n,l,H)else none)|none=>none)=some (x,r,H')at e
   split at e
   ·rename_i k' n hn
    obtain⟨hb,e⟩:=bV e
    cases e
    cases hv with
    |cons a b=>
     have:=iD a hn
     rw[eQ.1 hb]
     exact⟨E,[_],_,Fz.refl S,rfl,by rw[this];rfl,b⟩
   ·cases e
 | .bool=>by
  intro E H h l r cs x H' S hv e
  cases l with
  |nil=>cases e
  |cons v l=>
   change (match toB v with|some b=>some (b.v,l,H)|none=>none)=some (x,r,H')at e
   split at e
   ·rename_i b hn
    cases e
    cases hv with
    |cons a c=>
     have:=iB a hn
     exact⟨E,[_],_,Fz.refl S,rfl,by rw[this];rfl,c⟩
   ·cases e
 | .str=>by
  intro E H h l r cs x H' S hv e
  cases l with
  |nil=>cases e
  |cons v l=>
   change (match toS v with|some (_,s)=>some (s,l,H)|none=>none)=some (x,r,H')at e
   split at e
   ·rename_i b s hn
    cases e
    cases hv with
    |cons a c=>
     have:=qu a hn
     exact⟨E,[_],_,Fz.refl S,rfl,by rw[this];rfl,c⟩
   ·cases e
 | .ae t=>by
  intro E H h l r cs x H' S hv e
  cases l with
  |nil=>cases e
  |cons v l=>
   change (match asL t (VQ t) v H with|some (x,h)=>some (x,l,h)|none=>none)=some (x,r,H')at e
   split at e
   ·rename_i y H1 hy
    cases e
    cases hv with
    |cons a c=>
     obtain⟨E',F,k⟩:=MW (tv t) S a hy
     exact⟨E',[_],_,F,rfl,⟨_,rfl,k⟩,F.vs c⟩
   ·cases e
 | .pair a b=>by
  intro E H h l r cs x H' S hv e
  change (match VQ a l H with|some (x,r,h)=>(match VQ b r h with|some (y,r,h)=>some ((x,y),r,h)|none=>none)|none=>none)=some (x,r,H')at e
  split at e
  ·rename_i y q H1 hy
   split at e
   ·rename_i z q2 H2 hz
    cases e
    obtain⟨E1,c1,d1,F1,rfl,v1,w1⟩:=tv a E H h l q cs y H1 S hv hy
    obtain⟨E2,c2,d2,F2,rfl,v2,w2⟩:=tv b E1 H1 h q _ d1 z H' F1.S w1 hz
    exact⟨E2,c1++c2,d2,F1.trans F2,by simp,⟨c1,c2,rfl,EV.mono F2.g _ _ _ v1,v2⟩,w2⟩
   ·cases e
  ·cases e
theorem F9{t:Ty}{E:En}{H H':Hq}{h:Hp}{v:Sv}{a:AV}{x:List (den t)}(S:SR E H h)(hv:V E H.next v a)(e:XV t v H=some (x,H')):
 ∃ E',Fz E E' H H' h/\JB E'.G t (EV E'.G t) x a:=MW (tv t) S hv e
theorem fK{a:AV}(k:dI a=true):vq a=.fk:=by
 cases a with
 |sc v=>have k':sX (.sc v)=true:=k;unfold vq;rw[k'];rfl
 |fk=>rfl
 |qk=>rfl
 | _=>cases k
theorem AD{E:En}{H:Hq}{h:Hp}(S:SR E H h){t:Ty}{x:List (den t)}{a:AV}(k:JB E.G t (EV E.G t) x a): ∃ cs,dR h (vq a)=some (x.length,cs)/\kR (EV E.G t) x cs:=by
 rcases k with⟨k,rfl⟩|⟨ls,k1,k2⟩
 ·refine⟨[],?_,rfl⟩
  rw[fK k];rfl
 ·rcases k2 with rfl|⟨id,base,row,rfl,g,s⟩
  ·exact⟨ls,rfl,k1⟩
  ·refine⟨ls,?_,k1⟩
   show(match h.aP.get id with|some cs=>(match cs.lO base (Nat.mul x.length (size t))with|some l=>some (x.length,l)|none=>none)|none=>none)=_
   rw[(S.g _ _ g).2.1]
   have s':row.lO base (Nat.mul x.length (size t))=some ls:=s
   simp only[s']
def adn:AV->Option Nat
 | .ff _ _ n _=>some n
 | .lj n _=>some n
 | .fk=>some 0
 | _=>none
theorem HO{E:En}{H:Hq}{h:Hp}(S:SR E H h){v m:Sv}{a:AV}(hv:V E H.next v a)(e:XW v H=some m): ∃ n:Nat,toN m=some (.i64,(n:Int))/\V E H.next m (.int .i64 n)/\adn (vq a)=some n/\(dI a=true->n=0):=by
 have row: ∀ {r sz:Nat} {t:Ty} {x:List (den t)} {S':Nat->Option Rw},V E H.next (.os r sz) a->LR E.G t x (E.K r) S'-> ∃ n:Nat,toN (.c 0 (.int .i64) (Int.ofNat x.length))=some (.i64,(n:Int))/\V E H.next (.c 0 (.int .i64) (Int.ofNat x.length)) (.int .i64 n)/\adn (vq a)=some n/\(dI a=true->n=0):=by
  intro r sz t x S' hv l
  refine⟨x.length,rfl,gm,?_⟩
  rcases Dx hv l with⟨k,rfl⟩|⟨id,base,row,ls,k1,_⟩
  ·rw[fK k];exact⟨rfl,fun _=>rfl⟩
  ·rw[k1];exact⟨rfl,fun k=>by cases k⟩
 cases v with
 |a w=>
  obtain⟨hb,e⟩:=bV e
  cases e
  cases hv with
  |a _=>exact⟨0,rfl,.i,by rw[fK hb];rfl,fun _=>rfl⟩
 |c q ty x=>
  cases ty with
  |ae t=>
   cases e
   refine⟨x.length,rfl,gm,?_⟩
   cases hv with
   |c k _=>
    obtain⟨b,hb,k⟩:=k;cases hb
    rcases k with⟨k,hx⟩|⟨ls,k1,k2|⟨_,_,_,k2,_⟩⟩
    ·rw[fK k];subst hx;exact⟨rfl,fun _=>rfl⟩
    ·rw[k2];exact⟨rfl,fun k=>by cases k⟩
    ·rw[k2];exact⟨rfl,fun k=>by cases k⟩
  | _=>cases e
 |os r s=>
  change (match H.aP.get r with|some (.l _ x)=>some (Sv.c 0 (.int .i64) (Int.ofNat x.length))|some (.z _ x)=>some (Sv.c 0 (.int .i64) (Int.ofNat x.length))| _=>none)=some m at e
  split at e
  ·rename_i hr;cases e;exact row hv (S.row _ _ hr).2
  ·rename_i hr;cases e;exact row hv (S.row _ _ hr).2
  ·cases e
 |ss r s off n=>
  cases e
  refine⟨n,rfl,gm,?_⟩
  cases hv with
  |se h1 h2 h3 h4=>rw[fK h2];exact⟨rfl,fun _=>rfl⟩
  |ss h1 h2 h3=>exact⟨rfl,fun k=>by cases k⟩
 |xo r s off n=>
  cases e
  cases hv with
  |xo _ _=>exact⟨n,rfl,.i,rfl,fun k=>by cases k⟩
 | _=>cases e
theorem Sc(a:Od):fg (cQ a) (fun _ _=>aV (bF a)):=dh (by
 intro E T t H h v T' H' hT hH e
 unfold cQ at e
 split at e
 ·rename_i w hw
  obtain⟨e1,rfl,rfl⟩:=mR e
  obtain⟨c,hc,gh⟩:=nV hT hw
  obtain⟨n,h1,h2,h3,_⟩:=HO hH gh e1
  refine⟨rfl,rfl,_,?_,h2⟩
  unfold aV
  rw[hc]
  generalize vq c=y at h3 ⊢
  cases y<;>first|(cases h3;done)|(cases h3;rfl)
 ·cases e)
end Lf
end Go.Ab

noncomputable section
namespace Go.Ab
namespace Lf
theorem yu(k:IntKind):jA k k=true:=eQ.2 rfl
theorem dY{f s:AV->AV->Option AV}{x y r:AV}(h:f x y=some r):wL f s x y=some r:=by unfold wL;rw[h]
theorem gK{f:IntKind->Int->Int->Option AV}(k:IntKind)(a b:Int):nn f (.int k a) (.int k b)=f k a b:=by show(bif jA k k then _ else _)=_;rw[yu];rfl
theorem BI(op:BinOp)(hop:op=.and∨op=.or∨op=.xor)(f:Nat->Nat->Nat)(k:IntKind)(a b:Int): ∃ r,z8 op f (.int k a) (.int k b)=some (.int k r):=by
 unfold z8
 rw[gK]
 have hr: ∃ r,qM (g4 (Op.intBits op k a b))=some (.int k r):=by rcases hop with rfl|rfl|rfl<;>exact⟨_,rfl⟩
 split
 ·rename_i a b
  cases hc:(Nat.blt a (jf k)&&Nat.blt b (jf k))with
  |true=>exact⟨_,rfl⟩
  |false=>exact hr
 ·exact hr
theorem uH{o:Option AV}{k:IntKind}(h: ∃ r,o=some (.int k r)):o=some (.int k (intOf o)):=by obtain⟨r,h⟩:=h;rw[h];rfl
theorem ado{f:BF}{g:IntKind->Int->Int->Int}(h:Mv f=.ar g)(k:IntKind)(a b:Int):f.f (.int k a) (.int k b)=some (.int k (g k a b)):=by
 cases f<;>first|(cases h;done)|skip
 case add=>cases h;exact dY (gK k a b)
 case sub=>cases h;exact dY (gK k a b)
 case mul=>cases h;exact dY (gK k a b)
 case and=>cases h;exact dY (uH (BI .and (.inl rfl) Nat.land k a b))
 case or=>cases h;exact dY (uH (BI .or (.inr (.inl rfl)) Nat.lor k a b))
 case xor=>cases h;exact dY (uH (BI .xor (.inr (.inr rfl)) Nat.xor k a b))
 case andNot=>
  cases h
  have hr: ∃ r,qM (g4 (Op.intBits .andNot k a b))=some (.int k r):=⟨_,rfl⟩
  refine uH (o:=px (.int k a) (.int k b)) ?_
  unfold px;rw[gK];exact hr
theorem adp{f:BF}{g:IntKind->Int->Int->Int}(h:Mv f=.dv g)(k:IntKind)(a b:Int)(hb: ¬ b=0):f.f (.int k a) (.int k b)=some (.int k (g k a b)):=by
 have hz:eqI b 0=false:=by cases e:eqI b 0 with
  |false=>rfl
  |true=>exact(hb (ga.1 e)).elim
 cases f<;>first|(cases h;done)|skip
 case quo=>cases h;exact dY (by unfold Qw;rw[gK,hz];rfl)
 case rem=>cases h;exact dY (by unfold Qx;rw[gK,hz];rfl)
theorem adq{f:BF}{g:IntKind->Int->Int->Int}(h:Mv f=.sh g)(k k':IntKind)(a b:Int)(hb:0<=b):f.f (.int k a) (.int k' b)=some (.int k (g k a b)):=by
 obtain⟨n,rfl⟩:=Int.eq_ofNat_of_zero_le hb
 cases f<;>first|(cases h;done)|skip
 case shl=>cases h;have q:Fe (.int k a) (.int k' (Int.ofNat n))=some (.int k (Jy k a (Int.ofNat n))):=rfl;show wL Fe Cy (.int k a) (.int k' (Int.ofNat n))=_;exact dY q
 case shr=>cases h;have q:Ff (.int k a) (.int k' (Int.ofNat n))=some (.int k (sw k a (Int.ofNat n))):=rfl;show wL Ff Cy (.int k a) (.int k' (Int.ofNat n))=_;exact dY q
theorem adr{f:BF}{g:Int->Int->Bool}(h:Mv f=.cm g)(k:IntKind)(a b:Int):f.f (.int k a) (.int k b)=some (.bool (g a b)):=by
 cases f<;>first|(cases h;done)|skip
 case lss=>cases h;refine dY ?_;unfold Xd;rw[gK,jg]
 case leq=>cases h;refine dY ?_;unfold Xe;rw[gK,jg];simp[<-Int.not_lt]
 case gtr=>cases h;refine dY ?_;unfold Xf;rw[gK,jg]
 case geq=>cases h;refine dY ?_;unfold Xg;rw[gK,jg];simp[<-Int.not_lt]
 case eqI neg=>
  have he:eqI a b=decide (a=b):=by
   cases e:eqI a b with
   |true=>exact(decide_eq_true (ga.1 e)).symm
   |false=>refine(decide_eq_false fun q=>?_).symm;rw[ga.2 q]at e;cases e
  cases neg with
  |false=>cases h;refine dY ?_;unfold KP;rw[gK,he];rfl
  |true=>cases h;refine dY ?_;unfold KP;rw[gK,he];rfl
section
variable {E:En}{N:Nat}
theorem Sd{i:Bool}{x y:Sv}{c d:AV}{r:LB}(hx:V E N x c)(hy:V E N y d)(h:RW i x y=some r):eq1 i c d=some r.v:=by
 unfold RW at h
 split at h
 ·split at h
  ·obtain⟨hk,h⟩:=bV h
   cases h
   cases hx;cases hy
   show(bif jA _ _ then some (eqI _ _)else none)=_
   rw[hk];rfl
  ·split at h
   ·rename_i k a k' b h1 h2
    obtain⟨hk,h⟩:=bV h
    cases h
    rw[iD hx h1,iD hy h2]
    show(bif jA k k' then some (eqI a b)else none)=_
    rw[hk]
    show some (eqI a b)=some (decide (a=b))
    congr 1
    cases e:eqI a b with
    |true=>exact(decide_eq_true (ga.1 e)).symm
    |false=>refine(decide_eq_false fun q=>?_).symm;rw[ga.2 q]at e;cases e
   ·cases h
 ·split at h
  ·rename_i h1 h2;cases h;rw[iB hx h1,iB hy h2];rfl
  ·rename_i a b h1 h2;cases h;rw[iB hx h1,iB hy h2];rfl
  ·cases h
theorem LB.MX(a b:LB):(a.and b).v=(a.v&&b.v):=by
 cases a with
 |l a=>cases a<;>cases b<;>rfl
 |t a=>cases b with
  |l b=>cases b<;>simp[LB.and,LB.v]
  |t b=>rfl
theorem HP: ∀ {l:List Bool} {xs ys:List Sv} {cs ds:List AV} {r:LB},Vs E N xs cs->Vs E N ys ds->XP l xs ys=some r->CG l cs ds=some r.v
 | [],_,_,_,_,_,_,_,h=>by cases h;rfl
 |i::l,[],_,_,_,_,_,_,h=>by cases h
 |i::l,_::_,[],_,_,_,_,_,h=>by cases h
 |i::l,x::xs,y::ys,c'::l1,d'::l2,r,.cons hx Xx,.cons hy hys,h=>by
  change (match RW i x y with|some c=>(match XP l xs ys with|some d=>some (c.and d)|none=>none)|none=>none)=some r at h
  split at h
  ·rename_i c hc
   split at h
   ·rename_i d hd
    cases h
    have h1:=Sd hx hy hc
    have h2:=HP Xx hys hd
    show(match eq1 i c' d' with|none=>none|some c=>Bool.rec (some false) (CG l l1 l2) c)=_
    rw[h1,LB.MX]
    simp only
    cases c.v with
    |true=>simp[h2]
    |false=>rfl
   ·cases h
  ·cases h
theorem Yg(neg:Bool)(c:LB):(XQ neg c).v=bif neg then !c.v else c.v:=by cases neg<;>cases c<;>rfl
theorem HQ{y:Sv}{d:AV}(hy:V E N y d)(h:Mx y=true):(∃ i o,d=.ref i o)∨ ∃ l,d=.jC l:=by
 cases hy<;>first|(cases h;done)|exact .inl ⟨_,_,rfl⟩|exact .inr ⟨_,rfl⟩
theorem Se{f:BF}{x y v:Sv}{c d:AV}(hx:V E N x c)(hy:V E N y d)(h:(XR f x y).val=some v): ∃ r,f.f c d=some r/\V E N v r:=by
 unfold XR at h
 split at h
 ·split at h
  ·rename_i hr;cases h;cases hx;cases hy;exact⟨_,hr,.i⟩
  ·rename_i hr;cases h;cases hx;cases hy;exact⟨_,hr,.b⟩
  ·cases h
 ·split at h
  ·rename_i k a k' b h1 h2
   rw[iD hx h1,iD hy h2]
   split at h
   ·rename_i g hg
    cases hk:jA k k' with
    |false=>rw[hk]at h;cases h
    |true=>
     rw[hk]at h;cases h
     have:=eQ.1 hk;subst this
     exact⟨_,ado hg k a b,gm⟩
   ·rename_i g hg
    cases hk:jA k k' with
    |false=>rw[hk]at h;cases h
    |true=>
     rw[hk]at h
     have:=eQ.1 hk;subst this
     simp only[cond_true]at h
     have key: ¬ b=0/\v=.c 0 (.int k) (g k a b):=by
      cases hl:Mw y with
      |true=>
       rw[hl]at h
       simp only[cond_true]at h
       cases hz:eqI b 0 with
       |true=>rw[hz]at h;cases h
       |false=>rw[hz]at h;cases h;exact⟨(fun q=>by rw[ga.2 q]at hz;cases hz),rfl⟩
      |false=>
       rw[hl]at h
       obtain⟨h1,h2⟩:=T.ba h
       cases h2
       exact⟨by simpa using h1,rfl⟩
     rw[key.2]
     exact⟨_,adp hg k a b key.1,gm⟩
   ·rename_i g hg
    have key:0<=b/\v=.c 0 (.int k) (g k a b):=by
     cases hl:Mw y with
     |true=>
      rw[hl]at h
      simp only[cond_true]at h
      cases hz:la b 0 with
      |true=>rw[hz]at h;cases h
      |false=>rw[hz]at h;cases h;exact⟨Rb.1 hz,rfl⟩
     |false=>
      rw[hl]at h
      obtain⟨h1,h2⟩:=T.ba h
      cases h2
      exact⟨by simpa using h1,rfl⟩
    rw[key.2]
    exact⟨_,adq hg k k' a b key.1,gm⟩
   ·rename_i g hg
    cases hk:jA k k' with
    |false=>rw[hk]at h;cases h
    |true=>
     rw[hk]at h;cases h
     have:=eQ.1 hk;subst this
     exact⟨_,adr hg k a b,lW⟩
   ·cases h
  ·cases h
theorem Yh{f:BF}{x y v:Sv}{c d:AV}(hx:V E N x c)(hy:V E N y d)(h:(XS f x y).val=some v): ∃ r,f.f c d=some r/\V E N v r:=by
 cases f with
 |eqB neg=>
  simp only[XS]at h
  split at h
  ·rename_i h1 h2;cases h;rw[iB hx h1,iB hy h2];exact⟨_,rfl,.b⟩
  ·rename_i h1 h2;cases h;rw[iB hx h1,iB hy h2];cases neg<;>exact⟨_,rfl,lW⟩
  ·cases h
 |QC neg=>
  simp only[XS]at h
  split at h
  ·rename_i h1 h2;cases h;rw[qu hx h1,qu hy h2];exact⟨_,rfl,.b⟩
  ·rename_i h1 h2;cases h;rw[qu hx h1,qu hy h2];cases neg<;>exact⟨_,rfl,lW⟩
  ·cases h
 |eqP neg=>
  simp only[XS]at h
  split at h
  ·cases h;cases hx;cases hy;exact⟨_,rfl,.b⟩
  ·cases hp:Mx y with
   |false=>rw[hp]at h;cases h
   |true=>
    rw[hp]at h;cases h
    cases hx
    rcases HQ hy hp with⟨_,_,rfl⟩|⟨_,rfl⟩<;>exact⟨_,rfl,.b⟩
  ·cases hp:Mx x with
   |false=>rw[hp]at h;cases h
   |true=>
    rw[hp]at h;cases h
    cases hy
    rcases HQ hx hp with⟨_,_,rfl⟩|⟨_,rfl⟩<;>exact⟨_,rfl,.b⟩
  ·cases h
 |eqN neg=>
  simp only[XS]at h
  split at h
  ·rename_i v' w
   cases hn:isNil w with
   |false=>rw[hn]at h;cases h
   |true=>
    rw[hn]at h
    simp only[cond_true]at h
    split at h
    ·rename_i b hb
     cases h
     cases hx;cases hy
     refine⟨.bool (bif neg then !b else b),?_,.b⟩
     show(bif isNil _ then Option.rec none (fun b=>some (.bool (bif neg then !b else b))) (AY _)else none:Option AV)=_
     rw[hn,hb];rfl
    ·cases h
  ·rename_i w
   cases hn:isNil w with
   |false=>rw[hn]at h;cases h
   |true=>
    rw[hn]at h
    cases h
    cases hx;cases hy
    refine⟨.bool neg,?_,.b⟩
    simp only[BF.f,nK,hn,cond_true]
    cases neg<;>rfl
  ·rename_i t x w
   cases hn:isNil w with
   |false=>rw[hn]at h;cases h
   |true=>
    rw[hn]at h
    obtain⟨hl,h⟩:=Lf.T.ba h
    cases h
    cases hy
    refine⟨.bool neg,?_,.b⟩
    simp only[BF.f,nK,hn,cond_true]
    cases hx with
    |c k _=>
     obtain⟨a,ea,k⟩:=k
     cases ea
     have hx0: ¬ x.length=0:=fun e=>by rw[e]at hl;cases hl
     rcases k with⟨_,k⟩|⟨ls,_,k|⟨id,base,row,k,_⟩⟩
     ·subst k;exact(hx0 rfl).elim
     ·subst k
      have hb:Nat.beq x.length 0=false:=by revert hl;cases Nat.beq x.length 0<;>simp
      simp only[AY,isNil,cond_false,hb]
      cases neg<;>rfl
     ·subst k
      simp only[AY,isNil,cond_false]
      cases neg<;>rfl
  ·cases h
 |nh neg l=>
  simp only[XS]at h
  split at h
  ·rename_i xs ys
   split at h
   ·rename_i r hr
    cases h
    cases hx with
    |ag hx=>cases hy with
     |ag hy=>
      refine⟨.bool (bif neg then !r.v else r.v),?_,by have:=Yb (E:=E) (N:=N) (c:=XQ neg r);rw[Yg]at this;exact this⟩
      show(match CG l _ _ with|some c=>some (AV.bool (bif neg then !c else c))|none=>none)=_
      rw[HP hx hy hr]
   ·cases h
  ·cases h
 | _=>exact Se hx hy h
theorem Sf{f:UF}{x v:Sv}{c:AV}(hx:V E N x c)(h:XT f x=some v): ∃ r,f.f c=some r/\V E N v r:=by
 unfold XT at h
 split at h
 ·split at h
  ·rename_i h1;cases h;rw[iB hx h1];exact⟨_,rfl,.b⟩
  ·rename_i h1;cases h;rw[iB hx h1];exact⟨_,rfl,lW⟩
  ·cases h
 ·split at h
  ·cases h;cases hx;exact⟨_,rfl,.i⟩
  ·cases h;rw[iD hx rfl];exact⟨_,rfl,gm⟩
  ·cases h
 ·split at h
  ·cases h;cases hx;exact⟨_,rfl,.i⟩
  ·cases h;rw[iD hx rfl];exact⟨_,rfl,gm⟩
  ·cases h
 ·split at h
  ·cases h;cases hx;exact⟨_,rfl,.i⟩
  ·cases h;rw[iD hx rfl];exact⟨_,rfl,gm⟩
  ·cases h
end
theorem Sg(f:BF)(a b:Od):fg (RX f a b) (fun _ _=>ah f.f (bF a) (bF b)):=dh (by
 intro E T t H h v T' H' hT hH e
 unfold RX at e
 split at e
 ·rename_i x hx
  split at e
  ·rename_i y hy
   obtain⟨w,e1,e2⟩:=Lf.T.dm e
   obtain⟨rfl,rfl,rfl⟩:=aX e2
   obtain⟨c,hc,gh⟩:=bB hT hx
   obtain⟨d,hd,Qh⟩:=bB hT hy
   obtain⟨r,hr,L2⟩:=Yh gh Qh e1
   refine⟨rfl,rfl,r,?_,L2⟩
   show(Option.rec Go.Ab.Ro.bad (fun a'=>Option.rec Go.Ab.Ro.bad (fun b'=>Option.rec Go.Ab.Ro.bad (fun v=>Go.Ab.Ro.ok v h) (f.f a' b')) (bF b t)) (bF a t):Go.Ab.Ro)=_
   rw[hc,hd]
   simp only[hr]
  ·cases e
 ·cases e)
theorem Yi(f:UF)(a:Od):fg (sUn f a) (fun _ _=>fm f.f (bF a)):=dh (by
 intro E T t H h v T' H' hT hH e
 unfold sUn at e
 split at e
 ·rename_i x hx
  obtain⟨e1,rfl,rfl⟩:=mR e
  obtain⟨c,hc,gh⟩:=bB hT hx
  obtain⟨r,hr,L2⟩:=Sf gh e1
  refine⟨rfl,rfl,r,?_,L2⟩
  show(Option.rec Go.Ab.Ro.bad (fun a'=>Option.rec Go.Ab.Ro.bad (fun v=>Go.Ab.Ro.ok v h) (f.f a')) (bF a t):Go.Ab.Ro)=_
  rw[hc]
  simp only[hr]
 ·cases e)
theorem MY(a:Od):fg (HJ a) (fun _ _=>jZ (bF a)):=dh (by
 intro E T t H h v T' H' hT hH e
 unfold HJ at e
 split at e
 ·rename_i x hx
  obtain⟨c,hc,gh⟩:=bB hT hx
  split at e
  ·rename_i s hs
   obtain⟨rfl,rfl,rfl⟩:=aX e
   have:=qu gh hs;subst this
   exact⟨rfl,rfl,_,by unfold jZ;rw[hc],.i⟩
  ·rename_i s hs
   obtain⟨rfl,rfl,rfl⟩:=aX e
   have:=qu gh hs;subst this
   exact⟨rfl,rfl,_,by unfold jZ;rw[hc],gm⟩
  ·cases e
 ·cases e)
theorem Sh(a b:Od){t:Tm}{h:Hp}{k:IntKind}{m n:Int}(h1:bF a t=some (.int k m))(h2:bF b t=some (.int k n)):A1 (bF a) (bF b) t h=.ok (.int k (bif la n m then n else m)) h:=by
 unfold A1 ah
 rw[h1,h2]
 have q:=gK (f:=fun k a b=>some (.int k (bif la b a then b else a))) k m n
 simp only[dY q]
theorem Si(a b:Od){t:Tm}{h:Hp}{k:IntKind}{m n:Int}(h1:bF a t=some (.int k m))(h2:bF b t=some (.int k n)):A2 (bF a) (bF b) t h=.ok (.int k (bif la m n then n else m)) h:=by
 unfold A2 ah
 rw[h1,h2]
 have q:=gK (f:=fun k a b=>some (.int k (bif la a b then b else a))) k m n
 simp only[dY q]
theorem ads(m n:Int):(bif la n m then n else m)=min m n:=by
 rw[jg]
 by_cases q:n<m
 ·simp only[decide_eq_true q,cond_true];omega
 ·simp only[decide_eq_false q,cond_false];omega
theorem adt(m n:Int):(bif la m n then n else m)=max m n:=by
 rw[jg]
 by_cases q:m<n
 ·simp only[decide_eq_true q,cond_true];omega
 ·simp only[decide_eq_false q,cond_false];omega
theorem HS{mx:Bool}{a b:Od}{E:En}{T T':Tq}{t:Tm}{H H':Hq}{v:Sv}(hT:TV E H.next T t)(e:(F3 mx a b T H).val=some (v,T',H')):
 H'=H/\T'=T/\ ∃ k m n,bF a t=some (.int k m)/\bF b t=some (.int k n)/\V E H.next v (.int k (bif mx then(bif la m n then n else m)else(bif la n m then n else m))):=by
 unfold F3 at e
 split at e
 ·rename_i x hx
  split at e
  ·rename_i y hy
   obtain⟨c,hc,gh⟩:=bB hT hx
   obtain⟨d,hd,Qh⟩:=bB hT hy
   split at e
   ·rename_i k m k' n
    cases hk:jA k k' with
    |false=>rw[hk]at e;cases e
    |true=>
     rw[hk]at e
     obtain⟨rfl,rfl,rfl⟩:=aX e
     have:=eQ.1 hk;subst this
     cases gh;cases Qh
     exact⟨rfl,rfl,k,m,n,hc,hd,.i⟩
   ·split at e
    ·rename_i k m k' n h1 h2
     cases hk:jA k k' with
     |false=>rw[hk]at e;cases e
     |true=>
      rw[hk]at e
      obtain⟨rfl,rfl,rfl⟩:=aX e
      have:=eQ.1 hk;subst this
      rw[iD gh h1]at hc
      rw[iD Qh h2]at hd
      refine⟨rfl,rfl,k,m,n,hc,hd,?_⟩
      cases mx with
      |true=>simp only[cond_true,adt];exact gm
      |false=>simp only[cond_false,ads];exact gm
    ·cases e
  ·cases e
 ·cases e
theorem Sj(a b:Od):fg (F3 false a b) (fun _ _=>A1 (bF a) (bF b)):=dh (by
 intro E T t H h v T' H' hT hH e
 obtain⟨rfl,rfl,k,m,n,h1,h2,hv⟩:=HS hT e
 exact⟨rfl,rfl,_,Sh a b h1 h2,hv⟩)
theorem Sk(a b:Od):fg (F3 true a b) (fun _ _=>A2 (bF a) (bF b)):=dh (by
 intro E T t H h v T' H' hT hH e
 obtain⟨rfl,rfl,k,m,n,h1,h2,hv⟩:=HS hT e
 exact⟨rfl,rfl,_,Si a b h1 h2,hv⟩)
end Lf
end Go.Ab

noncomputable section
namespace Go.Ab
namespace Lf
theorem Dy{agg:Bool}{row:Rw}{b k o sz:Nat}{L:List AV}{c:AV}(s:row.lO b k=some L)(sr:0<sz)(h:part agg L o sz=some c):sE agg row (b+o) sz=some c:=by
 unfold part at h
 split at h
 ·cases h
 ·rename_i q hq
  obtain⟨rfl,hl⟩:=lP hq
  obtain⟨s1,s2⟩:=eS.1 s
  have hL:L.length=k:=by rw[s2,List.length_take,List.length_drop,eO];omega
  have hb:o+sz<=k:=by rw[List.length_take,List.length_drop]at hl;omega
  unfold sE
  rw[nW s hb]
  exact h
theorem MZ{agg:Bool}{l r:List AV}{sz:Nat}{c:AV}(h:part agg l 0 sz=some c):part agg (l++r) 0 sz=some c:=by
 unfold part at h
 split at h
 ·cases h
 ·rename_i q hq
  obtain⟨rfl,hl⟩:=lP hq
  rw[List.drop_zero]at h hl
  have:List.take sz (l++r)=List.take sz l:=List.take_append_of_le_length (by rw[List.length_take]at hl;omega)
  unfold part
  rw[tt (by rw[List.drop_zero,this,hl]),List.drop_zero,this]
  exact h
theorem vO{E:En}{H:Hq}{h:Hp}(S:SR E H h){r:Nat}{l:List Sv}(e:yn H r=some l): ∃ id row,(E.K r).av=.ref id 0/\h.aP.get id=some row/\Vs E H.next l row.toL:=by
 unfold yn at e
 split at e
 ·rename_i hr;cases e
  obtain⟨id,row,a,b,c,_⟩:=(S.row _ _ hr).2
  exact⟨id,row,a,b,c⟩
 ·rename_i hr;cases e
  obtain⟨id,row,a,b,c⟩:=(S.row _ _ hr).2
  exact⟨id,row,a,(S.g _ _ b).2.1,c⟩
 ·cases e
theorem uI{E:En}{N:Nat}{t:Ty}{x:List (den t)}{base i:Nat}{row:Rw}{ls:List AV}(hi:i<x.length)(s:row.lO base (x.length*size t)=some ls)(e:kR (EV E.G t) x ls):
 EV E.G t (x.getD i (ao t)) ((ls.drop (i*size t)).take (size t))/\Vs E N (nT t (x.getD i (ao t))) ((ls.drop (i*size t)).take (size t))/\row.lO (base+i*size t) (size t)=some ((ls.drop (i*size t)).take (size t)):=by
 have h1:=e.get (EV.length t) hi (ao t)
 refine⟨h1,rW rfl t _ _ h1,nW s ?_⟩
 have:=Nat.mul_le_mul_right (size t) (Nat.succ_le_of_lt hi)
 rw[Nat.succ_mul]at this;exact this
theorem M3{E:En}{H:Hq}{h:Hp}(S:SR E H h){r sz i id base n:Nat}{l:List Sv}(e:My H r sz i=some l)(hk:(E.K r).av=.ff id base n sz)(hi:i<n):
 ∃ row L,h.aP.get id=some row/\Vs E H.next l L/\row.lO (base+i*sz) sz=some L:=by
 have key: ∀ {t:Ty} {x:List (den t)} {S':Nat->Option Rw},(∀ row,S' id=some row->h.aP.get id=some row)->LR E.G t x (E.K r) S'->(bif Nat.beq sz (size t)then some (nT t (x.getD i (ao t)))else none)=some l-> ∃ row L,h.aP.get id=some row/\Vs E H.next l L/\row.lO (base+i*sz) sz=some L:=by
  intro t x S' hs q e
  obtain⟨hb,e⟩:=bV e
  cases e
  have hz:=beq_true hb
  rcases q.2 with⟨k,_⟩|⟨xH,MT,row,ls,k1,k2,k3,k4⟩
  ·rw[hk]at k;cases k
  ·rw[hk]at k1
   injection k1 with a1 a2 a3 a4
   subst a1;subst a2
   rw[<-q.1]at a3 k3
   rw[a3]at hi
   obtain⟨_,e2,e3⟩:=uI (N:=H.next) hi k3 k4
   exact⟨row,_,hs _ k2,e2,by rw[hz];exact e3⟩
 unfold My at e
 split at e
 ·rename_i t x hr;exact key (fun _ e=>e) (S.row _ _ hr).2 e
 ·rename_i t x hr;exact key (fun _ e=>(S.g _ _ e).2.1) (S.row _ _ hr).2 e
 ·cases e
theorem yv{E:En}{H:Hq}{h:Hp}(S:SR E H h){sz:Nat}{agg:Bool}{p v:Sv}{a:AV}(hv:V E H.next p a)(e:Aw sz agg p H=some v): ∃ c,xF h sz agg a=some c/\V E H.next v c:=by
 unfold Aw at e
 have sr:=bO.1 (bV e).1
 replace e:=(bV e).2
 split at e
 ·rename_i r o
  split at e
  ·rename_i l hl
   obtain⟨id,row,k1,k2,k3⟩:=vO S hl
   cases hv with
   |rf h1 h2=>
    rw[k1]at h2;cases h2
    obtain⟨c,c1,c2⟩:=oD k3 e
    refine⟨c,?_,c2⟩
    show(match h.aP.get id with|some cs=>sE agg cs o sz|none=>none)=_
    rw[k2];exact MN sr c1
  ·cases e
 ·rename_i r s i o
  split at e
  ·rename_i l hl
   cases hv with
   |re h1 h2 h3=>
    rename_i id base n
    obtain⟨row,L,k1,k2,k3⟩:=M3 S hl h2 h3
    obtain⟨c,c1,c2⟩:=oD k2 e
    refine⟨c,?_,c2⟩
    show(match h.aP.get id with|some cs=>sE agg cs (base+i*s+o) sz|none=>none)=_
    rw[k1];exact Dy k3 sr c1
  ·cases e
 ·cases hv with
  |zp k=>
   obtain⟨c,c1,c2⟩:=oD k e
   exact⟨c,MZ c1,c2⟩
  |zr k g s=>
   rename_i l' id off row
   obtain⟨c,c1,c2⟩:=oD k e
   refine⟨c,?_,c2⟩
   show(match h.aP.get id with|some cs=>sE agg cs off sz|none=>none)=_
   rw[(S.g _ _ g).2.1]
   have:=Dy s sr c1
   exact this
 ·cases e
theorem M4(sz:Nat)(agg:Bool)(a:Od):fg (HH sz agg a) (fun _ _=>bh sz agg (bF a)):=dh (by
 intro E T t H h v T' H' hT hH e
 unfold HH at e
 split at e
 ·rename_i p hp
  obtain⟨e1,rfl,rfl⟩:=mR e
  obtain⟨c,hc,gh⟩:=bB hT hp
  obtain⟨r,h1,h2⟩:=yv hH gh e1
  refine⟨rfl,rfl,r,?_,h2⟩
  unfold bh
  rw[hc]
  simp only[h1]
 ·cases e)
theorem BJ{E:En}{H:Hq}{h:Hp}(S:SR E H h){r id:Nat}{R R':Row}{Sl:Rw}(hr:H.aP.get r=some R)(lv:R.live=true)(VX:R'.live=true)(jG:lE (E.K r).av=some id)
 (hR:RV E H.next (jE h id (some Sl)) (E.K r) R'):SR E (jq H r (some R')) (jE h id (some Sl))/\Nx E E H (jq H r (some R')) h (jE h id (some Sl)):=by
 have ow: ∀ q,own (jq H r (some R')) q->own H q:=by
  rintro q ⟨Q,a,b⟩
  rw[fp]at a
  split at a
  ·rename_i e;rw[e];exact⟨R,hr,lv⟩
  ·exact⟨Q,a,b⟩
 refine⟨⟨?_,?_,?_,?_⟩,⟨xq.refl _ _,Nat.le_refl _,Nat.le_refl _,fun q id o e=>.inl ⟨q,ow q o,e⟩,fun _ _ e=>.inl e,fun i hi hn=>?_⟩⟩
 ·intro q Q hq
  rw[fp]at hq
  split at hq
  ·rename_i e;subst e;cases hq;exact⟨(S.row _ _ hr).1,hR⟩
  ·rename_i ne
   refine⟨(S.row _ _ hq).1,(S.row _ _ hq).2.mono (xq.refl _ _) (Nat.le_refl _) fun lq i row e1 e2=>?_⟩
   rw[jO,if_neg fun ei=>ne (S.inj q r id ⟨Q,hq,lq⟩ ⟨R,hr,lv⟩ (by rw[e1,ei]) jG)]
   exact e2
 ·exact fun a b i oa ob ea eb=>S.inj a b i (ow a oa) (ow b ob) ea eb
 ·exact fun a i oa ea=>S.lt a i (ow a oa) ea
 ·intro i row e
  obtain⟨a,b,c⟩:=S.g i row e
  refine⟨a,?_,fun q oq=>c q (ow q oq)⟩
  rw[jO,if_neg fun ei=>c r ⟨R,hr,lv⟩ (by rw[ei];exact jG)]
  exact b
 ·rw[jO,if_neg fun ei=>hn r ⟨R,hr,lv⟩ (by rw[ei];exact jG)]
theorem xr(L B v:List AV)(o:Nat)(h:o+v.length<=L.length): ∀ (A:List AV),put (A++(L++B)) (A.length+o) v=A++(put L o v++B)
 | []=>by
  simp only[List.nil_append,List.length_nil,Nat.zero_add]
  rw[put_eq,put_eq,List.take_append_of_le_length (by omega),List.drop_append_of_le_length h]
  simp
 |a::A=>by
  have:=xr L B v o h A
  rw[put_eq]at this ⊢
  rw[List.length_cons,show A.length+1+o=A.length+o+1 by omega,List.cons_append,List.take_succ_cons,show A.length+o+1+v.length=A.length+o+v.length+1 by omega,List.drop_succ_cons,List.cons_append,this]
  rfl
theorem xt(l:List AV)(o:Nat)(v:List AV)(h:o+v.length<=l.length):(put l o v).length=l.length:=by
 rw[put_eq,List.length_append,List.length_append,List.length_take,List.length_drop];omega
theorem JG{G:Nat->Option Rw}{t:Ty}{x:List (den t)}{ls:List AV}(e:kR (EV G t) x ls){i:Nat}(hi:i<x.length):ls=ls.take (i*size t)++((ls.drop (i*size t)).take (size t)++ls.drop (i*size t+size t)):=by
 rw[<-List.drop_drop,List.take_append_drop,List.take_append_drop]
theorem Sm{G:Nat->Option Rw}{t:Ty}{x:List (den t)}{ls:List AV}(e:kR (EV G t) x ls){i:Nat}(hi:i<x.length){y:den t}{c:List AV}(hy:EV G t y c):kR (EV G t) (x.set i y) (ls.take (i*size t)++(c++ls.drop (i*size t+size t))):=by
 rw[List.set_eq_take_append_cons_drop,if_pos hi]
 have h1:=e.take (EV.length t) i
 have h2:=e.drop (EV.length t) (i+1)
 rw[Nat.succ_mul]at h2
 exact h1.app ⟨c,_,rfl,hy,h2⟩
theorem JH(sz:Nat)(a b:Od):fg (FX sz a b) (fun _ _=>aF sz (bF a) (bF b)):=by
 intro E T t H h v T' H' hT hH e
 unfold FX at e
 split at e
 ·rename_i w hw
  cases hb:(Nat.beq (len w.cells) sz&&cu Dp w.cells)with
  |false=>rw[hb]at e;cases e
  |true=>
   rw[hb]at e
   simp only[cond_true]at e
   rw[Bool.and_eq_true]at hb
   obtain⟨d,hd,Qh⟩:=bB hT hw
   have pD:=Qh.cells
   have hlen:d.cells.length=w.cells.length:=pD.length.symm
   have sr:w.cells.length=sz:=by have:=beq_true hb.1;rwa [bW]at this
   have F':cu dN d.cells=true:=by
    rw[g5,List.all_eq_true]
    refine pD.Fi fun q hq=>?_
    have:=hb.2;rw[g5,List.all_eq_true]at this;exact this q hq
   have xj: ∀ {id off:Nat} {row:Rw},bF a t=some (.ref id off)->h.aP.get id=some row->off+sz<=row.n->aF sz (bF a) (bF b) t h=.ok gQ (jE h id (some (row.put off d.cells))):=by
    intro id off row h1 h2 h3
    unfold aF
    rw[h1,hd]
    simp only[h2]
    have q:(Nat.beq (len d.cells) sz&&(Nat.ble (Nat.add off (len d.cells)) row.n&&cu dN d.cells))=true:=by
     rw[bW,hlen,sr,F',Nat.beq_refl,Bool.and_true,Bool.true_and]
     rw[Nat.ble_eq];exact h3
    rw[q];rfl
   split at e
   ·rename_i r o ha
    obtain⟨p,hp,lC⟩:=bB hT ha
    split at e
    ·rename_i l hr
     cases hq:Nat.ble (Nat.add o (len w.cells)) (len l)with
     |false=>rw[hq]at e;cases e
     |true=>
      rw[hq]at e
      obtain⟨rfl,rfl,rfl⟩:=aX e
      have hq:=Nat.le_of_ble_eq_true hq
      rw[bW,bW]at hq
      obtain⟨id,row,k1,k2,k3,k4⟩:=(hH.row _ _ hr).2
      cases lC with
      |rf h1 h2=>
       rw[k1]at h2;cases h2
       have hn:o+sz<=row.n:=by rw[<-eO,<-k3.length,<-sr];exact hq
       have hR:RV E H.next (jE h id (some (row.put o d.cells))) (E.K r) (.o _ (lV l o w.cells)):=
        ⟨id,row.put o d.cells,k1,by rw[jO,if_pos rfl],by rw[ub (by rw[hlen,sr];exact hn)];exact k3.put pD o,k4⟩
       obtain⟨S,X⟩:=BJ hH hr rfl rfl (by rw[k1];rfl) hR
       exact⟨_,_,E,Ev.const (xj hp k2 hn),X,S,.tu .nil,hT⟩
    ·cases e
   ·rename_i r s i o ha
    obtain⟨p,hp,lC⟩:=bB hT ha
    split at e
    ·rename_i ty x hr
     cases hq:(Nat.beq s (size ty)&&Nat.ble (Nat.add o (len w.cells)) s)with
     |false=>rw[hq]at e;cases e
     |true=>
      rw[hq]at e
      simp only[cond_true]at e
      rw[Bool.and_eq_true]at hq
      have hs:s=size ty:=beq_true hq.1
      have hos:=Nat.le_of_ble_eq_true hq.2
      rw[bW]at hos
      split at e
      ·rename_i y H1 hy
       split at e
       ·rename_i t2 x2 hr2
        obtain⟨rfl,rfl,rfl⟩:=aX e
        cases lC with
        |re h1 h2 h3=>
         rename_i id base n
         have q:=(hH.row _ _ hr).2
         rcases q.2 with⟨k,_⟩|⟨xH,MT,row,ls,k1,k2,k3,k4⟩
         ·rw[h2]at k;cases k
         ·rw[h2]at k1
          injection k1 with a1 a2 a3 a4
          subst a1;subst a2
          rw[<-q.1]at a3 k3
          rw[a3]at h3
          obtain⟨_,e2,e3⟩:=uI (N:=H.next) h3 k3 k4
          obtain⟨E1,c,dd,F,hcd,hey,aiO⟩:=tv ty E H h _ [] _ y H1 hH (e2.put pD o) hy
          have hdd:dd=[]:=by cases aiO;rfl
          rw[hdd,List.append_nil]at hcd
          have hr1:H1.aP.get r=some (.l t2 x2):=hr2
          have q2:=(F.S.row _ _ hr1).2
          have hKr:(E1.K r).av=.ff id base n s:=by rw[F.K];exact h2
          have hL:((ls.drop (i*size ty)).take (size ty)).length=size ty:=(uI (N:=H.next) h3 k3 k4).1 |> EV.length ty _ _
          have apR:ls.length=x.length*size ty:=k4.length (EV.length ty)
          have hle:i*size ty+size ty<=x.length*size ty:=by
           have:=Nat.mul_le_mul_right (size ty) (Nat.succ_le_of_lt h3)
           rw[Nat.succ_mul]at this;exact this
          obtain⟨s1,s2⟩:=eS.1 k3
          have hn:base+i*s+o+sz<=row.n:=by rw[hs];rw[sr,hs]at hos;have e0:o+sz<=size ty:=hos;omega
          have aiP:(row.put (base+i*s+o) d.cells).lO base (x.length*size ty)=some (ls.take (i*size ty)++(c++ls.drop (i*size ty+size ty))):=by
           have Yj:base+i*s+o+d.cells.length<=row.n:=by rw[hlen,sr];exact hn
           refine eS.2 ⟨by show base+_<=row.n;exact s1,?_⟩
           rw[ub Yj,<-hcd]
           have s5:row.toL=row.toL.take base++(ls++row.toL.drop (base+x.length*size ty)):=by
            rw[s2,<-List.drop_drop,List.take_append_drop,List.take_append_drop]
           have Ft:(row.toL.take base).length=base:=by rw[List.length_take,eO];omega
           have hls:=JG k4 h3
           have hA:(ls.take (i*size ty)).length=i*size ty:=by rw[List.length_take];omega
           have hod:o+d.cells.length<=size ty:=by rw[hlen,<-hs];exact hos
           have e1:put row.toL (base+i*s+o) d.cells=row.toL.take base++(put ls (i*size ty+o) d.cells++row.toL.drop (base+x.length*size ty)):=by
            have:=xr ls (row.toL.drop (base+x.length*size ty)) d.cells (i*size ty+o) (by omega) (row.toL.take base)
            rw[<-s5,Ft]at this
            rw[hs,Nat.add_assoc];exact this
           have e2:put ls (i*size ty+o) d.cells=ls.take (i*size ty)++(put ((ls.drop (i*size ty)).take (size ty)) o d.cells++ls.drop (i*size ty+size ty)):=by
            have:=xr ((ls.drop (i*size ty)).take (size ty)) (ls.drop (i*size ty+size ty)) d.cells o (by rw[hL];exact hod) (ls.take (i*size ty))
            rw[<-hls,hA]at this
            exact this
           rw[e1,List.drop_append_of_le_length (by rw[Ft];exact Nat.le_refl _)]
           rw[show List.drop base (row.toL.take base)=[]from by rw[List.drop_eq_nil_iff,Ft];exact Nat.le_refl _,List.nil_append]
           rw[List.take_append_of_le_length (by rw[xt _ _ _ (by omega)];omega)]
           rw[show List.take (x.length*size ty) (put ls (i*size ty+o) d.cells)=put ls (i*size ty+o) d.cells from by rw[List.take_of_length_le];rw[xt _ _ _ (by omega)];omega]
           exact e2.symm
          have hR:RV E1 H1.next (jE h id (some (row.put (base+i*s+o) d.cells))) (E1.K r) (.l ty (x.set i y)):=by
           refine⟨by rw[List.length_set,F.K];exact q.1,.inr ⟨id,base,row.put (base+i*s+o) d.cells,_,?_,by rw[jO,if_pos rfl],?_,Sm (k4.mono (EV.mono F.g ty)) h3 hey⟩⟩
           ·rw[hKr,F.K,<-q.1,hs,a3]
           ·rw[F.K,<-q.1];exact aiP
          obtain⟨S,X⟩:=BJ F.S hr1 rfl rfl (by rw[hKr];rfl) hR
          exact⟨_,_,E1,Ev.const (xj hp k2 hn),F.X.trans X,S,.tu .nil,hT.mono (F.X.trans X).e (F.X.trans X).le⟩
       ·cases e
      ·cases e
    ·cases e
   ·cases e
 ·cases e
end Lf
end Go.Ab
