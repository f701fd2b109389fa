import Derived.Test.YtbplobpobnagkaaGreatDoorAb35
noncomputable section
namespace Go.Ab
namespace Lf
section
variable {E:En}{N:Nat}
theorem Mv{a:AV}{b:Sv}(h:ofA a=some b):V E N b a:=by
 unfold ofA at h
 split at h
 ·cases h;exact .i
 ·cases h;exact .b
 ·cases h;exact .a rfl
 ·cases h;exact .a rfl
 ·cases h;exact .a rfl
 ·cases h;exact .tu .nil
 ·cases h;exact .fn .nil
 ·cases h
theorem ud{l:List AV}: ∀ {m:List Sv},Jj l=some m->Vs E N m l:=by
 induction l with
 |nil=>intro m h;cases h;exact .nil
 |cons a l ih=>
  intro m h
  change (match ofA a with|some b=>(match Jj l with|some r=>some (b::r)|none=>none)|none=>none)=some m at h
  split at h
  ·rename_i b hb
   split at h
   ·rename_i r hr;cases h;exact .cons (Mv hb) (ih hr)
   ·cases h
  ·cases h
theorem bz{T:Tq}{t:Tm}(hT:TV E N T t){o:Od}{a:Sv}(h:jS o T=some a): ∃ c,bB o t=some c/\V E N a c:=by
 cases o with
 |t i=>
  change (bif Nat.blt i 512 then T.at i else none)=some a at h
  obtain⟨hi,h⟩:=bQ h
  exact hT i a (bH.1 hi) h
 |c v=>exact⟨v,rfl,Mv h⟩
 |zz=>cases h
 |w o=>cases h
theorem nN{T:Tq}{t:Tm}(hT:TV E N T t){o:Od}{a:Sv}(h:opw o T=some a): ∃ c,bB o t=some (uS c)/\V E N a c:=by
 cases o with
 |w o=>
  obtain⟨c,hc,hv⟩:=bz hT (o:=o) h
  refine⟨c,?_,hv⟩
  show(Option.rec none (fun a=>some (uS a)) (bB o t):Option AV)=_
  rw[hc]
 | _=>cases h
theorem Bm{T:Tq}{t:Tm}(hT:TV E N T t): ∀ {l:List Od} {vs:List Sv},Mb l T=some vs->(∃ cs,uV (l.map bB) t=some cs/\Vs E N vs cs):=by
 intro l
 induction l with
 |nil=>intro vs h;cases h;exact⟨[],rfl,.nil⟩
 |cons o l ih=>
  intro vs h
  change (match jS o T with|some v=>(match Mb l T with|some vs=>some (v::vs)|none=>none)|none=>none)=some vs at h
  split at h
  ·rename_i v hv
   split at h
   ·rename_i us hu
    cases h
    obtain⟨c,hc,gh⟩:=bz hT hv
    obtain⟨cs,n8,XL⟩:=ih hu
    refine⟨c::cs,?_,.cons gh XL⟩
    show(Option.rec none (fun v=>Option.rec none (fun vs=>some (v::vs)) (uV (l.map bB) t)) (bB o t):Option (List AV))=_
    rw[hc,n8]
   ·cases h
  ·cases h
theorem iD{v:Sv}{x:LB}{a:AV}(h:V E N v a)(e:toB v=some x):a=.bool x.v:=by
 cases h with
 |b=>cases e;rfl
 |c k _=>
  unfold toB at e
  split at e
  ·rename_i h;cases h
  ·rename_i h;cases h;cases e
   have k':[a]=[AV.bool _]:=k
   injection k'
  ·cases e
 | _=>cases e
theorem iE{v:Sv}{k:IntKind}{n:Int}{a:AV}(h:V E N v a)(e:toN v=some (k,n)):a=.int k n:=by
 cases h with
 |i=>cases e;rfl
 |c q _=>
  unfold toN at e
  split at e
  ·rename_i h;cases h
  ·rename_i h;cases h;cases e
   have k':[a]=[AV.int _ _]:=q
   injection k'
  ·cases e
 | _=>cases e
theorem qf{v:Sv}{l:Bool}{s:ByteArray}{a:AV}(h:V E N v a)(e:toS v=some (l,s)):a=.sc (.string s):=by
 cases h with
 |a h=>
  unfold toS at e
  split at e
  ·rename_i h;cases h;cases e;rfl
  ·rename_i h;cases h
  ·cases e
 |c q _=>
  unfold toS at e
  split at e
  ·rename_i h;cases h
  ·rename_i h;cases h;cases e
   have k':[a]=[AV.sc (.string _)]:=q
   injection k'
  ·cases e
 | _=>cases e
theorem gm{k:IntKind}{n:Int}:V E N (.c 0 (.int k) n) (.int k n):=.c rfl fun h=>(h rfl).elim
theorem lM{b:Bool}:V E N (.c 0 .bool b) (.bool b):=.c rfl fun h=>(h rfl).elim
theorem XM{c:LB}:V E N (svB c) (.bool c.v):=by cases c with
 |l b=>exact .b
 |t b=>exact lM
theorem vi{α:Type}{j:Od}{T:Tq}{t:Tm}{a b:Tq->Lf.T α}{r:α}(hT:TV E N T t)(h:(sK j T a b).val=some r):
 ∃ c T1,bB j t=some (.bool c)/\TV E N T1 t/\(c=true->(a T1).val=some r)/\(c=false->(b T1).val=some r):=by
 unfold sK at h
 split at h
 ·rename_i i
  cases hb:Nat.blt i 512 with
  |false=>rw[hb]at h;cases h
  |true=>
   rw[hb]at h
   simp only[cond_true]at h
   split at h
   ·rename_i c hc
    obtain⟨x,hx,hv⟩:=hT i _ (bH.1 hb) hc
    cases hv
    refine⟨c,T,hx,hT,fun e=>?_,fun e=>?_⟩<;>subst e<;>exact h
   ·rename_i m x hc
    obtain⟨y,hy,hv⟩:=hT i _ (bH.1 hb) hc
    have:=iD hv rfl
    subst this
    have key: ∀ c:Bool,c=x->TV E N (T.put i (some (.b c))) t:=by
     intro c hcx j v hj hv
     rw[Tq.jA _ _ _ _ (bH.1 hb) hj]at hv
     split at hv
     ·rename_i e;subst e;cases hv;exact⟨_,hy,by rw[hcx];exact .b⟩
     ·exact hT j v hj hv
    cases x with
    |true=>exact⟨true,_,hy,key true rfl,fun _=>h,fun e=>by cases e⟩
    |false=>exact⟨false,_,hy,key false rfl,(fun e=>by cases e),fun _=>h⟩
   ·cases h
 ·rename_i c
  refine⟨c,T,rfl,hT,fun e=>?_,fun e=>?_⟩<;>subst e<;>exact h
 ·cases h
theorem yf(x:Od):eS (x' x) (fun _ _=>aa (bB x)):=db (by
 intro E T t H h v T' H' hT hH e
 unfold x' okO at e
 split at e
 ·rename_i v' hv
  cases e
  obtain⟨c,hc,gh⟩:=bz hT hv
  refine⟨rfl,rfl,c,?_,gh⟩
  show(Option.rec Go.Ab.Ro.bad (fun v=>Go.Ab.Ro.ok v h) (bB x t):Go.Ab.Ro)=_
  rw[hc]
 ·cases e)
theorem Mw(c a b:Od):eS (Vx c a b) (fun _ _=>aV (bB c) (bB a) (bB b)):=by
 intro E T t H h v T' H' hT hH e
 obtain⟨x,T1,hx,tj,h1,h2⟩:=vi hT e
 have hk:aV (bB c) (bB a) (bB b) t h=bif x then aa (bB a) t h else aa (bB b) t h:=by unfold aV;rw[hx]
 cases x with
 |true=>
  obtain⟨c',h',E',e1,e2⟩:=yf a E T1 t H h v T' H' tj hH (h1 rfl)
  exact⟨c',h',E',by simp only[hk];exact e1,e2⟩
 |false=>
  obtain⟨c',h',E',e1,e2⟩:=yf b E T1 t H h v T' H' tj hH (h2 rfl)
  exact⟨c',h',E',by simp only[hk];exact e1,e2⟩
theorem mG{v:Option Sv}{t T':Tq}{h H':Hq}{w:Sv}(e:(okO v t h).val=some (w,T',H')):v=some w/\T'=t/\H'=h:=by
 unfold okO at e
 split at e
 ·cases e;exact⟨rfl,rfl,rfl⟩
 ·cases e
theorem aU{v:Sv}{t T':Tq}{h H':Hq}{w:Sv}(e:(okV v t h).val=some (w,T',H')):v=w/\T'=t/\H'=h:=by cases e;exact⟨rfl,rfl,rfl⟩
theorem Dh(a:Od)(i:Nat):eS (tZ a i) (fun _ _=>aS (bB a) i):=db (by
 intro E T t H h v T' H' hT hH e
 unfold tZ at e
 split at e
 ·rename_i vs hv
  obtain⟨e1,rfl,rfl⟩:=mG e
  obtain⟨c,hc,gh⟩:=bz hT hv
  cases gh with
  |tu k=>
   rw[gD]at e1
   obtain⟨c,h1,h2⟩:=k.get e1
   refine⟨rfl,rfl,c,?_,h2⟩
   unfold aS
   rw[hc]
   simp only[gD,h1]
 ·cases e)
theorem Jp(off size:Nat)(agg:Bool)(a:Od):eS (Bi off size agg a) (fun _ _=>nI off size agg (bB a)):=db (by
 intro E T t H h v T' H' hT hH e
 unfold Bi at e
 split at e
 ·rename_i vs hv
  obtain⟨e1,rfl,rfl⟩:=mG e
  obtain⟨c,hc,gh⟩:=bz hT hv
  cases gh with
  |ag k=>
   obtain⟨c,h1,h2⟩:=ov k e1
   refine⟨rfl,rfl,c,?_,h2⟩
   unfold nI
   rw[hc]
   simp only[h1]
 ·cases e)
theorem XN(f:FuncId)(cap:List Od):eS (sFn f cap) (fun _ _=>P4 f (cap.map bB)):=db (by
 intro E T t H h v T' H' hT hH e
 unfold sFn at e
 split at e
 ·rename_i vs hv
  obtain⟨rfl,rfl,rfl⟩:=aU e
  obtain⟨c,hc,gh⟩:=Bm hT hv
  refine⟨rfl,rfl,_,?_,.fn gh⟩
  unfold P4
  rw[hc]
 ·cases e)
theorem RX(a:Od):eS (Ho a) (fun _ _=>bq (bB a)):=db (by
 intro E T t H h v T' H' hT hH e
 unfold Ho at e
 split at e
 all_goals first
  |(cases e;done)
  |(rename_i hv
    obtain⟨rfl,rfl,rfl⟩:=aU e
    obtain⟨c,hc,gh⟩:=bz hT hv
    refine⟨rfl,rfl,c,?_,gh⟩
    unfold bq
    rw[hc]
    cases gh<;>rfl))
theorem zy(off:Nat)(a:Od):eS (pF off a) (fun _ _=>ab off (bB a)):=db (by
 intro E T t H h v T' H' hT hH e
 unfold pF at e
 split at e
 ·rename_i r o hv
  obtain⟨rfl,rfl,rfl⟩:=aU e
  obtain⟨c,hc,gh⟩:=bz hT hv
  cases gh with
  |rf h1 h2=>exact⟨rfl,rfl,_,by unfold ab;rw[hc],.rf h1 h2⟩
 ·rename_i r s i o hv
  obtain⟨rfl,rfl,rfl⟩:=aU e
  obtain⟨c,hc,gh⟩:=bz hT hv
  cases gh with
  |re h1 h2 h3=>exact⟨rfl,rfl,_,by unfold ab;rw[hc],by have:=V.re (o:=o+off) h1 h2 h3;rw[<-Nat.add_assoc]at this;exact this⟩
 ·rename_i l hv
  cases hb:Nat.ble off (len l)with
  |false=>rw[hb]at e;cases e
  |true=>
   rw[hb]at e
   obtain⟨rfl,rfl,rfl⟩:=aU e
   have hle:off<=l.length:=by have:=Nat.le_of_ble_eq_true hb;rwa [bM]at this
   obtain⟨c,hc,gh⟩:=bz hT hv
   rw[jY]
   cases gh with
   |zp k=>
    rename_i l' r
    refine⟨rfl,rfl,_,by unfold ab;rw[hc],?_⟩
    rw[jY,List.drop_append_of_le_length (by rw[<-k.length];exact hle)]
    exact .zp (k.drop off)
   |zr k g s=>
    rename_i l' id o row
    refine⟨rfl,rfl,_,by unfold ab;rw[hc],?_⟩
    refine .zr (k.drop off) g ?_
    obtain⟨s1,s2⟩:=eR.1 s
    rw[List.length_drop]
    refine eR.2 ⟨by have e1:Nat.add o off=o+off:=rfl;omega,?_⟩
    rw[s2,List.drop_take,List.drop_drop]
    rfl
 ·cases e)
end
end Lf
end Go.Ab

noncomputable section
namespace Go.Ab
namespace Lf
theorem kP{H:Hq}{R:Row}{i:Nat}:(eK H R).aL.get i=if i=H.next then some R else H.aL.get i:=Tr.jX _ _ _ _
theorem fp{H:Hq}{r i:Nat}{R:Option Row}:(jo H r R).aL.get i=if i=r then R else H.aL.get i:=Tr.jX _ _ _ _
theorem gn{h:Hp}{cs:Rw}{i:Nat}:(dw h cs).aL.get i=if i=h.next then some cs else h.aL.get i:=Tr.jX _ _ _ _
theorem jL{h:Hp}{r i:Nat}{cs:Option Rw}:(jz h r cs).aL.get i=if i=r then cs else h.aL.get i:=Tr.jX _ _ _ _
theorem LR.mono{G G':Nat->Option Rw}{S S':Nat->Option Rw}(hg:RU G G'){t:Ty}{x:List (den t)}{k:Kr}(hs: ∀ id row,ly k.av=some id->S id=some row->S' id=some row)(h:LR G t x k S):LR G' t x k S':=by
 refine⟨h.1,?_⟩
 rcases h.2 with h2|⟨id,base,row,ls,e,s,g,l⟩
 ·exact .inl h2
 ·exact .inr ⟨id,base,row,ls,e,hs _ _ (by rw[e];rfl) s,g,l.mono (EV.mono hg t)⟩
theorem RV.mono{E E':En}{N N':Nat}{h h':Hp}{k:Kr}{R:Row}(e:w7 E E' N)(hN:N<=N')(hs:R.live=true-> ∀ id row,ly k.av=some id->h.aL.get id=some row->h'.aL.get id=some row)(r:RV E N h k R):RV E' N' h' k R:=by
 cases R with
 |o g l=>obtain⟨id,row,a,b,c,d⟩:=r;exact⟨id,row,a,hs rfl _ _ (by rw[a];rfl) b,c.mono e hN,by rw[e.A];exact d⟩
 |zo l=>obtain⟨id,row,a,b,c⟩:=r;exact⟨id,row,a,e.G _ _ b,c.mono e hN⟩
 |l t x=>exact LR.mono e.G (hs rfl) r
 |z t x=>exact LR.mono e.G (fun id row _ k=>e.G _ _ k) r
def En.row(E:En)(r:Nat)(k:Kr):En:=⟨fun i=>if i=r then k else E.K i,E.tk,E.G,E.A⟩
theorem En.qC(E:En)(r:Nat)(k:Kr):w7 E (E.row r k) r:=⟨fun i hi=>if_neg (by omega),fun _ _=>rfl,fun _ _ e=>e,rfl⟩
theorem kQ{E:En}{H:Hq}{h:Hp}(S:SR E H h){H1:Hq}(XO:H1.next=H.next)(XP: ∀ r R,H1.aL.get r=some R->H.aL.get r=some R){k:Kr}{R:Row}{h':Hp}(hn:h.next<=h'.next)
 (ic: ∀ id,id<h.next->(∀ r,own H r-> ¬ own H1 r->ly (E.K r).av≠some id)->h'.aL.get id=h.aL.get id)
 (jB: ∀ id,ly k.av=some id->id<h'.next/\(h.next<=id∨ ∃ r,own H r/\ ¬ own H1 r/\ly (E.K r).av=some id))
 (hR:RV E H.next h' k R)(live:R.live=true):SR (E.row H.next k) (eK H1 R) h'/\Nx E (E.row H.next k) H (eK H1 R) h h':=by
 have hle:=En.qC E H.next k
 have Mx: ∀ r,own H1 r->own H r:=fun r ⟨R,a,b⟩=>⟨R,XP _ _ a,b⟩
 have n5: ∀ r,own (eK H1 R) r->r=H.next∨(r<H.next/\own H1 r):=by
  rintro r ⟨R',a,b⟩
  rw[kP,XO]at a
  split at a
  ·exact .inl ‹_›
  ·exact .inr ⟨(S.row _ _ (XP _ _ a)).1,R',a,b⟩
 have AK: ∀ r,own H1 r-> ∀ id,ly (E.K r).av=some id->h'.aL.get id=h.aL.get id:=by
  intro r o id e
  refine ic id (S.lt r id (Mx r o) e) fun r' o' n' e'=>?_
  exact n' (by rw[S.inj r' r id o' (Mx r o) e' e];exact o)
 have acF: ∀ id row,E.G id=some row->h'.aL.get id=some row:=by
  intro id row e
  obtain⟨a,b,c⟩:=S.g id row e
  rw[ic id a fun r o _=>c r o,b]
 have K0:(E.row H.next k).K H.next=k:=if_pos rfl
 have K1: ∀ r,r<H.next->(E.row H.next k).K r=E.K r:=fun r hr=>if_neg (by omega)
 refine⟨⟨?_,?_,?_,?_⟩,⟨hle,?_,hn,?_,?_,?_⟩⟩
 ·intro r R' hr
  rw[kP,XO]at hr
  split at hr
  ·rename_i e
   cases hr
   subst e
   rw[K0]
   exact⟨by show _<Nat.add H1.next 1;rw[XO];exact Nat.lt_succ_self _,RV.mono hle (by show _<=Nat.add H1.next 1;rw[XO];exact Nat.le_succ _) (fun _ _ _ _ e=>e) hR⟩
  ·have h0:=S.row _ _ (XP _ _ hr)
   refine⟨by show _<Nat.add H1.next 1;rw[XO];exact Nat.lt_succ_of_lt h0.1,?_⟩
   rw[K1 _ h0.1]
   exact RV.mono hle (by show _<=Nat.add H1.next 1;rw[XO];exact Nat.le_succ _) (fun lv id row e1 e2=>by rw[AK r ⟨R',hr,lv⟩ id e1];exact e2) h0.2
 ·intro r r' id o o' e e'
  rcases n5 r o with a|⟨a1,a2⟩<;>rcases n5 r' o' with b|⟨b1,b2⟩
  ·rw[a,b]
  ·subst a
   rw[K0]at e;rw[K1 _ b1]at e'
   rcases(jB id e).2 with c|⟨q,q1,q2,q3⟩
   ·have:=S.lt _ _ (Mx _ b2) e';omega
   ·exact(q2 (by rw[S.inj q r' id q1 (Mx _ b2) q3 e'];exact b2)).elim
  ·subst b
   rw[K0]at e';rw[K1 _ a1]at e
   rcases(jB id e').2 with c|⟨q,q1,q2,q3⟩
   ·have:=S.lt _ _ (Mx _ a2) e;omega
   ·exact(q2 (by rw[S.inj q r id q1 (Mx _ a2) q3 e];exact a2)).elim
  ·rw[K1 _ a1]at e;rw[K1 _ b1]at e'
   exact S.inj r r' id (Mx _ a2) (Mx _ b2) e e'
 ·intro r id o e
  rcases n5 r o with a|⟨a1,a2⟩
  ·subst a;rw[K0]at e;exact(jB id e).1
  ·rw[K1 _ a1]at e;exact Nat.lt_of_lt_of_le (S.lt _ _ (Mx _ a2) e) hn
 ·intro id row e
  obtain⟨a,b,c⟩:=S.g id row e
  refine⟨Nat.lt_of_lt_of_le a hn,acF id row e,fun r o e2=>?_⟩
  rcases n5 r o with q|⟨q1,q2⟩
  ·subst q;rw[K0]at e2
   rcases(jB id e2).2 with w|⟨w,w1,w2,w3⟩
   ·omega
   ·exact c _ w1 w3
  ·rw[K1 _ q1]at e2;exact c r (Mx _ q2) e2
 ·show H.next<=Nat.add H1.next 1;rw[XO];exact Nat.le_succ _
 ·intro r id o e
  rcases n5 r o with a|⟨a1,a2⟩
  ·subst a;rw[K0]at e
   rcases(jB id e).2 with w|⟨w,w1,w2,w3⟩
   ·exact .inr w
   ·exact .inl ⟨w,w1,w3⟩
  ·rw[K1 _ a1]at e;exact .inl ⟨r,Mx _ a2,e⟩
 ·exact fun id row e=>.inl e
 ·exact fun id hi hn=>ic id hi fun r o _=>hn r o
theorem Hv{E:En}{H:Hq}{h:Hp}(S:SR E H h){k:Kr}{R:Row}{rw:Rw}(hk:ly k.av=some h.next∨ly k.av=none)
 (hR:RV E H.next (dw h rw) k R)(live:R.live=true):SR (E.row H.next k) (eK H R) (dw h rw)/\Nx E (E.row H.next k) H (eK H R) h (dw h rw):=by
 refine kQ S rfl (fun _ _ e=>e) (Nat.le_succ _) (fun id hi _=>?_) (fun id e=>?_) hR live
 ·rw[gn,if_neg (by omega)]
 ·rcases hk with hk|hk
  ·rw[hk]at e;cases e;exact⟨Nat.lt_succ_self _,.inl (Nat.le_refl _)⟩
  ·rw[hk]at e;cases e
theorem My{E:En}{H:Hq}{h:Hp}(S:SR E H h){l:List Sv}{rw:Rw}(hv:Vs E H.next l rw.toL):
 SR (E.row H.next ⟨.ref h.next 0,0⟩) (eK H (.o 0 l)) (dw h rw)/\Nx E (E.row H.next ⟨.ref h.next 0,0⟩) H (eK H (.o 0 l)) h (dw h rw):=
 Hv S (.inl rfl) ⟨h.next,rw,rfl,by rw[gn,if_pos rfl],hv,fun h=>(h rfl).elim⟩ rfl
theorem VB{E:En}{H:Hq}{h:Hp}(S:SR E H h){t:Ty}{x:List (den t)}{rw:Rw}(hv:kG (EV E.G t) x rw.toL):
 SR (E.row H.next ⟨.ff h.next 0 x.length (size t),x.length⟩) (eK H (.l t x)) (dw h rw)/\Nx E (E.row H.next ⟨.ff h.next 0 x.length (size t),x.length⟩) H (eK H (.l t x)) h (dw h rw):=by
 have hl:=hv.length (EV.length t)
 refine Hv S (.inl rfl) ⟨rfl,.inr ⟨h.next,0,rw,rw.toL,rfl,by rw[gn,if_pos rfl],?_,hv⟩⟩ rfl
 refine eR.2 ⟨by rw[<-eN,hl,Nat.zero_add];exact Nat.le_refl _,?_⟩
 show _=List.take (x.length*size t) _
 rw[<-hl,List.drop_zero,List.take_length]
theorem TV.put{E:En}{N:Nat}{T:Tq}{t:Tm}(h:TV E N T t){i:Nat}{v:Sv}{a:AV}(hi:i<512)(hv:V E N v a):TV E N (T.put i (some v)) (t.put i (some a)):=by
 intro j w hj hw
 rw[Tq.jA _ _ _ _ hi hj]at hw
 rw[Tm.jA _ _ _ _ hi hj]
 split at hw
 ·rename_i e;cases hw;exact⟨a,if_pos e,hv⟩
 ·rename_i e;rw[if_neg e];exact h j w hj hw
theorem RY(cs:List AV):eS (XC cs) (fun _ _=>dY cs):=by
 intro E T t H h v T' H' hT hH e
 unfold XC at e
 split at e
 ·rename_i l hl
  obtain⟨rfl,rfl,rfl⟩:=aU e
  obtain⟨S,X⟩:=My hH (l:=l) (rw:=wM cs) (by rw[iQ];exact ud hl)
  exact⟨_,_,_,Ev.const rfl,X,S,.rf (Nat.lt_succ_self _) (by show(if H.next=H.next then _ else _:Kr).av=_;rw[if_pos rfl]),hT.mono X.e X.le⟩
 ·cases e
theorem RZ(x:Od):eS (XD x) (fun _ _=>en (bB x)):=by
 intro E T t H h v T' H' hT hH e
 unfold XD at e
 split at e
 ·rename_i w hw
  obtain⟨rfl,rfl,rfl⟩:=aU e
  obtain⟨c,hc,gh⟩:=bz hT hw
  obtain⟨S,X⟩:=My hH (l:=w.cells) (rw:=wM c.cells) (by rw[iQ];exact gh.cells)
  refine⟨_,_,_,Ev.const ?_,X,S,.rf (Nat.lt_succ_self _) (by show(if H.next=H.next then _ else _:Kr).av=_;rw[if_pos rfl]),hT.mono X.e X.le⟩
  unfold en
  rw[hc]
 ·cases e
theorem R1(l:List Sv)(off:Nat)(new:List Sv):lL l off new=l.take off++(new++l.drop (off+new.length)):=by
 unfold lL;rw[bp,bp,qx,jY,bM];rfl
theorem Vs.put{E:En}{N:Nat}{l:List Sv}{l':List AV}{m:List Sv}{m':List AV}(h:Vs E N l l')(k:Vs E N m m')(off:Nat):Vs E N (lL l off m) (put l' off m'):=by
 rw[R1,put_eq,k.length]
 exact(h.take off).app (k.app (h.drop _))
theorem rA{E:En}{N:Nat}: ∀ {ps:List (Nat×Nat×Sv)} {qs:List (Nat×Nat×AV)} {z r:List Sv} {z':List AV},ps.length=qs.length->(∀ (i:Nat) (p:Nat×Nat×Sv),ps[i]? =some p-> ∃ q:Nat×Nat×AV,qs[i]? =some q/\q.1=p.1/\q.2.1=p.2.1/\V E N p.2.2 q.2.2)->Vs E N z z'->
 Be ps z=some r-> ∃ r',xn qs z'=some r'/\Vs E N r r'
 | [],[],z,r,z',_,_,hz,e=>by cases e;exact⟨z',rfl,hz⟩
 | [],_::_,_,_,_,h,_,_,_=>by cases h
 | _::_,[],_,_,_,h,_,_,_=>by cases h
 |p::ps,q::qs,z,r,z',hl,hq,hz,e=>by
  obtain⟨q',XQ,h1,h2,hv⟩:=hq 0 p rfl
  cases XQ
  change (bif Nat.beq (len p.2.2.cells) p.2.1&&Nat.ble (Nat.add p.1 p.2.1) (len z)then Be ps (lL z p.1 p.2.2.cells)else none)=some r at e
  obtain⟨hb,e⟩:=bQ e
  obtain⟨r',hr,LD⟩:=rA (ps:=ps) (qs:=qs) (by simpa using hl) (fun i p hp=>hq (i+1) p hp) (hz.put hv.cells p.1) e
  refine⟨r',?_,LD⟩
  show(bif Nat.beq (len q.2.2.cells) q.2.1&&Nat.ble (Nat.add q.1 q.2.1) (len z')then xn qs (put z' q.1 q.2.2.cells)else none)=some r'
  rw[bM,<-hv.cells.length,h1,h2,bM,<-hz.length,<-bM,<-bM,hb,cond_true,hr]
theorem Ak{E:En}{N:Nat}{T:Tq}{t:Tm}(hT:TV E N T t): ∀ {ps:List (Nat×Nat×Od)} {vs:List (Nat×Nat×Sv)},Bf ps T=some vs->
 ∃ qs,nF (ps.map fun p=>(p.1,p.2.1,bB p.2.2)) t=some qs/\vs.length=qs.length/\ ∀ (i:Nat) (p:Nat×Nat×Sv),vs[i]? =some p-> ∃ q:Nat×Nat×AV,qs[i]? =some q/\q.1=p.1/\q.2.1=p.2.1/\V E N p.2.2 q.2.2
 | [],vs,e=>by cases e;exact⟨[],rfl,rfl,fun i p h=>by simp at h⟩
 |p::ps,vs,e=>by
  change (match jS p.2.2 T with|some v=>(match Bf ps T with|some vs=>some ((p.1,p.2.1,v)::vs)|none=>none)|none=>none)=some vs at e
  split at e
  ·rename_i v hv
   split at e
   ·rename_i us hu
    cases e
    obtain⟨c,hc,gh⟩:=bz hT hv
    obtain⟨qs,h1,h2,h3⟩:=Ak hT hu
    refine⟨(p.1,p.2.1,c)::qs,?_,by simp[h2],fun i x hx=>?_⟩
    ·show(match bB p.2.2 t with|some v=>(match nF (ps.map fun(p:Nat×Nat×Od)=>(p.1,p.2.1,bB p.2.2)) t with|some vs=>some ((p.1,p.2.1,v)::vs)|none=>none)|none=>none)=_
     rw[hc,h1]
    ·cases i with
     |zero=>simp at hx;subst hx;exact⟨_,rfl,rfl,rfl,gh⟩
     |succ i=>simpa using h3 i x (by simpa using hx)
   ·cases e
  ·cases e
theorem Al{E:En}{N:Nat}{T:Tq}{t:Tm}(hT:TV E N T t): ∀ {ps:List (Nat×Od)} {vs:List (Nat×Sv)},Bg ps T=some vs->
 ∃ qs,nE (ps.map fun p=>(p.1,bB p.2)) t=some qs/\vs.length=qs.length/\ ∀ (i:Nat) (p:Nat×Sv),vs[i]? =some p-> ∃ q:Nat×AV,qs[i]? =some q/\q.1=p.1/\V E N p.2 q.2
 | [],vs,e=>by cases e;exact⟨[],rfl,rfl,fun i p h=>by simp at h⟩
 |p::ps,vs,e=>by
  change (match jS p.2 T with|some v=>(match Bg ps T with|some vs=>some ((p.1,v)::vs)|none=>none)|none=>none)=some vs at e
  split at e
  ·rename_i v hv
   split at e
   ·rename_i us hu
    cases e
    obtain⟨c,hc,gh⟩:=bz hT hv
    obtain⟨qs,h1,h2,h3⟩:=Al hT hu
    refine⟨(p.1,c)::qs,?_,by simp[h2],fun i x hx=>?_⟩
    ·show(match bB p.2 t with|some v=>(match nE (ps.map fun(p:Nat×Od)=>(p.1,bB p.2)) t with|some vs=>some ((p.1,v)::vs)|none=>none)|none=>none)=_
     rw[hc,h1]
    ·cases i with
     |zero=>simp at hx;subst hx;exact⟨_,rfl,rfl,gh⟩
     |succ i=>simpa using h3 i x (by simpa using hx)
   ·cases e
  ·cases e
theorem Jq(z:List AV)(ps:List (Nat×Nat×Od)):eS (Fx z ps) (fun _ _=>au z (ps.map fun p=>(p.1,p.2.1,bB p.2.2))):=db (by
 intro E T t H h v T' H' hT hH e
 unfold Fx at e
 split at e
 ·rename_i zs hz
  split at e
  ·rename_i vs hv
   split at e
   ·rename_i cs hc
    obtain⟨rfl,rfl,rfl⟩:=aU e
    obtain⟨qs,h1,h2,h3⟩:=Ak hT hv
    obtain⟨r',hr,LD⟩:=rA h2 h3 (ud hz) hc
    refine⟨rfl,rfl,.agg r',?_,.ag LD⟩
    unfold au
    rw[h1]
    simp only[hr]
   ·cases e
  ·cases e
 ·cases e)
theorem Am{E:En}{N size:Nat}: ∀ {ps:List (Nat×Sv)} {qs:List (Nat×AV)} {k:Nat} {r:List Sv},ps.length=qs.length->(∀ (i:Nat) (p:Nat×Sv),ps[i]? =some p-> ∃ q:Nat×AV,qs[i]? =some q/\q.1=p.1/\V E N p.2 q.2)->
 xZ size ps k=some r-> ∃ r',tt size qs k=some r'/\Vs E N r r'
 | [],[],_,_,_,_,e=>by cases e;exact⟨[],rfl,.nil⟩
 | [],_::_,_,_,h,_,_=>by cases h
 | _::_,[],_,_,h,_,_=>by cases h
 |p::ps,q::qs,k,r,hl,hq,e=>by
  obtain⟨q',XQ,h1,hv⟩:=hq 0 p rfl
  cases XQ
  change (bif Nat.beq p.1 k&&Nat.beq (len p.2.cells) size then(match xZ size ps (Nat.add k 1)with|some r=>some (app p.2.cells r)|none=>none)else none)=some r at e
  obtain⟨hb,e⟩:=bQ e
  split at e
  ·rename_i s hs
   cases e
   obtain⟨r',hr,LD⟩:=Am (ps:=ps) (qs:=qs) (by simpa using hl) (fun i p hp=>hq (i+1) p hp) hs
   refine⟨q.2.cells++r',?_,?_⟩
   ·show(bif Nat.beq q.1 k&&Nat.beq (len q.2.cells) size then(match tt size qs (Nat.add k 1)with|some r=>some (app q.2.cells r)|none=>none)else none)=_
    rw[bM,<-hv.cells.length,h1,<-bM,hb,cond_true,hr];simp only[bp]
   ·rw[bp];exact hv.cells.app LD
  ·cases e
theorem Bn{E:En}{N:Nat}{z:List Sv}{z':List AV}(h:Vs E N z z'): ∀ n,Vs E N (XA n z) (fX n z')
 |0=>.nil
 |n+1=>by
  show Vs E N (app z (XA n z)) (app z' (fX n z'))
  rw[bp,bp];exact h.app (Bn h n)
theorem yg{E:En}{N size:Nat}: ∀ {ps:List (Nat×Sv)} {qs:List (Nat×AV)},ps.length=qs.length->(∀ (i:Nat) (p:Nat×Sv),ps[i]? =some p-> ∃ q:Nat×AV,qs[i]? =some q/\q.1=p.1/\V E N p.2 q.2)->
 (Bh size ps).length=(scale size qs).length/\ ∀ (i:Nat) (p:Nat×Nat×Sv),(Bh size ps)[i]? =some p-> ∃ q:Nat×Nat×AV,(scale size qs)[i]? =some q/\q.1=p.1/\q.2.1=p.2.1/\V E N p.2.2 q.2.2
 | [],[],_,_=>⟨rfl,fun i p h=>by simp[Bh]at h⟩
 | [],_::_,h,_=>by cases h
 | _::_,[],h,_=>by cases h
 |p::ps,q::qs,hl,hq=>by
  obtain⟨q',XQ,h1,hv⟩:=hq 0 p rfl
  cases XQ
  obtain⟨a,b⟩:=yg (ps:=ps) (qs:=qs) (by simpa using hl) (fun i p hp=>hq (i+1) p hp)
  refine⟨by show _+1=_+1;exact congrArg _ a,fun i x hx=>?_⟩
  cases i with
  |zero=>
   change some (Nat.mul p.1 size,size,p.2)=some x at hx
   cases hx
   exact⟨(Nat.mul q.1 size,size,q.2),rfl,by show Nat.mul q.1 size=Nat.mul p.1 size;rw[h1],rfl,hv⟩
  |succ i=>exact b i x hx
theorem R3(n sz:Nat)(z:List AV)(ps:List (Nat×Od)):eS (XE n sz z ps) (fun _ _=>bC n sz z (ps.map fun p=>(p.1,bB p.2))):=by
 intro E T t H h v T' H' hT hH e
 unfold XE at e
 split at e
 ·rename_i vs hv
  obtain⟨qs,h1,h2,h3⟩:=Al hT hv
  cases hn:Nat.beq n 0 with
  |true=>
   rw[hn]at e
   simp only[cond_true]at e
   split at e
   ·obtain⟨rfl,rfl,rfl⟩:=aU e
    refine⟨_,_,E,Ev.const ?_,Nx.refl _ _ _,hH,.a (v:=.p') rfl,hT⟩
    unfold bC
    rw[h1]
    simp only[hn,cond_true]
    have:qs=[]:=by cases qs with
     |nil=>rfl
     |cons _ _=>cases h2
    rw[this]
   ·cases e
  |false=>
   rw[hn]at e
   simp only[cond_false]at e
   split at e
   ·rename_i zs hz
    split at e
    ·rename_i cs hc
     cases hb:(cf Da cs&&(Nat.blt 0 sz&&Nat.beq (len cs) (Nat.mul n sz)))with
     |false=>rw[hb]at e;cases e
     |true=>
      rw[hb]at e
      simp only[cond_true]at e
      obtain⟨rfl,rfl,rfl⟩:=aU e
      have key: ∃ cs',rj n sz z qs=some cs'/\Vs E H.next cs cs':=by
       unfold Db at hc
       unfold rj
       rw[bM,<-h2,<-bM]
       cases hq:Nat.beq (len vs) n with
       |true=>
        rw[hq]at hc
        simp only[cond_true]at hc ⊢
        split at hc
        ·rename_i q hqq
         cases hc
         obtain⟨r',a,b⟩:=Am h2 h3 hqq
         rw[a];exact⟨r',rfl,b⟩
        ·rename_i hqq
         obtain⟨a,b⟩:=yg (size:=sz) h2 h3
         obtain⟨r',c,d⟩:=rA a b (Bn (ud hz) n) hc
         cases hf:tt sz qs 0 with
         |none=>exact⟨r',c,d⟩
         |some w=>
          exfalso
          have back: ∀ {ps:List (Nat×Sv)} {qs:List (Nat×AV)} {k:Nat} {w:List AV},ps.length=qs.length->(∀ (i:Nat) (p:Nat×Sv),ps[i]? =some p-> ∃ q:Nat×AV,qs[i]? =some q/\q.1=p.1/\V E H.next p.2 q.2)->tt sz qs k=some w-> ∃ r,xZ sz ps k=some r:=by
           intro ps
           induction ps with
           |nil=>intro qs k w _ _ _;exact⟨[],rfl⟩
           |cons p ps ih=>
            intro qs k w hl hq e
            cases qs with
            |nil=>cases hl
            |cons q qs=>
             obtain⟨q',XQ,h1,hv⟩:=hq 0 p rfl
             cases XQ
             change (bif Nat.beq q.1 k&&Nat.beq (len q.2.cells) sz then(match tt sz qs (Nat.add k 1)with|some r=>some (app q.2.cells r)|none=>none)else none)=some w at e
             obtain⟨hb,e⟩:=bQ e
             split at e
             ·rename_i s hs
              obtain⟨r,hr⟩:=ih (by simpa using hl) (fun i p hp=>hq (i+1) p hp) hs
              refine⟨app p.2.cells r,?_⟩
              show(bif Nat.beq p.1 k&&Nat.beq (len p.2.cells) sz then(match xZ sz ps (Nat.add k 1)with|some r=>some (app p.2.cells r)|none=>none)else none)=_
              rw[bM,hv.cells.length,<-h1,<-bM,hb,cond_true,hr]
             ·cases e
          obtain⟨r,hr⟩:=back h2 h3 hf
          rw[hqq]at hr
          cases hr
       |false=>
        rw[hq]at hc
        simp only[cond_false]at hc ⊢
        obtain⟨a,b⟩:=yg (size:=sz) h2 h3
        exact rA a b (Bn (ud hz) n) hc
      obtain⟨cs',k1,k2⟩:=key
      obtain⟨S,X⟩:=My hH (l:=cs) (rw:=wM cs') (by rw[iQ];exact k2)
      refine⟨_,_,_,Ev.const ?_,X,S,.xo (id:=h.next) (Nat.lt_succ_self _) (by show(if H.next=H.next then _ else _:Kr).av=_;rw[if_pos rfl]),hT.mono X.e X.le⟩
      unfold bC
      rw[h1]
      simp only[hn,cond_false,k1]
    ·cases e
   ·cases e
 ·cases e
end Lf
end Go.Ab

noncomputable section
namespace Go.Ab
namespace Lf
theorem mH{H:Hq}{r:Nat}{R:Row}(hl:R.live=false){q:Nat}(o:own (jo H r (some R)) q):q≠r/\own H q:=by
 obtain⟨R',a,b⟩:=o
 rw[fp]at a
 split at a
 ·cases a;rw[hl]at b;cases b
 ·exact⟨‹_›,R',a,b⟩
def En.fz(E:En)(a:AV)(h:Hp):En:=⟨E.K,E.tk,fun id=>if ly a=some id then h.aL.get id else E.G id,E.A⟩
inductive Frz:Row->Row->Prop
 |l {t x}:Frz (.l t x) (.z t x)
 |o {g l}:Frz (.o g l) (.zo l)
theorem Ao{E:En}{H:Hq}{h:Hp}(S:SR E H h){r:Nat}{R R':Row}(hr:H.aL.get r=some R)(f:Frz R R'):
 SR (E.fz (E.K r).av h) (jo H r (some R')) h/\Nx E (E.fz (E.K r).av h) H (jo H r (some R')) h h:=by
 have lv:R.live=true:=by cases f<;>rfl
 have VC:R'.live=false:=by cases f<;>rfl
 have hg:RU E.G (E.fz (E.K r).av h).G:=by
  intro id row e
  show(if _ then _ else _)=_
  split
  ·rename_i c;exact((S.g id row e).2.2 r ⟨R,hr,lv⟩ c).elim
  ·exact e
 have le:w7 E (E.fz (E.K r).av h) H.next:=⟨fun _ _=>rfl,fun _ _=>rfl,hg,rfl⟩
 refine⟨⟨?_,?_,?_,?_⟩,⟨le,Nat.le_refl _,Nat.le_refl _,?_,?_,fun _ _ _=>rfl⟩⟩
 ·intro q Q hq
  rw[fp]at hq
  split at hq
  ·rename_i e;subst e;cases hq
   obtain⟨h1,h2⟩:=S.row _ _ hr
   refine⟨h1,?_⟩
   cases f with
   |l=>exact LR.mono hg (fun id row e k=>by have e':ly (E.K q).av=some id:=e;show(if _ then _ else _)=_;rw[if_pos e'];exact k) h2
   |o=>
    obtain⟨id,row,a,b,c,_⟩:=h2
    exact⟨id,row,a,by show(if _ then _ else _)=_;rw[if_pos (by rw[a];rfl)];exact b,c.mono le (Nat.le_refl _)⟩
  ·obtain⟨h1,h2⟩:=S.row _ _ hq
   exact⟨h1,h2.mono le (Nat.le_refl _) (fun _ _ _ _ e=>e)⟩
 ·intro a b id oa ob ea eb
  exact S.inj a b id (mH VC oa).2 (mH VC ob).2 ea eb
 ·intro a id oa ea
  exact S.lt a id (mH VC oa).2 ea
 ·intro id row e
  have e':(if ly (E.K r).av=some id then h.aL.get id else E.G id)=some row:=e
  split at e'
  ·rename_i c
   refine⟨S.lt r id ⟨R,hr,lv⟩ c,e',fun q oq eq=>?_⟩
   exact(mH VC oq).1 (S.inj q r id (mH VC oq).2 ⟨R,hr,lv⟩ eq c)
  ·obtain⟨a,b,c⟩:=S.g id row e'
   exact⟨a,b,fun q oq=>c q (mH VC oq).2⟩
 ·intro q id oq eq
  exact .inl ⟨q,(mH VC oq).2,eq⟩
 ·intro id row e
  have e':(if ly (E.K r).av=some id then h.aL.get id else E.G id)=some row:=e
  split at e'
  ·rename_i c;exact .inr (.inl ⟨r,⟨R,hr,lv⟩,c⟩)
  ·exact .inl e'
structure Fz(E E':En)(H H':Hq)(h:Hp):Prop where
 K:E'.K=E.K
 tk:E'.tk=E.tk
 n:H'.next=H.next
 S:SR E' H' h
 X:Nx E E' H H' h h
theorem Fz.refl{E:En}{H:Hq}{h:Hp}(S:SR E H h):Fz E E H H h:=⟨rfl,rfl,rfl,S,Nx.refl _ _ _⟩
theorem Fz.trans{E E1 E2:En}{H H1 H2:Hq}{h:Hp}(a:Fz E E1 H H1 h)(b:Fz E1 E2 H1 H2 h):Fz E E2 H H2 h:=⟨b.K.trans a.K,b.tk.trans a.tk,b.n.trans a.n,b.S,a.X.trans b.X⟩
theorem Fz.g{E E':En}{H H':Hq}{h:Hp}(a:Fz E E' H H' h):RU E.G E'.G:=a.X.e.G
theorem Fz.v{E E':En}{H H':Hq}{h:Hp}(a:Fz E E' H H' h){v:Sv}{c:AV}(k:V E H.next v c):V E' H'.next v c:=k.mono a.X.e a.X.le
theorem Fz.vs{E E':En}{H H':Hq}{h:Hp}(a:Fz E E' H H' h){v:List Sv}{c:List AV}(k:Vs E H.next v c):Vs E' H'.next v c:=k.mono a.X.e a.X.le
theorem vj{E:En}{H:Hq}{h:Hp}(S:SR E H h){r:Nat}{R R':Row}(hr:H.aL.get r=some R)(f:Frz R R'):Fz E (E.fz (E.K r).av h) H (jo H r (some R')) h:=
 ⟨rfl,rfl,rfl,(Ao S hr f).1,(Ao S hr f).2⟩
def py(t:Ty)(f:List Sv->Hq->Option (den t×List Sv×Hq)):Prop:= ∀ (E:En) (H:Hq) (h:Hp) (l r:List Sv) (cs:List AV) (x:den t) (H':Hq),SR E H h->Vs E H.next l cs->f l H=some (x,r,H')->
 ∃ E' c d,Fz E E' H H' h/\cs=c++d/\EV E'.G t x c/\Vs E' H'.next r d
theorem FH{t:Ty}{f:List Sv->Hq->Option (den t×List Sv×Hq)}(hf:py t f): ∀ (n:Nat) (E:En) (H:Hq) (h:Hp) (l:List Sv) (cs:List AV) (x:List (den t)) (H':Hq),SR E H h->Vs E H.next l cs->rdS t f n l H=some (x,H')->
 ∃ E' c d,Fz E E' H H' h/\cs=c++d/\kG (EV E'.G t) x c/\x.length=n
 |0,E,H,h,l,cs,x,H',S,_,e=>by cases e;exact⟨E,[],cs,Fz.refl S,rfl,rfl,rfl⟩
 |n+1,E,H,h,l,cs,x,H',S,hv,e=>by
  change (match f l H with|some (x,r,h)=>(match rdS t f n r h with|some (xs,h)=>some (x::xs,h)|none=>none)|none=>none)=some (x,H')at e
  split at e
  ·rename_i y r H1 hy
   split at e
   ·rename_i ys H2 hys
    cases e
    obtain⟨E1,c1,d1,F1,rfl,v1,w1⟩:=hf E H h l r cs y H1 S hv hy
    obtain⟨E2,c2,d2,F2,rfl,v2,w2⟩:=FH hf n E1 H1 h r d1 ys H' F1.S w1 hys
    exact⟨E2,c1++c2,d2,F1.trans F2,by simp,⟨c1,c2,rfl,EV.mono F2.g _ _ _ v1,v2⟩,by simp[w2]⟩
   ·cases e
  ·cases e
theorem nO{r:Rw}{base k:Nat}{ls:List AV}(s:r.lG base k=some ls){o n:Nat}(h:o+n<=k):r.lG (base+o) n=some ((ls.drop o).take n):=by
 obtain⟨a,b⟩:=eR.1 s
 refine eR.2 ⟨by omega,?_⟩
 rw[b,List.drop_take,List.take_take,List.drop_drop,Nat.min_eq_left (by omega)]
theorem Bo{G:Nat->Option Rw}{t:Ty}{x:List (den t)}{id base n off m:Nat}{row:Rw}{ls:List AV}(hx:x.length=n)(s:row.lG base (n*size t)=some ls)(e:kG (EV G t) x ls)(h:off+m<=n):
 ((x.drop off).take m).length=m/\row.lG (base+off*size t) (m*size t)=some ((ls.drop (off*size t)).take (m*size t))/\kG (EV G t) ((x.drop off).take m) ((ls.drop (off*size t)).take (m*size t)):=by
 refine⟨by rw[List.length_take,List.length_drop];omega,nO s ?_,(e.drop (EV.length t) off).take (EV.length t) m⟩
 rw[<-Nat.add_mul];exact Nat.mul_le_mul_right _ h
theorem Di{E:En}{N:Nat}{t:Ty}{x:List (den t)}{r sz:Nat}{a:AV}{S:Nat->Option Rw}(hv:V E N (.os r sz) a)(l:LR E.G t x (E.K r) S):
 (dH a=true/\x=[])∨ ∃ id base row ls,a=.ff id base x.length (size t)/\(E.K r).av=a/\sz=size t/\S id=some row/\row.lG base (x.length*size t)=some ls/\kG (EV E.G t) x ls:=by
 cases hv with
 |os h1 h2=>
  rcases l.2 with k|⟨id,base,row,ls,k1,k2,k3,k4⟩
  ·exact .inl k
  ·rw[l.1]
   rcases h2 with h2|⟨xt,Mz,h2⟩
   ·rw[k1]at h2;cases h2.1
   ·rw[k1]at h2
    injection h2 with _ _ _ a4
    exact .inr ⟨id,base,row,ls,k1,rfl,a4.symm,k2,k3,k4⟩
theorem VD{E:En}{N:Nat}{t:Ty}{x:List (den t)}{r sz off n:Nat}{a:AV}{S:Nat->Option Rw}(hv:V E N (.ss r sz off n) a)(l:LR E.G t x (E.K r) S):
 (dH a=true/\n=0/\x=[]/\off=0/\(E.K r).av=a)∨ ∃ id base row ls,a=.ff id (base+off*size t) n (size t)/\off+n<=x.length/\(E.K r).av=.ff id base x.length (size t)/\sz=size t/\S id=some row/\row.lG base (x.length*size t)=some ls/\kG (EV E.G t) x ls:=by
 cases hv with
 |se h1 h2 h3 h4=>
  refine .inl ⟨h2,rfl,?_,h4,rfl⟩
  have:=l.1;rw[h3]at this
  exact List.eq_nil_of_length_eq_zero this
 |ss h1 h2 h3=>
  rcases l.2 with k|⟨id,base,row,ls,k1,k2,k3,k4⟩
  ·rw[h2]at k;cases k.1
  ·rw[k1]at h2
   injection h2 with a1 a2 _ a4
   subst a1;subst a2;subst a4
   rw[l.1]
   exact .inr ⟨id,base,row,ls,rfl,h3,k1,rfl,k2,k3,k4⟩
theorem ue{E:En}{t:Ty}{x:List (den t)}{a:AV}{id base:Nat}{row:Rw}{ls:List AV}(ha:a=.ff id base x.length (size t))(hg:E.G id=some row)(s:row.lG base (x.length*size t)=some ls)(e:kG (EV E.G t) x ls):Jm E.G t (EV E.G t) x a:=
 .inr ⟨ls,e,.inr ⟨id,base,row,ha,hg,s⟩⟩
theorem MA{E:En}{N:Nat}{t:Ty}{x:List (den t)}{r sz:Nat}{a:AV}(hv:V E N (.os r sz) a)(l:LR E.G t x (E.K r) E.G):Jm E.G t (EV E.G t) x a:=by
 rcases Di hv l with k|⟨id,base,row,ls,k1,_,_,k2,k3,k4⟩
 ·exact .inl k
 ·exact ue k1 k2 k3 k4
theorem MC{E:En}{N:Nat}{t:Ty}{x:List (den t)}{r sz off n:Nat}{a:AV}(hv:V E N (.ss r sz off n) a)(l:LR E.G t x (E.K r) E.G):Jm E.G t (EV E.G t) ((x.drop off).take n) a:=by
 rcases VD hv l with⟨k1,k2,k3,_⟩|⟨id,base,row,ls,k1,k2,_,_,k3,k4,k5⟩
 ·subst k3;exact .inl ⟨k1,by simp⟩
 ·obtain⟨a1,a2,a3⟩:=Bo rfl k4 k5 k2 (id:=0)
  refine ue (id:=id) (base:=base+off*size t) (row:=row) ?_ k3 ?_ a3
  ·rw[a1];exact k1
  ·rw[a1];exact a2
theorem MD{t:Ty}{f:List Sv->Hq->Option (den t×List Sv×Hq)}(hf:py t f){E:En}{H H':Hq}{h:Hp}{v:Sv}{a:AV}{x:List (den t)}(S:SR E H h)(hv:V E H.next v a)(e:asL t f v H=some (x,H')):
 ∃ E',Fz E E' H H' h/\Jm E'.G t (EV E'.G t) x a:=by
 have xo: ∀ {r sz off n:Nat} {l:List Sv} {E1:En} {H1:Hq} {id:Nat} {row:Rw},Fz E E1 H H1 h->sz=size t->a=.ff id off n sz->E1.G id=some row->Vs E1 H1.next l row.toL->Vv t f n off l H1=some (x,H')-> ∃ E',Fz E E' H H' h/\Jm E'.G t (EV E'.G t) x a:=by
  intro r sz off n l E1 H1 id row F rM ha hg hl e
  unfold Vv at e
  obtain⟨hb,e⟩:=bQ e
  have hle:=Nat.le_of_ble_eq_true hb
  rw[bM]at hle
  rw[jY]at e
  obtain⟨E2,c,d,F2,e1,e2,e3⟩:=FH hf n E1 H1 h _ _ x H' F.S (hl.drop off) e
  refine⟨E2,F.trans F2,?_⟩
  have hc:=e2.length (EV.length t)
  have hlen:=hl.length
  refine ue (id:=id) (base:=off) (row:=row) (ls:=c) (by rw[e3,ha,rM]) (F2.g _ _ hg) ?_ e2
  refine eR.2 ⟨?_,?_⟩
  ·have:=congrArg List.length e1
   rw[List.length_drop,List.length_append,hc]at this
   rw[<-eN];omega
  ·rw[e1,<-hc,List.take_left]
 cases v with
 |a w=>
  obtain⟨hb,e⟩:=bQ e
  cases e
  cases hv with
  |a _=>exact⟨E,Fz.refl S,.inl ⟨hb,rfl⟩⟩
 |c m ty y=>
  cases ty with
  |ae t'=>
   change (match vM t' t with|some ⟨e⟩=>some (e▸y,H)|none=>none)=some (x,H')at e
   split at e
   ·rename_i p hp
    cases p
    cases e
    cases hv with
    |c k _=>obtain⟨b,hb,k⟩:=k;cases hb;exact⟨E,Fz.refl S,k⟩
   ·cases e
  | _=>cases e
 |os r s=>
  change (match H.aL.get r with
   |some (.l t' x)=>(match vM t' t with|some ⟨e⟩=>some (e▸x,jo H r (some (.z t' x)))|none=>none)
   |some (.z t' x)=>(match vM t' t with|some ⟨e⟩=>some (e▸x,H)|none=>none)
   | _=>none)=some (x,H')at e
  split at e
  ·rename_i t' y hr
   split at e
   ·rename_i p hp
    cases p
    cases e
    have F:=vj S hr .l
    refine⟨_,F,MA (F.v hv) ?_⟩
    have:=F.S.row r (.z t y) (by rw[fp,if_pos rfl])
    exact this.2
   ·cases e
  ·rename_i t' y hr
   split at e
   ·rename_i p hp
    cases p
    cases e
    exact⟨E,Fz.refl S,MA hv (S.row _ _ hr).2⟩
   ·cases e
  ·cases e
 |ss r s off n=>
  change (match H.aL.get r with
   |some (.l t' x)=>(match vM t' t with|some ⟨e⟩=>some (((e▸x:List (den t)).drop off).take n,jo H r (some (.z t' x)))|none=>none)
   |some (.z t' x)=>(match vM t' t with|some ⟨e⟩=>some (((e▸x:List (den t)).drop off).take n,H)|none=>none)
   | _=>none)=some (x,H')at e
  split at e
  ·rename_i t' y hr
   split at e
   ·rename_i p hp
    cases p
    cases e
    have F:=vj S hr .l
    refine⟨_,F,MC (F.v hv) ?_⟩
    have:=F.S.row r (.z t y) (by rw[fp,if_pos rfl])
    exact this.2
   ·cases e
  ·rename_i t' y hr
   split at e
   ·rename_i p hp
    cases p
    cases e
    exact⟨E,Fz.refl S,MC hv (S.row _ _ hr).2⟩
   ·cases e
  ·cases e
 |xo r sz off n=>
  change (bif Nat.beq sz (size t)then(match H.aL.get r with
   |some (.o _ l)=>Vv t f n off l (jo H r (some (.zo l)))
   |some (.zo l)=>Vv t f n off l H
   | _=>none)else none)=some (x,H')at e
  obtain⟨hb,e⟩:=bQ e
  split at e
  ·rename_i l hr
   have F:=vj S hr .o
   have k:=(F.S.row r (.zo l) (by rw[fp,if_pos rfl])).2
   obtain⟨id,row,k1,k2,k3⟩:=k
   cases hv with
   |xo h1 h2=>
    have Ap:(E.K r).av=.ref id 0:=k1
    rw[h2]at Ap;cases Ap
    exact xo (r:=r) F (beq_true hb) rfl k2 k3 e
  ·rename_i l hr
   obtain⟨id,row,k1,k2,k3⟩:=(S.row _ _ hr).2
   cases hv with
   |xo h1 h2=>
    rw[h2]at k1;cases k1
    exact xo (r:=r) (Fz.refl S) (beq_true hb) rfl k2 k3 e
  ·cases e
 | _=>cases e
theorem sM: ∀ (t:Ty),py t (Vw t)
 | .int k=>by
  intro E H h l r cs x H' S hv e
  cases l with
  |nil=>cases e
  |cons v l=>
   change (match toN v with|some (k',n)=>(bif jv k k' then some (n,l,H)else none)|none=>none)=some (x,r,H')at e
   split at e
   ·rename_i k' n hn
    obtain⟨hb,e⟩:=bQ e
    cases e
    cases hv with
    |cons a b=>
     have:=iE a hn
     rw[eO.1 hb]
     exact⟨E,[_],_,Fz.refl S,rfl,by rw[this];rfl,b⟩
   ·cases e
 | .bool=>by
  intro E H h l r cs x H' S hv e
  cases l with
  |nil=>cases e
  |cons v l=>
   change (match toB v with|some b=>some (b.v,l,H)|none=>none)=some (x,r,H')at e
   split at e
   ·rename_i b hn
    cases e
    cases hv with
    |cons a c=>
     have:=iD a hn
     exact⟨E,[_],_,Fz.refl S,rfl,by rw[this];rfl,c⟩
   ·cases e
 | .str=>by
  intro E H h l r cs x H' S hv e
  cases l with
  |nil=>cases e
  |cons v l=>
   change (match toS v with|some (_,s)=>some (s,l,H)|none=>none)=some (x,r,H')at e
   split at e
   ·rename_i b s hn
    cases e
    cases hv with
    |cons a c=>
     have:=qf a hn
     exact⟨E,[_],_,Fz.refl S,rfl,by rw[this];rfl,c⟩
   ·cases e
 | .ae t=>by
  intro E H h l r cs x H' S hv e
  cases l with
  |nil=>cases e
  |cons v l=>
   change (match asL t (Vw t) v H with|some (x,h)=>some (x,l,h)|none=>none)=some (x,r,H')at e
   split at e
   ·rename_i y H1 hy
    cases e
    cases hv with
    |cons a c=>
     obtain⟨E',F,k⟩:=MD (sM t) S a hy
     exact⟨E',[_],_,F,rfl,⟨_,rfl,k⟩,F.vs c⟩
   ·cases e
 | .pair a b=>by
  intro E H h l r cs x H' S hv e
  change (match Vw a l H with|some (x,r,h)=>(match Vw b r h with|some (y,r,h)=>some ((x,y),r,h)|none=>none)|none=>none)=some (x,r,H')at e
  split at e
  ·rename_i y q H1 hy
   split at e
   ·rename_i z q2 H2 hz
    cases e
    obtain⟨E1,c1,d1,F1,rfl,v1,w1⟩:=sM a E H h l q cs y H1 S hv hy
    obtain⟨E2,c2,d2,F2,rfl,v2,w2⟩:=sM b E1 H1 h q _ d1 z H' F1.S w1 hz
    exact⟨E2,c1++c2,d2,F1.trans F2,by simp,⟨c1,c2,rfl,EV.mono F2.g _ _ _ v1,v2⟩,w2⟩
   ·cases e
  ·cases e
theorem ME{t:Ty}{E:En}{H H':Hq}{h:Hp}{v:Sv}{a:AV}{x:List (den t)}(S:SR E H h)(hv:V E H.next v a)(e:lst t v H=some (x,H')):
 ∃ E',Fz E E' H H' h/\Jm E'.G t (EV E'.G t) x a:=MD (sM t) S hv e
theorem fJ{a:AV}(k:dH a=true):uS a=.fm:=by
 cases a with
 |sc v=>have k':sA (.sc v)=true:=k;unfold uS;rw[k'];rfl
 |fm=>rfl
 |p'=>rfl
 | _=>cases k
theorem Jr{E:En}{H:Hq}{h:Hp}(S:SR E H h){t:Ty}{x:List (den t)}{a:AV}(k:Jm E.G t (EV E.G t) x a): ∃ cs,dk h (uS a)=some (x.length,cs)/\kG (EV E.G t) x cs:=by
 rcases k with⟨k,rfl⟩|⟨ls,k1,k2⟩
 ·refine⟨[],?_,rfl⟩
  rw[fJ k];rfl
 ·rcases k2 with rfl|⟨id,base,row,rfl,g,s⟩
  ·exact⟨ls,rfl,k1⟩
  ·refine⟨ls,?_,k1⟩
   show(match h.aL.get id with|some cs=>(match cs.lG base (Nat.mul x.length (size t))with|some l=>some (x.length,l)|none=>none)|none=>none)=_
   rw[(S.g _ _ g).2.1]
   have s':row.lG base (Nat.mul x.length (size t))=some ls:=s
   simp only[s']
def acG:AV->Option Nat
 | .ff _ _ n _=>some n
 | .kX n _=>some n
 | .fm=>some 0
 | _=>none
theorem Hw{E:En}{H:Hq}{h:Hp}(S:SR E H h){v m:Sv}{a:AV}(hv:V E H.next v a)(e:XB v H=some m): ∃ n:Nat,toN m=some (.i64,(n:Int))/\V E H.next m (.int .i64 n)/\acG (uS a)=some n/\(dH a=true->n=0):=by
 have row: ∀ {r sz:Nat} {t:Ty} {x:List (den t)} {S':Nat->Option Rw},V E H.next (.os r sz) a->LR E.G t x (E.K r) S'-> ∃ n:Nat,toN (.c 0 (.int .i64) (Int.ofNat x.length))=some (.i64,(n:Int))/\V E H.next (.c 0 (.int .i64) (Int.ofNat x.length)) (.int .i64 n)/\acG (uS a)=some n/\(dH a=true->n=0):=by
  intro r sz t x S' hv l
  refine⟨x.length,rfl,gm,?_⟩
  rcases Di hv l with⟨k,rfl⟩|⟨id,base,row,ls,k1,_⟩
  ·rw[fJ k];exact⟨rfl,fun _=>rfl⟩
  ·rw[k1];exact⟨rfl,fun k=>by cases k⟩
 cases v with
 |a w=>
  obtain⟨hb,e⟩:=bQ e
  cases e
  cases hv with
  |a _=>exact⟨0,rfl,.i,by rw[fJ hb];rfl,fun _=>rfl⟩
 |c q ty x=>
  cases ty with
  |ae t=>
   cases e
   refine⟨x.length,rfl,gm,?_⟩
   cases hv with
   |c k _=>
    obtain⟨b,hb,k⟩:=k;cases hb
    rcases k with⟨k,hx⟩|⟨ls,k1,k2|⟨_,_,_,k2,_⟩⟩
    ·rw[fJ k];subst hx;exact⟨rfl,fun _=>rfl⟩
    ·rw[k2];exact⟨rfl,fun k=>by cases k⟩
    ·rw[k2];exact⟨rfl,fun k=>by cases k⟩
  | _=>cases e
 |os r s=>
  change (match H.aL.get r with|some (.l _ x)=>some (Sv.c 0 (.int .i64) (Int.ofNat x.length))|some (.z _ x)=>some (Sv.c 0 (.int .i64) (Int.ofNat x.length))| _=>none)=some m at e
  split at e
  ·rename_i hr;cases e;exact row hv (S.row _ _ hr).2
  ·rename_i hr;cases e;exact row hv (S.row _ _ hr).2
  ·cases e
 |ss r s off n=>
  cases e
  refine⟨n,rfl,gm,?_⟩
  cases hv with
  |se h1 h2 h3 h4=>rw[fJ h2];exact⟨rfl,fun _=>rfl⟩
  |ss h1 h2 h3=>exact⟨rfl,fun k=>by cases k⟩
 |xo r s off n=>
  cases e
  cases hv with
  |xo _ _=>exact⟨n,rfl,.i,rfl,fun k=>by cases k⟩
 | _=>cases e
theorem R4(a:Od):eS (cF a) (fun _ _=>aW (bB a)):=db (by
 intro E T t H h v T' H' hT hH e
 unfold cF at e
 split at e
 ·rename_i w hw
  obtain⟨e1,rfl,rfl⟩:=mG e
  obtain⟨c,hc,gh⟩:=nN hT hw
  obtain⟨n,h1,h2,h3,_⟩:=Hw hH gh e1
  refine⟨rfl,rfl,_,?_,h2⟩
  unfold aW
  rw[hc]
  generalize uS c=y at h3 ⊢
  cases y<;>first|(cases h3;done)|(cases h3;rfl)
 ·cases e)
end Lf
end Go.Ab

noncomputable section
namespace Go.Ab
namespace Lf
theorem yh(k:IntKind):jv k k=true:=eO.2 rfl
theorem ef{f s:AV->AV->Option AV}{x y r:AV}(h:f x y=some r):wo f s x y=some r:=by unfold wo;rw[h]
theorem gJ{f:IntKind->Int->Int->Option AV}(k:IntKind)(a b:Int):mY f (.int k a) (.int k b)=f k a b:=by show(bif jv k k then _ else _)=_;rw[yh];rfl
theorem Bp(op:BinOp)(hop:op=.and∨op=.or∨op=.xor)(f:Nat->Nat->Nat)(k:IntKind)(a b:Int): ∃ r,zQ op f (.int k a) (.int k b)=some (.int k r):=by
 unfold zQ
 rw[gJ]
 have hr: ∃ r,xk (kE (Op.intBits op k a b))=some (.int k r):=by rcases hop with rfl|rfl|rfl<;>exact⟨_,rfl⟩
 split
 ·rename_i a b
  cases hc:(Nat.blt a (je k)&&Nat.blt b (je k))with
  |true=>exact⟨_,rfl⟩
  |false=>exact hr
 ·exact hr
theorem uf{o:Option AV}{k:IntKind}(h: ∃ r,o=some (.int k r)):o=some (.int k (intOf o)):=by obtain⟨r,h⟩:=h;rw[h];rfl
theorem acH{f:BF}{g:IntKind->Int->Int->Int}(h:Md f=.ar g)(k:IntKind)(a b:Int):f.f (.int k a) (.int k b)=some (.int k (g k a b)):=by
 cases f<;>first|(cases h;done)|skip
 case add=>cases h;exact ef (gJ k a b)
 case sub=>cases h;exact ef (gJ k a b)
 case mul=>cases h;exact ef (gJ k a b)
 case and=>cases h;exact ef (uf (Bp .and (.inl rfl) Nat.land k a b))
 case or=>cases h;exact ef (uf (Bp .or (.inr (.inl rfl)) Nat.lor k a b))
 case xor=>cases h;exact ef (uf (Bp .xor (.inr (.inr rfl)) Nat.xor k a b))
 case andNot=>
  cases h
  have hr: ∃ r,xk (kE (Op.intBits .andNot k a b))=some (.int k r):=⟨_,rfl⟩
  refine uf (o:=pe (.int k a) (.int k b)) ?_
  unfold pe;rw[gJ];exact hr
theorem acI{f:BF}{g:IntKind->Int->Int->Int}(h:Md f=.dv g)(k:IntKind)(a b:Int)(hb: ¬ b=0):f.f (.int k a) (.int k b)=some (.int k (g k a b)):=by
 have hz:eqI b 0=false:=by cases e:eqI b 0 with
  |false=>rfl
  |true=>exact(hb (ga.1 e)).elim
 cases f<;>first|(cases h;done)|skip
 case quo=>cases h;exact ef (by unfold Qn;rw[gJ,hz];rfl)
 case rem=>cases h;exact ef (by unfold Qo;rw[gJ,hz];rfl)
theorem acJ{f:BF}{g:IntKind->Int->Int->Int}(h:Md f=.sh g)(k k':IntKind)(a b:Int)(hb:0<=b):f.f (.int k a) (.int k' b)=some (.int k (g k a b)):=by
 obtain⟨n,rfl⟩:=Int.eq_ofNat_of_zero_le hb
 cases f<;>first|(cases h;done)|skip
 case shl=>cases h;have q:EM (.int k a) (.int k' (Int.ofNat n))=some (.int k (acz k a (Int.ofNat n))):=rfl;show wo EM Ce (.int k a) (.int k' (Int.ofNat n))=_;exact ef q
 case shr=>cases h;have q:EN (.int k a) (.int k' (Int.ofNat n))=some (.int k (rO k a (Int.ofNat n))):=rfl;show wo EN Ce (.int k a) (.int k' (Int.ofNat n))=_;exact ef q
theorem acK{f:BF}{g:Int->Int->Bool}(h:Md f=.cm g)(k:IntKind)(a b:Int):f.f (.int k a) (.int k b)=some (.bool (g a b)):=by
 cases f<;>first|(cases h;done)|skip
 case lss=>cases h;refine ef ?_;unfold WN;rw[gJ,jf]
 case leq=>cases h;refine ef ?_;unfold WO;rw[gJ,jf];simp[<-Int.not_lt]
 case gtr=>cases h;refine ef ?_;unfold WQ;rw[gJ,jf]
 case geq=>cases h;refine ef ?_;unfold WR;rw[gJ,jf];simp[<-Int.not_lt]
 case eqI neg=>
  have he:eqI a b=decide (a=b):=by
   cases e:eqI a b with
   |true=>exact(decide_eq_true (ga.1 e)).symm
   |false=>refine(decide_eq_false fun q=>?_).symm;rw[ga.2 q]at e;cases e
  cases neg with
  |false=>cases h;refine ef ?_;unfold Kw;rw[gJ,he];rfl
  |true=>cases h;refine ef ?_;unfold Kw;rw[gJ,he];rfl
section
variable {E:En}{N:Nat}
theorem R5{i:Bool}{x y:Sv}{c d:AV}{r:LB}(hx:V E N x c)(hy:V E N y d)(h:RM i x y=some r):eq1 i c d=some r.v:=by
 unfold RM at h
 split at h
 ·split at h
  ·obtain⟨hk,h⟩:=bQ h
   cases h
   cases hx;cases hy
   show(bif jv _ _ then some (eqI _ _)else none)=_
   rw[hk];rfl
  ·split at h
   ·rename_i k a k' b h1 h2
    obtain⟨hk,h⟩:=bQ h
    cases h
    rw[iE hx h1,iE hy h2]
    show(bif jv k k' then some (eqI a b)else none)=_
    rw[hk]
    show some (eqI a b)=some (decide (a=b))
    congr 1
    cases e:eqI a b with
    |true=>exact(decide_eq_true (ga.1 e)).symm
    |false=>refine(decide_eq_false fun q=>?_).symm;rw[ga.2 q]at e;cases e
   ·cases h
 ·split at h
  ·rename_i h1 h2;cases h;rw[iD hx h1,iD hy h2];rfl
  ·rename_i a b h1 h2;cases h;rw[iD hx h1,iD hy h2];rfl
  ·cases h
theorem LB.MF(a b:LB):(a.and b).v=(a.v&&b.v):=by
 cases a with
 |l a=>cases a<;>cases b<;>rfl
 |t a=>cases b with
  |l b=>cases b<;>simp[LB.and,LB.v]
  |t b=>rfl
theorem Hx: ∀ {l:List Bool} {xs ys:List Sv} {cs ds:List AV} {r:LB},Vs E N xs cs->Vs E N ys ds->Xv l xs ys=some r->Cq l cs ds=some r.v
 | [],_,_,_,_,_,_,_,h=>by cases h;rfl
 |i::l,[],_,_,_,_,_,_,h=>by cases h
 |i::l,_::_,[],_,_,_,_,_,h=>by cases h
 |i::l,x::xs,y::ys,c'::l1,d'::l2,r,.cons hx Xa,.cons hy hys,h=>by
  change (match RM i x y with|some c=>(match Xv l xs ys with|some d=>some (c.and d)|none=>none)|none=>none)=some r at h
  split at h
  ·rename_i c hc
   split at h
   ·rename_i d hd
    cases h
    have h1:=R5 hx hy hc
    have h2:=Hx Xa hys hd
    show(match eq1 i c' d' with|none=>none|some c=>Bool.rec (some false) (Cq l l1 l2) c)=_
    rw[h1,LB.MF]
    simp only
    cases c.v with
    |true=>simp[h2]
    |false=>rfl
   ·cases h
  ·cases h
theorem XR(neg:Bool)(c:LB):(Xw neg c).v=bif neg then !c.v else c.v:=by cases neg<;>cases c<;>rfl
theorem Hy{y:Sv}{d:AV}(hy:V E N y d)(h:Mf y=true):(∃ i o,d=.ref i o)∨ ∃ l,d=.jy l:=by
 cases hy<;>first|(cases h;done)|exact .inl ⟨_,_,rfl⟩|exact .inr ⟨_,rfl⟩
theorem R6{f:BF}{x y v:Sv}{c d:AV}(hx:V E N x c)(hy:V E N y d)(h:(Xx f x y).val=some v): ∃ r,f.f c d=some r/\V E N v r:=by
 unfold Xx at h
 split at h
 ·split at h
  ·rename_i hr;cases h;cases hx;cases hy;exact⟨_,hr,.i⟩
  ·rename_i hr;cases h;cases hx;cases hy;exact⟨_,hr,.b⟩
  ·cases h
 ·split at h
  ·rename_i k a k' b h1 h2
   rw[iE hx h1,iE hy h2]
   split at h
   ·rename_i g hg
    cases hk:jv k k' with
    |false=>rw[hk]at h;cases h
    |true=>
     rw[hk]at h;cases h
     have:=eO.1 hk;subst this
     exact⟨_,acH hg k a b,gm⟩
   ·rename_i g hg
    cases hk:jv k k' with
    |false=>rw[hk]at h;cases h
    |true=>
     rw[hk]at h
     have:=eO.1 hk;subst this
     simp only[cond_true]at h
     have key: ¬ b=0/\v=.c 0 (.int k) (g k a b):=by
      cases hl:Me y with
      |true=>
       rw[hl]at h
       simp only[cond_true]at h
       cases hz:eqI b 0 with
       |true=>rw[hz]at h;cases h
       |false=>rw[hz]at h;cases h;exact⟨(fun q=>by rw[ga.2 q]at hz;cases hz),rfl⟩
      |false=>
       rw[hl]at h
       obtain⟨h1,h2⟩:=T.aX h
       cases h2
       exact⟨by simpa using h1,rfl⟩
     rw[key.2]
     exact⟨_,acI hg k a b key.1,gm⟩
   ·rename_i g hg
    have key:0<=b/\v=.c 0 (.int k) (g k a b):=by
     cases hl:Me y with
     |true=>
      rw[hl]at h
      simp only[cond_true]at h
      cases hz:kV b 0 with
      |true=>rw[hz]at h;cases h
      |false=>rw[hz]at h;cases h;exact⟨Q4.1 hz,rfl⟩
     |false=>
      rw[hl]at h
      obtain⟨h1,h2⟩:=T.aX h
      cases h2
      exact⟨by simpa using h1,rfl⟩
    rw[key.2]
    exact⟨_,acJ hg k k' a b key.1,gm⟩
   ·rename_i g hg
    cases hk:jv k k' with
    |false=>rw[hk]at h;cases h
    |true=>
     rw[hk]at h;cases h
     have:=eO.1 hk;subst this
     exact⟨_,acK hg k a b,lM⟩
   ·cases h
  ·cases h
theorem XS{f:BF}{x y v:Sv}{c d:AV}(hx:V E N x c)(hy:V E N y d)(h:(Xy f x y).val=some v): ∃ r,f.f c d=some r/\V E N v r:=by
 cases f with
 |eqB neg=>
  simp only[Xy]at h
  split at h
  ·rename_i h1 h2;cases h;rw[iD hx h1,iD hy h2];exact⟨_,rfl,.b⟩
  ·rename_i h1 h2;cases h;rw[iD hx h1,iD hy h2];cases neg<;>exact⟨_,rfl,lM⟩
  ·cases h
 |Qt neg=>
  simp only[Xy]at h
  split at h
  ·rename_i h1 h2;cases h;rw[qf hx h1,qf hy h2];exact⟨_,rfl,.b⟩
  ·rename_i h1 h2;cases h;rw[qf hx h1,qf hy h2];cases neg<;>exact⟨_,rfl,lM⟩
  ·cases h
 |eqP neg=>
  simp only[Xy]at h
  split at h
  ·cases h;cases hx;cases hy;exact⟨_,rfl,.b⟩
  ·cases hp:Mf y with
   |false=>rw[hp]at h;cases h
   |true=>
    rw[hp]at h;cases h
    cases hx
    rcases Hy hy hp with⟨_,_,rfl⟩|⟨_,rfl⟩<;>exact⟨_,rfl,.b⟩
  ·cases hp:Mf x with
   |false=>rw[hp]at h;cases h
   |true=>
    rw[hp]at h;cases h
    cases hy
    rcases Hy hx hp with⟨_,_,rfl⟩|⟨_,rfl⟩<;>exact⟨_,rfl,.b⟩
  ·cases h
 |eqN neg=>
  simp only[Xy]at h
  split at h
  ·rename_i v' w
   cases hn:isNil w with
   |false=>rw[hn]at h;cases h
   |true=>
    rw[hn]at h
    simp only[cond_true]at h
    split at h
    ·rename_i b hb
     cases h
     cases hx;cases hy
     refine⟨.bool (bif neg then !b else b),?_,.b⟩
     show(bif isNil _ then Option.rec none (fun b=>some (.bool (bif neg then !b else b))) (AG _)else none:Option AV)=_
     rw[hn,hb];rfl
    ·cases h
  ·rename_i w
   cases hn:isNil w with
   |false=>rw[hn]at h;cases h
   |true=>
    rw[hn]at h
    cases h
    cases hx;cases hy
    refine⟨.bool neg,?_,.b⟩
    simp only[BF.f,nC,hn,cond_true]
    cases neg<;>rfl
  ·rename_i t x w
   cases hn:isNil w with
   |false=>rw[hn]at h;cases h
   |true=>
    rw[hn]at h
    obtain⟨hl,h⟩:=Lf.T.aX h
    cases h
    cases hy
    refine⟨.bool neg,?_,.b⟩
    simp only[BF.f,nC,hn,cond_true]
    cases hx with
    |c k _=>
     obtain⟨a,ea,k⟩:=k
     cases ea
     have hx0: ¬ x.length=0:=fun e=>by rw[e]at hl;cases hl
     rcases k with⟨_,k⟩|⟨ls,_,k|⟨id,base,row,k,_⟩⟩
     ·subst k;exact(hx0 rfl).elim
     ·subst k
      have hb:Nat.beq x.length 0=false:=by revert hl;cases Nat.beq x.length 0<;>simp
      simp only[AG,isNil,cond_false,hb]
      cases neg<;>rfl
     ·subst k
      simp only[AG,isNil,cond_false]
      cases neg<;>rfl
  ·cases h
 |mX neg l=>
  simp only[Xy]at h
  split at h
  ·rename_i xs ys
   split at h
   ·rename_i r hr
    cases h
    cases hx with
    |ag hx=>cases hy with
     |ag hy=>
      refine⟨.bool (bif neg then !r.v else r.v),?_,by have:=XM (E:=E) (N:=N) (c:=Xw neg r);rw[XR]at this;exact this⟩
      show(match Cq l _ _ with|some c=>some (AV.bool (bif neg then !c else c))|none=>none)=_
      rw[Hx hx hy hr]
   ·cases h
  ·cases h
 | _=>exact R6 hx hy h
theorem R7{f:UF}{x v:Sv}{c:AV}(hx:V E N x c)(h:Xz f x=some v): ∃ r,f.f c=some r/\V E N v r:=by
 unfold Xz at h
 split at h
 ·split at h
  ·rename_i h1;cases h;rw[iD hx h1];exact⟨_,rfl,.b⟩
  ·rename_i h1;cases h;rw[iD hx h1];exact⟨_,rfl,lM⟩
  ·cases h
 ·split at h
  ·cases h;cases hx;exact⟨_,rfl,.i⟩
  ·cases h;rw[iE hx rfl];exact⟨_,rfl,gm⟩
  ·cases h
 ·split at h
  ·cases h;cases hx;exact⟨_,rfl,.i⟩
  ·cases h;rw[iE hx rfl];exact⟨_,rfl,gm⟩
  ·cases h
 ·split at h
  ·cases h;cases hx;exact⟨_,rfl,.i⟩
  ·cases h;rw[iE hx rfl];exact⟨_,rfl,gm⟩
  ·cases h
end
theorem R8(f:BF)(a b:Od):eS (RO f a b) (fun _ _=>ah f.f (bB a) (bB b)):=db (by
 intro E T t H h v T' H' hT hH e
 unfold RO at e
 split at e
 ·rename_i x hx
  split at e
  ·rename_i y hy
   obtain⟨w,e1,e2⟩:=Lf.T.dh e
   obtain⟨rfl,rfl,rfl⟩:=aU e2
   obtain⟨c,hc,gh⟩:=bz hT hx
   obtain⟨d,hd,Qa⟩:=bz hT hy
   obtain⟨r,hr,LD⟩:=XS gh Qa e1
   refine⟨rfl,rfl,r,?_,LD⟩
   show(Option.rec Go.Ab.Ro.bad (fun a'=>Option.rec Go.Ab.Ro.bad (fun b'=>Option.rec Go.Ab.Ro.bad (fun v=>Go.Ab.Ro.ok v h) (f.f a' b')) (bB b t)) (bB a t):Go.Ab.Ro)=_
   rw[hc,hd]
   simp only[hr]
  ·cases e
 ·cases e)
theorem XT(f:UF)(a:Od):eS (sUn f a) (fun _ _=>fg f.f (bB a)):=db (by
 intro E T t H h v T' H' hT hH e
 unfold sUn at e
 split at e
 ·rename_i x hx
  obtain⟨e1,rfl,rfl⟩:=mG e
  obtain⟨c,hc,gh⟩:=bz hT hx
  obtain⟨r,hr,LD⟩:=R7 gh e1
  refine⟨rfl,rfl,r,?_,LD⟩
  show(Option.rec Go.Ab.Ro.bad (fun a'=>Option.rec Go.Ab.Ro.bad (fun v=>Go.Ab.Ro.ok v h) (f.f a')) (bB a t):Go.Ab.Ro)=_
  rw[hc]
  simp only[hr]
 ·cases e)
theorem MG(a:Od):eS (Hr a) (fun _ _=>jU (bB a)):=db (by
 intro E T t H h v T' H' hT hH e
 unfold Hr at e
 split at e
 ·rename_i x hx
  obtain⟨c,hc,gh⟩:=bz hT hx
  split at e
  ·rename_i s hs
   obtain⟨rfl,rfl,rfl⟩:=aU e
   have:=qf gh hs;subst this
   exact⟨rfl,rfl,_,by unfold jU;rw[hc],.i⟩
  ·rename_i s hs
   obtain⟨rfl,rfl,rfl⟩:=aU e
   have:=qf gh hs;subst this
   exact⟨rfl,rfl,_,by unfold jU;rw[hc],gm⟩
  ·cases e
 ·cases e)
theorem R9(a b:Od){t:Tm}{h:Hp}{k:IntKind}{m n:Int}(h1:bB a t=some (.int k m))(h2:bB b t=some (.int k n)):AH (bB a) (bB b) t h=.ok (.int k (bif kV n m then n else m)) h:=by
 unfold AH ah
 rw[h1,h2]
 have q:=gJ (f:=fun k a b=>some (.int k (bif kV b a then b else a))) k m n
 simp only[ef q]
theorem Sa(a b:Od){t:Tm}{h:Hp}{k:IntKind}{m n:Int}(h1:bB a t=some (.int k m))(h2:bB b t=some (.int k n)):AJ (bB a) (bB b) t h=.ok (.int k (bif kV m n then n else m)) h:=by
 unfold AJ ah
 rw[h1,h2]
 have q:=gJ (f:=fun k a b=>some (.int k (bif kV a b then b else a))) k m n
 simp only[ef q]
theorem acL(m n:Int):(bif kV n m then n else m)=min m n:=by
 rw[jf]
 by_cases q:n<m
 ·simp only[decide_eq_true q,cond_true];omega
 ·simp only[decide_eq_false q,cond_false];omega
theorem acM(m n:Int):(bif kV m n then n else m)=max m n:=by
 rw[jf]
 by_cases q:m<n
 ·simp only[decide_eq_true q,cond_true];omega
 ·simp only[decide_eq_false q,cond_false];omega
theorem Hz{mx:Bool}{a b:Od}{E:En}{T T':Tq}{t:Tm}{H H':Hq}{v:Sv}(hT:TV E H.next T t)(e:(FC mx a b T H).val=some (v,T',H')):
 H'=H/\T'=T/\ ∃ k m n,bB a t=some (.int k m)/\bB b t=some (.int k n)/\V E H.next v (.int k (bif mx then(bif kV m n then n else m)else(bif kV n m then n else m))):=by
 unfold FC at e
 split at e
 ·rename_i x hx
  split at e
  ·rename_i y hy
   obtain⟨c,hc,gh⟩:=bz hT hx
   obtain⟨d,hd,Qa⟩:=bz hT hy
   split at e
   ·rename_i k m k' n
    cases hk:jv k k' with
    |false=>rw[hk]at e;cases e
    |true=>
     rw[hk]at e
     obtain⟨rfl,rfl,rfl⟩:=aU e
     have:=eO.1 hk;subst this
     cases gh;cases Qa
     exact⟨rfl,rfl,k,m,n,hc,hd,.i⟩
   ·split at e
    ·rename_i k m k' n h1 h2
     cases hk:jv k k' with
     |false=>rw[hk]at e;cases e
     |true=>
      rw[hk]at e
      obtain⟨rfl,rfl,rfl⟩:=aU e
      have:=eO.1 hk;subst this
      rw[iE gh h1]at hc
      rw[iE Qa h2]at hd
      refine⟨rfl,rfl,k,m,n,hc,hd,?_⟩
      cases mx with
      |true=>simp only[cond_true,acM];exact gm
      |false=>simp only[cond_false,acL];exact gm
    ·cases e
  ·cases e
 ·cases e
theorem Sb(a b:Od):eS (FC false a b) (fun _ _=>AH (bB a) (bB b)):=db (by
 intro E T t H h v T' H' hT hH e
 obtain⟨rfl,rfl,k,m,n,h1,h2,hv⟩:=Hz hT e
 exact⟨rfl,rfl,_,R9 a b h1 h2,hv⟩)
theorem Sc(a b:Od):eS (FC true a b) (fun _ _=>AJ (bB a) (bB b)):=db (by
 intro E T t H h v T' H' hT hH e
 obtain⟨rfl,rfl,k,m,n,h1,h2,hv⟩:=Hz hT e
 exact⟨rfl,rfl,_,Sa a b h1 h2,hv⟩)
end Lf
end Go.Ab

noncomputable section
namespace Go.Ab
namespace Lf
theorem Dj{agg:Bool}{row:Rw}{b k o sz:Nat}{L:List AV}{c:AV}(s:row.lG b k=some L)(rM:0<sz)(h:part agg L o sz=some c):rX agg row (b+o) sz=some c:=by
 unfold part at h
 split at h
 ·cases h
 ·rename_i q hq
  obtain⟨rfl,hl⟩:=lH hq
  obtain⟨s1,s2⟩:=eR.1 s
  have hL:L.length=k:=by rw[s2,List.length_take,List.length_drop,eN];omega
  have hb:o+sz<=k:=by rw[List.length_take,List.length_drop]at hl;omega
  unfold rX
  rw[nO s hb]
  exact h
theorem MH{agg:Bool}{l r:List AV}{sz:Nat}{c:AV}(h:part agg l 0 sz=some c):part agg (l++r) 0 sz=some c:=by
 unfold part at h
 split at h
 ·cases h
 ·rename_i q hq
  obtain⟨rfl,hl⟩:=lH hq
  rw[List.drop_zero]at h hl
  have:List.take sz (l++r)=List.take sz l:=List.take_append_of_le_length (by rw[List.length_take]at hl;omega)
  unfold part
  rw[sL (by rw[List.drop_zero,this,hl]),List.drop_zero,this]
  exact h
theorem vk{E:En}{H:Hq}{h:Hp}(S:SR E H h){r:Nat}{l:List Sv}(e:ya H r=some l): ∃ id row,(E.K r).av=.ref id 0/\h.aL.get id=some row/\Vs E H.next l row.toL:=by
 unfold ya at e
 split at e
 ·rename_i hr;cases e
  obtain⟨id,row,a,b,c,_⟩:=(S.row _ _ hr).2
  exact⟨id,row,a,b,c⟩
 ·rename_i hr;cases e
  obtain⟨id,row,a,b,c⟩:=(S.row _ _ hr).2
  exact⟨id,row,a,(S.g _ _ b).2.1,c⟩
 ·cases e
theorem ug{E:En}{N:Nat}{t:Ty}{x:List (den t)}{base i:Nat}{row:Rw}{ls:List AV}(hi:i<x.length)(s:row.lG base (x.length*size t)=some ls)(e:kG (EV E.G t) x ls):
 EV E.G t (x.getD i (aq t)) ((ls.drop (i*size t)).take (size t))/\Vs E N (nL t (x.getD i (aq t))) ((ls.drop (i*size t)).take (size t))/\row.lG (base+i*size t) (size t)=some ((ls.drop (i*size t)).take (size t)):=by
 have h1:=e.get (EV.length t) hi (aq t)
 refine⟨h1,rz rfl t _ _ h1,nO s ?_⟩
 have:=Nat.mul_le_mul_right (size t) (Nat.succ_le_of_lt hi)
 rw[Nat.succ_mul]at this;exact this
theorem MI{E:En}{H:Hq}{h:Hp}(S:SR E H h){r sz i id base n:Nat}{l:List Sv}(e:Mg H r sz i=some l)(hk:(E.K r).av=.ff id base n sz)(hi:i<n):
 ∃ row L,h.aL.get id=some row/\Vs E H.next l L/\row.lG (base+i*sz) sz=some L:=by
 have key: ∀ {t:Ty} {x:List (den t)} {S':Nat->Option Rw},(∀ row,S' id=some row->h.aL.get id=some row)->LR E.G t x (E.K r) S'->(bif Nat.beq sz (size t)then some (nL t (x.getD i (aq t)))else none)=some l-> ∃ row L,h.aL.get id=some row/\Vs E H.next l L/\row.lG (base+i*sz) sz=some L:=by
  intro t x S' hs q e
  obtain⟨hb,e⟩:=bQ e
  cases e
  have hz:=beq_true hb
  rcases q.2 with⟨k,_⟩|⟨xt,Mz,row,ls,k1,k2,k3,k4⟩
  ·rw[hk]at k;cases k
  ·rw[hk]at k1
   injection k1 with a1 a2 a3 a4
   subst a1;subst a2
   rw[<-q.1]at a3 k3
   rw[a3]at hi
   obtain⟨_,e2,e3⟩:=ug (N:=H.next) hi k3 k4
   exact⟨row,_,hs _ k2,e2,by rw[hz];exact e3⟩
 unfold Mg at e
 split at e
 ·rename_i t x hr;exact key (fun _ e=>e) (S.row _ _ hr).2 e
 ·rename_i t x hr;exact key (fun _ e=>(S.g _ _ e).2.1) (S.row _ _ hr).2 e
 ·cases e
theorem yi{E:En}{H:Hq}{h:Hp}(S:SR E H h){sz:Nat}{agg:Bool}{p v:Sv}{a:AV}(hv:V E H.next p a)(e:Aj sz agg p H=some v): ∃ c,xp h sz agg a=some c/\V E H.next v c:=by
 unfold Aj at e
 have rM:=bH.1 (bQ e).1
 replace e:=(bQ e).2
 split at e
 ·rename_i r o
  split at e
  ·rename_i l hl
   obtain⟨id,row,k1,k2,k3⟩:=vk S hl
   cases hv with
   |rf h1 h2=>
    rw[k1]at h2;cases h2
    obtain⟨c,c1,c2⟩:=ov k3 e
    refine⟨c,?_,c2⟩
    show(match h.aL.get id with|some cs=>rX agg cs o sz|none=>none)=_
    rw[k2];exact Mt rM c1
  ·cases e
 ·rename_i r s i o
  split at e
  ·rename_i l hl
   cases hv with
   |re h1 h2 h3=>
    rename_i id base n
    obtain⟨row,L,k1,k2,k3⟩:=MI S hl h2 h3
    obtain⟨c,c1,c2⟩:=ov k2 e
    refine⟨c,?_,c2⟩
    show(match h.aL.get id with|some cs=>rX agg cs (base+i*s+o) sz|none=>none)=_
    rw[k1];exact Dj k3 rM c1
  ·cases e
 ·cases hv with
  |zp k=>
   obtain⟨c,c1,c2⟩:=ov k e
   exact⟨c,MH c1,c2⟩
  |zr k g s=>
   rename_i l' id off row
   obtain⟨c,c1,c2⟩:=ov k e
   refine⟨c,?_,c2⟩
   show(match h.aL.get id with|some cs=>rX agg cs off sz|none=>none)=_
   rw[(S.g _ _ g).2.1]
   have:=Dj s rM c1
   exact this
 ·cases e
theorem MJ(sz:Nat)(agg:Bool)(a:Od):eS (Hn sz agg a) (fun _ _=>bg sz agg (bB a)):=db (by
 intro E T t H h v T' H' hT hH e
 unfold Hn at e
 split at e
 ·rename_i p hp
  obtain⟨e1,rfl,rfl⟩:=mG e
  obtain⟨c,hc,gh⟩:=bz hT hp
  obtain⟨r,h1,h2⟩:=yi hH gh e1
  refine⟨rfl,rfl,r,?_,h2⟩
  unfold bg
  rw[hc]
  simp only[h1]
 ·cases e)
theorem Bq{E:En}{H:Hq}{h:Hp}(S:SR E H h){r id:Nat}{R R':Row}{Sd:Rw}(hr:H.aL.get r=some R)(lv:R.live=true)(VC:R'.live=true)(jB:ly (E.K r).av=some id)
 (hR:RV E H.next (jz h id (some Sd)) (E.K r) R'):SR E (jo H r (some R')) (jz h id (some Sd))/\Nx E E H (jo H r (some R')) h (jz h id (some Sd)):=by
 have ow: ∀ q,own (jo H r (some R')) q->own H q:=by
  rintro q ⟨Q,a,b⟩
  rw[fp]at a
  split at a
  ·rename_i e;rw[e];exact⟨R,hr,lv⟩
  ·exact⟨Q,a,b⟩
 refine⟨⟨?_,?_,?_,?_⟩,⟨w7.refl _ _,Nat.le_refl _,Nat.le_refl _,fun q id o e=>.inl ⟨q,ow q o,e⟩,fun _ _ e=>.inl e,fun i hi hn=>?_⟩⟩
 ·intro q Q hq
  rw[fp]at hq
  split at hq
  ·rename_i e;subst e;cases hq;exact⟨(S.row _ _ hr).1,hR⟩
  ·rename_i ne
   refine⟨(S.row _ _ hq).1,(S.row _ _ hq).2.mono (w7.refl _ _) (Nat.le_refl _) fun lq i row e1 e2=>?_⟩
   rw[jL,if_neg fun ei=>ne (S.inj q r id ⟨Q,hq,lq⟩ ⟨R,hr,lv⟩ (by rw[e1,ei]) jB)]
   exact e2
 ·exact fun a b i oa ob ea eb=>S.inj a b i (ow a oa) (ow b ob) ea eb
 ·exact fun a i oa ea=>S.lt a i (ow a oa) ea
 ·intro i row e
  obtain⟨a,b,c⟩:=S.g i row e
  refine⟨a,?_,fun q oq=>c q (ow q oq)⟩
  rw[jL,if_neg fun ei=>c r ⟨R,hr,lv⟩ (by rw[ei];exact jB)]
  exact b
 ·rw[jL,if_neg fun ei=>hn r ⟨R,hr,lv⟩ (by rw[ei];exact jB)]
theorem w8(L B v:List AV)(o:Nat)(h:o+v.length<=L.length): ∀ (A:List AV),put (A++(L++B)) (A.length+o) v=A++(put L o v++B)
 | []=>by
  simp only[List.nil_append,List.length_nil,Nat.zero_add]
  rw[put_eq,put_eq,List.take_append_of_le_length (by omega),List.drop_append_of_le_length h]
  simp
 |a::A=>by
  have:=w8 L B v o h A
  rw[put_eq]at this ⊢
  rw[List.length_cons,show A.length+1+o=A.length+o+1 by omega,List.cons_append,List.take_succ_cons,show A.length+o+1+v.length=A.length+o+v.length+1 by omega,List.drop_succ_cons,List.cons_append,this]
  rfl
theorem w9(l:List AV)(o:Nat)(v:List AV)(h:o+v.length<=l.length):(put l o v).length=l.length:=by
 rw[put_eq,List.length_append,List.length_append,List.length_take,List.length_drop];omega
theorem Js{G:Nat->Option Rw}{t:Ty}{x:List (den t)}{ls:List AV}(e:kG (EV G t) x ls){i:Nat}(hi:i<x.length):ls=ls.take (i*size t)++((ls.drop (i*size t)).take (size t)++ls.drop (i*size t+size t)):=by
 rw[<-List.drop_drop,List.take_append_drop,List.take_append_drop]
theorem Se{G:Nat->Option Rw}{t:Ty}{x:List (den t)}{ls:List AV}(e:kG (EV G t) x ls){i:Nat}(hi:i<x.length){y:den t}{c:List AV}(hy:EV G t y c):kG (EV G t) (x.set i y) (ls.take (i*size t)++(c++ls.drop (i*size t+size t))):=by
 rw[List.set_eq_take_append_cons_drop,if_pos hi]
 have h1:=e.take (EV.length t) i
 have h2:=e.drop (EV.length t) (i+1)
 rw[Nat.succ_mul]at h2
 exact h1.app ⟨c,_,rfl,hy,h2⟩
theorem Jt(sz:Nat)(a b:Od):eS (Fy sz a b) (fun _ _=>aH sz (bB a) (bB b)):=by
 intro E T t H h v T' H' hT hH e
 unfold Fy at e
 split at e
 ·rename_i w hw
  cases hb:(Nat.beq (len w.cells) sz&&cf Da w.cells)with
  |false=>rw[hb]at e;cases e
  |true=>
   rw[hb]at e
   simp only[cond_true]at e
   rw[Bool.and_eq_true]at hb
   obtain⟨d,hd,Qa⟩:=bz hT hw
   have n8:=Qa.cells
   have hlen:d.cells.length=w.cells.length:=n8.length.symm
   have rM:w.cells.length=sz:=by have:=beq_true hb.1;rwa [bM]at this
   have FI:cf dQ d.cells=true:=by
    rw[hU,List.all_eq_true]
    refine n8.ER fun q hq=>?_
    have:=hb.2;rw[hU,List.all_eq_true]at this;exact this q hq
   have wS: ∀ {id off:Nat} {row:Rw},bB a t=some (.ref id off)->h.aL.get id=some row->off+sz<=row.n->aH sz (bB a) (bB b) t h=.ok gQ (jz h id (some (row.put off d.cells))):=by
    intro id off row h1 h2 h3
    unfold aH
    rw[h1,hd]
    simp only[h2]
    have q:(Nat.beq (len d.cells) sz&&(Nat.ble (Nat.add off (len d.cells)) row.n&&cf dQ d.cells))=true:=by
     rw[bM,hlen,rM,FI,Nat.beq_refl,Bool.and_true,Bool.true_and]
     rw[Nat.ble_eq];exact h3
    rw[q];rfl
   split at e
   ·rename_i r o ha
    obtain⟨p,hp,lr⟩:=bz hT ha
    split at e
    ·rename_i l hr
     cases hq:Nat.ble (Nat.add o (len w.cells)) (len l)with
     |false=>rw[hq]at e;cases e
     |true=>
      rw[hq]at e
      obtain⟨rfl,rfl,rfl⟩:=aU e
      have hq:=Nat.le_of_ble_eq_true hq
      rw[bM,bM]at hq
      obtain⟨id,row,k1,k2,k3,k4⟩:=(hH.row _ _ hr).2
      cases lr with
      |rf h1 h2=>
       rw[k1]at h2;cases h2
       have hn:o+sz<=row.n:=by rw[<-eN,<-k3.length,<-rM];exact hq
       have hR:RV E H.next (jz h id (some (row.put o d.cells))) (E.K r) (.o _ (lL l o w.cells)):=
        ⟨id,row.put o d.cells,k1,by rw[jL,if_pos rfl],by rw[tA (by rw[hlen,rM];exact hn)];exact k3.put n8 o,k4⟩
       obtain⟨S,X⟩:=Bq hH hr rfl rfl (by rw[k1];rfl) hR
       exact⟨_,_,E,Ev.const (wS hp k2 hn),X,S,.tu .nil,hT⟩
    ·cases e
   ·rename_i r s i o ha
    obtain⟨p,hp,lr⟩:=bz hT ha
    split at e
    ·rename_i ty x hr
     cases hq:(Nat.beq s (size ty)&&Nat.ble (Nat.add o (len w.cells)) s)with
     |false=>rw[hq]at e;cases e
     |true=>
      rw[hq]at e
      simp only[cond_true]at e
      rw[Bool.and_eq_true]at hq
      have hs:s=size ty:=beq_true hq.1
      have hos:=Nat.le_of_ble_eq_true hq.2
      rw[bM]at hos
      split at e
      ·rename_i y H1 hy
       split at e
       ·rename_i t2 x2 hr2
        obtain⟨rfl,rfl,rfl⟩:=aU e
        cases lr with
        |re h1 h2 h3=>
         rename_i id base n
         have q:=(hH.row _ _ hr).2
         rcases q.2 with⟨k,_⟩|⟨xt,Mz,row,ls,k1,k2,k3,k4⟩
         ·rw[h2]at k;cases k
         ·rw[h2]at k1
          injection k1 with a1 a2 a3 a4
          subst a1;subst a2
          rw[<-q.1]at a3 k3
          rw[a3]at h3
          obtain⟨_,e2,e3⟩:=ug (N:=H.next) h3 k3 k4
          obtain⟨E1,c,dd,F,hcd,hey,aie⟩:=sM ty E H h _ [] _ y H1 hH (e2.put n8 o) hy
          have hdd:dd=[]:=by cases aie;rfl
          rw[hdd,List.append_nil]at hcd
          have hr1:H1.aL.get r=some (.l t2 x2):=hr2
          have q2:=(F.S.row _ _ hr1).2
          have hKr:(E1.K r).av=.ff id base n s:=by rw[F.K];exact h2
          have hL:((ls.drop (i*size ty)).take (size ty)).length=size ty:=(ug (N:=H.next) h3 k3 k4).1 |> EV.length ty _ _
          have ao6:ls.length=x.length*size ty:=k4.length (EV.length ty)
          have hle:i*size ty+size ty<=x.length*size ty:=by
           have:=Nat.mul_le_mul_right (size ty) (Nat.succ_le_of_lt h3)
           rw[Nat.succ_mul]at this;exact this
          obtain⟨s1,s2⟩:=eR.1 k3
          have hn:base+i*s+o+sz<=row.n:=by rw[hs];rw[rM,hs]at hos;have e0:o+sz<=size ty:=hos;omega
          have aif:(row.put (base+i*s+o) d.cells).lG base (x.length*size ty)=some (ls.take (i*size ty)++(c++ls.drop (i*size ty+size ty))):=by
           have XU:base+i*s+o+d.cells.length<=row.n:=by rw[hlen,rM];exact hn
           refine eR.2 ⟨by show base+_<=row.n;exact s1,?_⟩
           rw[tA XU,<-hcd]
           have sD:row.toL=row.toL.take base++(ls++row.toL.drop (base+x.length*size ty)):=by
            rw[s2,<-List.drop_drop,List.take_append_drop,List.take_append_drop]
           have E5:(row.toL.take base).length=base:=by rw[List.length_take,eN];omega
           have hls:=Js k4 h3
           have hA:(ls.take (i*size ty)).length=i*size ty:=by rw[List.length_take];omega
           have hod:o+d.cells.length<=size ty:=by rw[hlen,<-hs];exact hos
           have e1:put row.toL (base+i*s+o) d.cells=row.toL.take base++(put ls (i*size ty+o) d.cells++row.toL.drop (base+x.length*size ty)):=by
            have:=w8 ls (row.toL.drop (base+x.length*size ty)) d.cells (i*size ty+o) (by omega) (row.toL.take base)
            rw[<-sD,E5]at this
            rw[hs,Nat.add_assoc];exact this
           have e2:put ls (i*size ty+o) d.cells=ls.take (i*size ty)++(put ((ls.drop (i*size ty)).take (size ty)) o d.cells++ls.drop (i*size ty+size ty)):=by
            have:=w8 ((ls.drop (i*size ty)).take (size ty)) (ls.drop (i*size ty+size ty)) d.cells o (by rw[hL];exact hod) (ls.take (i*size ty))
            rw[<-hls,hA]at this
            exact this
           rw[e1,List.drop_append_of_le_length (by rw[E5];exact Nat.le_refl _)]
           rw[show List.drop base (row.toL.take base)=[]from by rw[List.drop_eq_nil_iff,E5];exact Nat.le_refl _,List.nil_append]
           rw[List.take_append_of_le_length (by rw[w9 _ _ _ (by omega)];omega)]
           rw[show List.take (x.length*size ty) (put ls (i*size ty+o) d.cells)=put ls (i*size ty+o) d.cells from by rw[List.take_of_length_le];rw[w9 _ _ _ (by omega)];omega]
           exact e2.symm
          have hR:RV E1 H1.next (jz h id (some (row.put (base+i*s+o) d.cells))) (E1.K r) (.l ty (x.set i y)):=by
           refine⟨by rw[List.length_set,F.K];exact q.1,.inr ⟨id,base,row.put (base+i*s+o) d.cells,_,?_,by rw[jL,if_pos rfl],?_,Se (k4.mono (EV.mono F.g ty)) h3 hey⟩⟩
           ·rw[hKr,F.K,<-q.1,hs,a3]
           ·rw[F.K,<-q.1];exact aif
          obtain⟨S,X⟩:=Bq F.S hr1 rfl rfl (by rw[hKr];rfl) hR
          exact⟨_,_,E1,Ev.const (wS hp k2 hn),F.X.trans X,S,.tu .nil,hT.mono (F.X.trans X).e (F.X.trans X).le⟩
       ·cases e
      ·cases e
    ·cases e
   ·cases e
 ·cases e
end Lf
end Go.Ab
