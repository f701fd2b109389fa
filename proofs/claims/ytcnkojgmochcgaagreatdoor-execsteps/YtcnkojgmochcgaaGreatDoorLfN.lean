import Derived.Test.YtcnkojgmochcgaaGreatDoorLfK
import Derived.Test.YtcnkojgmochcgaaGreatDoorVbQ
import Derived.KernelRfl
import Derived.Shelf.Small.Bits
import Derived.Shelf.Spec.TrailingZeros
import Derived.Test.YtcnkojgmochcgaaGreatDoorVrA
import Derived.Test.YtcnkojgmochcgaaGreatDoorVrS
noncomputable section
namespace Go.Ab.Lf
def uE(t:Ty):dg:=gC (.cons (.im t) .nil) [] (.cons (.ow t) .nil) [.aC t] [.aC t] fun x=>.ck (decide (List.length x.1<=1099511627776)) (.ok (x.1,()))
def flat(t:Ty):Bool:=Ty.rec (motive:=fun _=>Bool) (fun _=>true) true true (fun _ _=>false) (fun _ _ a b=>bif a then b else false) t
theorem pW{G G':Nat->Option Rw}: ∀ (t:Ty) (x:den t) (cs:List AV),flat t=true->EV G t x cs->EV G' t x cs
 | .int _,_,_,_,e=>e
 | .bool,_,_,_,e=>e
 | .str,_,_,_,e=>e
 | .aC _,_,_,h,_=>by cases h
 | .pair a b,x,cs,h,⟨c,d,e,k1,k2⟩=>by
  have h:(bif flat a then flat b else false)=true:=h
  cases ha:flat a with
  |false=>rw[ha]at h;cases h
  |true=>rw[ha]at h;exact⟨c,d,e,pW a _ _ ha k1,pW b _ _ h k2⟩
def JZ:Sv->Bool
 | .os _ _| .ss _ _ _ _=>true
 | _=>false
theorem We{t:Ty}{v:Sv}{a:AV}{x:List (den t)}{E:En}{H H1:Hq}{h:Hp}(S:SR E H h)(ho:JZ v=true)(hv:V E H.next v a)(e:wc t v H=some (x,H1)): ∀ id,gB a=some id->id<h.next:=by
 intro id hi
 cases v with
 |os r s=>
  change (match H.aQ.get r with|some (.l t' x)=>(match nK t' t with|some ⟨e⟩=>some ((e▸x:List (den t)),H)|none=>none)| _=>none)=some (x,H1)at e
  split at e
  ·rename_i t' y hr
   cases hv with
   |os _ _=>exact S.lt r id ⟨_,hr,rfl⟩ hi
  ·cases e
 |ss r s off n=>
  change (match H.aQ.get r with|some (.l t' x)=>(match nK t' t with|some ⟨e⟩=>some (((e▸x:List (den t)).drop off).take n,H)|none=>none)| _=>none)=some (x,H1)at e
  split at e
  ·rename_i t' y hr
   cases hv with
   |se _ h1 _ _=>exact S.lt r id ⟨_,hr,rfl⟩ hi
   |ss _ h1 _=>exact S.lt r id ⟨_,hr,rfl⟩ (by rw[h1];exact hi)
  ·cases e
 | _=>cases ho
theorem wP{t:Ty}{x:List (den t)}{r:List Pl}{H:Hq}:dq (.im t) (⟨.aC t,x⟩::r) H=some ([.c H.next (.aC t) x],r,⟨Nat.add H.next 1,H.aQ⟩):=by
 unfold dq;simp only[gp]
theorem FJ{t:Ty}{x:List (den t)}{r:List Pl}{H:Hq}:dq (.ow t) (⟨.aC t,x⟩::r) H=some ([.os H.next (size t)],r,cP H (.l t x)):=by
 unfold dq;simp only[gp]
theorem oF{p:gO}{pl:List Pl}{H H':Hq}{v:List Sv}(h:dq p pl H=some (v,[],H')):dq (.cons p .nil) pl H=some (v,[],H'):=by
 show(match dq p pl H with|some (v,r,H)=>(match dq .nil r H with|some (w,r,H)=>some (app v w,r,H)|none=>none)|none=>none)=_
 rw[h]
 show some (app v [],([]:List Pl),H')=_
 rw[bO,List.append_nil]
theorem FK{t:Ty}(ft:flat t=true){f:FuncId}{aP:a8}(k:(uE t).Ok f aP){E:En}{H H1:Hq}{h:Hp}{v:Sv}{a:AV}{x:List (den t)}(S:SR E H h)(ho:JZ v=true)(hv:V E H.next v a)(hp:wc t v H=some (x,H1))(hl:x.length<=1099511627776):
 ∃ c h' E',Ev (fun n d=>aP n d f [a] h) (.ok c h')/\Nx E E' H (cP H (.l t x)) h h'/\SR E' (cP H (.l t x)) h'/\V E' (cP H (.l t x)).next (.os H.next (size t)) c:=by
 have eO:=We S ho hv hp
 obtain⟨E1,F,D⟩:=pT S hv hp
 obtain⟨G0,hG,hE⟩: ∃ G0:Nat->Option Rw,(∀ id row,G0 id=some row->id<h.next/\h.aQ.get id=some row)/\EV G0 (.aC t) x [a]:=by
  rcases D with⟨d1,d2⟩|⟨id,base,row,ls,d1,d2,d3,d4⟩
  ·exact⟨fun _=>none,fun _ _ e=>(by cases e),a,rfl,.inl ⟨d1,d2⟩⟩
  ·refine⟨fun i=>if i=id then some row else none,fun i r e=>?_,a,rfl,.inr ⟨ls,d4.mono fun y c e=>pW t y c ft e,.inr ⟨id,base,row,d1,if_pos rfl,d3⟩⟩⟩
   dsimp only at e
   split at e
   ·rename_i q
    cases e
    subst q
    exact⟨eO i (by rw[d1];rfl),d2⟩
   ·cases e
 obtain⟨E0,hE0⟩: ∃ E0:En,E0=⟨fun _=>⟨.any,0⟩,fun _=>a,G0,fun _=>.any⟩:=⟨_,rfl⟩
 have no: ∀ r R,¬ (Tr.nil:Tr Row).get r=some R:=fun r R h=>by
  have h:(none:Option Row)=some R:=h
  cases h
 have hf:dq (uE t).P (aN [.aC t] (x,())) e1=some ([.c 1 (.aC t) x],[],⟨2,.nil⟩):=by
  exact oF wP
 have hs:((uE t).f (aN [.aC t] (x,()))).val=some (aN [.aC t] (x,())):=by
  unfold uE gC
  simp only[jh]
  show(bif decide (x.length<=1099511627776)then some (aN [.aC t] (x,()))else none)=_
  rw[decide_eq_true hl]
  rfl
 have hS0:SR E0 (dF ⟨2,.nil⟩) h:=by
  have et:dF ⟨2,.nil⟩=(⟨2,.nil⟩:Hq):=rfl
  rw[et]
  refine⟨fun r R h=>(no r R h).elim,?_,?_,fun id row e=>?_⟩
  ·rintro r r' id ⟨R,h,_⟩;exact(no r R h).elim
  ·rintro r id ⟨R,h,_⟩;exact(no r R h).elim
  ·subst hE0
   obtain⟨g1,g2⟩:=hG id row e
   refine⟨g1,g2,?_⟩
   rintro r ⟨R,h,_⟩;exact(no r R h).elim
 obtain⟨c,h',E2,ws,H2,QE,X,S2,hq,hV⟩:=k _ _ _ _ E0 h [a] hs hf (.cons (.c (by subst hE0;exact hE) fun _=>⟨by decide,by subst hE0;rfl⟩) .nil) hS0
 have hq2:dq (uE t).Q (aN [.aC t] (x,())) e1=some ([.os 1 (size t)],[],cP e1 (.l t x)):=by
  exact oF FJ
 rw[hq2]at hq
 cases hq
 have h1:(cP e1 (.l t x)).aQ.get 1=some (.l t x):=by rw[fH];exact if_pos rfl
 have R1:=(S2.row 1 _ h1).2
 have Wf:own (cP e1 (.l t x)) 1:=⟨_,h1,rfl⟩
 have hc:c=(E2.K 1).av:=by
  cases hV with
  |cons hc _=>cases hc with
   |os _ _=>rfl
 have noO: ∀ r,¬ own (dF ⟨2,.nil⟩) r:=by
  have et:dF ⟨2,.nil⟩=(⟨2,.nil⟩:Hq):=rfl
  rw[et]
  rintro r ⟨R,h,_⟩;exact no r R h
 have R3:RV E H.next h' (E2.K 1) (.l t x):=by
  obtain⟨q1,q2⟩:=R1
  refine⟨q1,?_⟩
  rcases q2 with q2|⟨id,base,row,ls,k1,k2,k3,k4⟩
  ·exact .inl q2
  ·exact .inr ⟨id,base,row,ls,k1,k2,k3,k4.mono fun y c e=>pW t y c ft e⟩
 obtain⟨S3,X3⟩:=fI S rfl (fun _ _ e=>e) X.um (fun id hi _=>X.fr id hi fun r o _=>noO r o) (fun id e=>⟨S2.lt 1 id Wf e,.inl (by
  rcases X.ow 1 id Wf e with⟨r,o,_⟩|q
  ·exact(noO r o).elim
  ·exact q)⟩) R3 rfl
 refine⟨c,h',_,QE,X3,S3,?_⟩
 have K0:(E.row H.next (E2.K 1)).K H.next=E2.K 1:=if_pos rfl
 have kb:=V.os (E:=E.row H.next (E2.K 1)) (N:=(cP H (.l t x)).next) (r:=H.next) (sz:=size t) (Nat.lt_succ_self _) (by
  rw[K0]
  obtain⟨q1,q2⟩:=R3
  rcases q2 with⟨k1,k2⟩|⟨id,base,row,ls,k1,_⟩
  ·exact .inl ⟨k1,by rw[<-q1,k2];rfl⟩
  ·exact .inr ⟨id,base,k1⟩)
 rw[K0,<-hc]at kb
 exact kb
def clW(cl:FuncId->Option Ty)(base:dY):dY:=fun f args H=>match cl f with
 |some t=>(match args with
  | [v]=>bif JZ v then(match wc t v H with
   |some (x,_)=>.ck (decide (x.length<=1099511627776)) (.ok (.os H.next (size t),cP H (.l t x)))
   |none=>base f args H)else base f args H
  | _=>base f args H)
 |none=>base f args H
theorem Pf{cl:FuncId->Option Ty}{base:dY}{aP:a8}(hc: ∀ f t,cl f=some t->flat t=true/\(uE t).Ok f aP)(C:mh base aP):mh (clW cl base) aP:=by
 intro E f args aZ H h v H' hv hS e
 unfold clW at e
 split at e
 ·rename_i t ht
  obtain⟨ft,k⟩:=hc f t ht
  split at e
  ·rename_i w
   cases ho:JZ w with
   |false=>rw[ho]at e;exact C E f _ _ H h v H' hv hS e
   |true=>
    rw[ho,cond_true]at e
    split at e
    ·rename_i x H1 hp
     obtain⟨h1,h2⟩:=T.bY e
     cases h2
     cases hv with
     |cons ha hr=>
      cases hr
      exact FK ft k hS ho ha hp (of_decide_eq_true h1)
    ·exact C E f _ _ H h v H' hv hS e
  ·exact C E f _ _ H h v H' hv hS e
 ·exact C E f _ _ H h v H' hv hS e
def Pg(cl:FuncId->Option Ty)(bk:FuncId->Option bR)(QG:FuncId->Option dg)(m d:Nat):dY:=Nat.rec (fun _ _ _=>.bad) (fun _ ih=>clW cl fun f args h=>match QG f with
 |some s=>s.call args h
 |none=>(match bk f with
  |some b=>bif Nat.ble b.ntmps 512 then wg (fun _=>none) b m ih args h else .bad
  |none=>.bad)) d
theorem AB{cl:FuncId->Option Ty}{bk:FuncId->Option bR}{QG:FuncId->Option dg}{m:Nat}{aP:a8}(hc: ∀ f t,cl f=some t->flat t=true/\(uE t).Ok f aP)(hb: ∀ f b,bk f=some b->kS aP f b)(he: ∀ f s,QG f=some s->s.Ok f aP): ∀ d,mh (Pg cl bk QG m d) aP
 |0=>by intro E f args aZ H h v H' _ _ e;cases e
 |d+1=>Pf hc (by
  intro E f args aZ H h v H' hv hH e
  change (match QG f with|some s=>s.call args H|none=>(match bk f with|some b=>bif Nat.ble b.ntmps 512 then wg (fun _=>none) b m (Pg cl bk QG m d) args H else .bad|none=>.bad)).val=some (v,H')at e
  split at e
  ·rename_i s hs
   exact JM (he f s hs) hv hH e
  ·split at e
   ·rename_i b xt
    obtain⟨h5,e⟩:=dc e
    exact wD (AB hc hb he d) (R:=Rx.s) (hb f b xt) (Nat.le_of_ble_eq_true h5) (bD _) hv hH e
   ·cases e)
def bT{α:Type}(a:α):α:=Classical.choose (⟨a,rfl⟩: ∃ x,x=a)
theorem aq{α:Type}(a:α):bT a=a:=Classical.choose_spec (⟨a,rfl⟩: ∃ x,x=a)
theorem dD{to:List Ty}{t:T (List Pl)}{y:aI to}{k:Bool}{m:aI to}(hk:k=dN to t)(hm:m=cT to t)(h:t.val=some (aN to y)):k=true/\m=y:=by
 rw[hk,hm]
 exact OV h
end Go.Ab.Lf

noncomputable section
namespace Go.Proofs
open Go.Ab Go.Ab.Lf
def exQ(f:Nat):Bool:=Nat.beq f 10||(Nat.beq f 56||(Nat.beq f 305||(Nat.beq f 132||(Nat.beq f 49||(Nat.beq f 50||(Nat.beq f 52||Nat.beq f 53))))))
def QH:FuncId->Option bR:=fun f=>bif exQ f then none else Tryz.xs.get f
end Go.Proofs
namespace Go.Proofs.Vq
open Go.Ab Go.Ab.Lf
set_option maxRecDepth 100000
abbrev i64:Ty:=.int .i64
abbrev u64:Ty:=.int .u64
abbrev u32:Ty:=.int .u32
abbrev u8:Ty:=.int .u8
abbrev tI:Ty:=.pair i64 (.pair i64 (.pair i64 (.pair u64 (.pair u64 (.aC i64)))))
abbrev cx:Ty:=.pair (.aC i64) (.aC i64)
abbrev ph:Ty:=.pair .str (.pair .str i64)
abbrev ji:Ty:=.pair i64 i64
abbrev pj:Ty:=.pair i64 (.pair .bool (.aC tI))
abbrev pn:Ty:=.pair .str (.pair i64 i64)
abbrev po:Ty:=.pair (.aC tI) (.aC i64)
abbrev pq:Ty:=.pair (.aC i64) (.aC tI)
abbrev pw:Ty:=.pair (.aC tI) (.aC u8)
abbrev cQ:Ty:=.pair i64 (.pair i64 u64)
abbrev fw:Ty:=.pair i64 (.pair i64 (.pair i64 (.pair i64 (.pair i64 (.pair (.aC cQ) (.aC i64))))))
abbrev tEv:Ty:=.pair i64 (.aC u64)
abbrev tM:List Ty:=[.aC cx,.aC ph,.aC i64,.aC ji,.aC ji,.aC pj,.aC pn,i64,.aC po,.aC pq,.aC pw]
abbrev Ps(l:List gO):gO:=l.foldr .cons .nil
def clQ:FuncId->Option Ty:=fun f=>bif Nat.beq f 67 then some u64 else bif Nat.beq f 70 then some i64 else none
def jj(l:List (Nat×dg))(m:Nat):dY:=Pg clQ QH (OD l) m 12
def bI{α:Type}(c:Bool)(x:Option α):Option α:=bif c then x else none
theorem nA{b n:Nat}(hb:b<=64)(h:n<=1099511627776):roomy b n=true:=by
 rw[lG]
 refine⟨?_,by omega⟩
 calc n*b<=1099511627776*64:=Nat.mul_le_mul h hb
  _<=70368744177664:=by decide
def Ph:dg:=⟨.nil,[],.nil,fun _=>.bad⟩
theorem AD{f:Nat}{aP:a8}:Ph.Ok f aP:=fun _ _ _ _ _ _ _ e=>by cases e
abbrev iq(t:Ty):dg:=uE t
def J0:dg:=gC (.cons (.im fw) .nil) [] (.cons (.ow fw) .nil) [.aC fw] [.aC fw] fun x=>.ck (decide (List.length x.1<=549755813888)) (.ok (x.1,()))
def lz(b:Nat)(x:Int):Int:=(b:Int) - (Go.Lib.bitLen x.toNat:Int)
def tz(b:Nat)(x:Int):Int:=(Go.Lib.ctz b x.toNat:Nat)
def QI(k:IntKind)(F:Int->Int)(b:Int):dg:=gC (Ps [.n k]) [] (Ps [.n .i64]) [.int k] [i64] fun x=>.ck (decide (0<=(x.1:Int))&&decide ((x.1:Int)<=b)) (.ok (F x.1,()))
def s49:dg:=QI .u32 (lz 32) 4294967295
def s50:dg:=QI .u32 (tz 32) 4294967295
def s52:dg:=QI .u64 (lz 64) 18446744073709551615
def s53:dg:=QI .u64 (tz 64) 18446744073709551615
structure WQ(aP:a8):Prop where
 st: ∀ f b,QH f=some b->kS aP f b
 Pj:(iq u64).Ok 67 aP
 c69:(iq cx).Ok 69 aP
 Wg:(iq i64).Ok 70 aP
 c71:J0.Ok 71 aP
 Yo:(iq cQ).Ok 72 aP
 Wh:(iq ph).Ok 116 aP
 Wi:(iq ji).Ok 117 aP
 Wj:(iq pj).Ok 118 aP
 Wk:(iq pn).Ok 120 aP
 Wl:(iq po).Ok 121 aP
 Wm:(iq pq).Ok 122 aP
 Wn:(iq pw).Ok 123 aP
 Wo:(iq u8).Ok 124 aP
 Wp:(iq tI).Ok 221 aP
 b49:s49.Ok 49 aP
 b50:s50.Ok 50 aP
 b52:s52.Ok 52 aP
 b53:s53.Ok 53 aP
theorem WQ.cl{aP:a8}(W:WQ aP): ∀ f t,clQ f=some t->flat t=true/\(uE t).Ok f aP:=by
 intro f t h
 unfold clQ at h
 cases h1:Nat.beq f 67 with
 |true=>
  rw[h1]at h
  cases h
  obtain rfl:=Nat.eq_of_beq_eq_true h1
  exact⟨rfl,W.Pj⟩
 |false=>
  rw[h1,cond_false]at h
  cases h2:Nat.beq f 70 with
  |true=>
   rw[h2]at h
   cases h
   obtain rfl:=Nat.eq_of_beq_eq_true h2
   exact⟨rfl,W.Wg⟩
  |false=>rw[h2]at h;cases h
theorem WQ.in{aP:a8}(W:WQ aP){l:List (Nat×dg)}(h:dy aP l)(m:Nat):mh (jj l m) aP:=AB W.cl W.st h.ok 12
end Go.Proofs.Vq

noncomputable section
namespace Go.Proofs.Vq
open Go.Ab Go.Ab.Lf
set_option maxRecDepth 100000
abbrev FL:List Ty:=[i64]
abbrev kf:List Ty:=[i64]
def Yp:List (Nat×dg):=[]
theorem Pk{aP:a8}(W:WQ aP):dy aP Yp:=.nil
def t11(x:aI FL):Lf.T (List Pl):=iN (Ps [.n .i64]) [] (Ps [.n .i64]) (fun _=>none) Tryz.ZF 3 (jj Yp 3) (aN FL x)
def yN(x:aI FL):Bool:=bT (dN kf (t11 x))
def m11(x:aI FL):aI kf:=bT (cT kf (t11 x))
def QJ:dg:=gC (Ps [.n .i64]) [] (Ps [.n .i64]) FL kf fun x=>.ck (yN x) (.ok (m11 x))
theorem rk{aP:a8}(W:WQ aP):QJ.Ok 11 aP:=
 cb (W.in (Pk W) 3) (W.st 11 _ rfl) rfl (bD _) (m:=3) rfl (fun _=>aq _) (fun _=>aq _)
abbrev oW:List Ty:=[.aC i64,i64,i64]
abbrev nB:List Ty:=[]
abbrev nC:List Ty:=[.bool]
def J1:rG:=⟨0,rW Tryz.Ym.code 0,[5,6,7],(Ps [.im i64,.n .i64,.n .i64]),[⟨.yH,[],(Ps [])⟩,⟨.rt,[2],(Ps [.bo])⟩]⟩
def Wq:List (Nat×dg):=[]
theorem J2{aP:a8}(W:WQ aP):dy aP Wq:=.nil
def uF:List Pl->Lf.T Rs:=J1.step (fun _=>none) (jj Wq 3) 3
def Wr:gm:=Ci J1 uF oW nB nC
theorem J3{aP:a8}(W:WQ aP):jg Rx.w Wr (fun n d=>iL (aP n d) n (.bl 0 (.lp J1.body))):=nz (W.in (J2 W) 3) (bD _) (m:=3) oW nB nC
def L83:Nat->Option gm:=G2 [(0,Wr)]
abbrev FM:List Ty:=[.aC i64]
abbrev wQ:List Ty:=[.bool]
def e83:List (Nat×dg):=[]
theorem Pm{aP:a8}(W:WQ aP):dy aP e83:=.nil
def t83(x:aI FM):Lf.T (List Pl):=iN (Ps [.im i64]) [] (Ps [.bo]) L83 Tryz.Ym 3 (jj e83 3) (aN FM x)
def QK(x:aI FM):Bool:=bT (dN wQ (t83 x))
def QL(x:aI FM):aI wQ:=bT (cT wQ (t83 x))
def s83:dg:=gC (Ps [.im i64]) [] (Ps [.bo]) FM wQ fun x=>.ck (QK x) (.ok (QL x))
theorem Pn{aP:a8}(W:WQ aP):s83.Ok 83 aP:=
 cb (W.in (Pm W) 3) (W.st 83 _ rfl) rfl (oA.nL (.cons (b:=J1.body) (by kernel_rfl) (J3 W) .nil)) (m:=3) rfl (fun _=>aq _) (fun _=>aq _)
abbrev wR:List Ty:=[i64]
abbrev dU:List Ty:=[.bool]
def Ws:List (Nat×dg):=[(11,QJ)]
theorem J4{aP:a8}(W:WQ aP):dy aP Ws:=(.cons (rk W) .nil)
def t245(x:aI wR):Lf.T (List Pl):=iN (Ps [.n .i64]) [] (Ps [.bo]) (fun _=>none) Tryz.OL 3 (jj Ws 3) (aN wR x)
def FN(x:aI wR):Bool:=bT (dN dU (t245 x))
def FO(x:aI wR):aI dU:=bT (cT dU (t245 x))
def Wt:dg:=gC (Ps [.n .i64]) [] (Ps [.bo]) wR dU fun x=>.ck (FN x) (.ok (FO x))
theorem J5{aP:a8}(W:WQ aP):Wt.Ok 245 aP:=
 cb (W.in (J4 W) 3) (W.st 245 _ rfl) rfl (bD _) (m:=3) rfl (fun _=>aq _) (fun _=>aq _)
abbrev sW:List Ty:=[.aC cx,.aC fw,i64,i64,i64,i64,i64,.aC cQ,.aC i64,i64,i64,i64,u64]
abbrev gP:List Ty:=[.bool]
def Wu:List (Nat×dg):=[(245,Wt)]
theorem J6{aP:a8}(W:WQ aP):dy aP Wu:=(.cons (J5 W) .nil)
def t141(x:aI sW):Lf.T (List Pl):=iN (Ps [.ag (Ps [.im cx,.im fw]),.zp (Ps [.n .i64,.n .i64,.n .i64,.n .i64,.n .i64,.im cQ,.im i64]),.n .i64,.ag (Ps [.n .i64,.n .i64,.n .u64])]) [] (Ps [.bo]) (fun _=>none) Tryz.OF 3 (jj Wu 3) (aN sW x)
def wS(x:aI sW):Bool:=bT (dN gP (t141 x))
def uG(x:aI sW):aI gP:=bT (cT gP (t141 x))
def Wv:dg:=gC (Ps [.ag (Ps [.im cx,.im fw]),.zp (Ps [.n .i64,.n .i64,.n .i64,.n .i64,.n .i64,.im cQ,.im i64]),.n .i64,.ag (Ps [.n .i64,.n .i64,.n .u64])]) [] (Ps [.bo]) sW gP fun x=>.ck (wS x) (.ok (uG x))
theorem J7{aP:a8}(W:WQ aP):Wv.Ok 141 aP:=
 cb (W.in (J6 W) 3) (W.st 141 _ rfl) rfl (bD _) (m:=3) rfl (fun _=>aq _) (fun _=>aq _)
abbrev iU:List Ty:=[i64,i64,i64,i64,i64,.aC cQ,.aC i64,.aC cx,.aC fw,.aC cQ,i64,i64]
abbrev iV:List Ty:=[]
abbrev gb:List Ty:=[.bool]
def J8:rG:=⟨0,rW Tryz.Yn.code 0,[1,2,87,88,89],(Ps [.zp (Ps [.n .i64,.n .i64,.n .i64,.n .i64,.n .i64,.im cQ,.im i64]),.pt 0 (Ps [.im cx,.im fw]),.im cQ,.n .i64,.n .i64]),[⟨.yH,[],(Ps [])⟩,⟨.rt,[4],(Ps [.bo])⟩]⟩
def Ww:List (Nat×dg):=[(141,Wv)]
theorem J9{aP:a8}(W:WQ aP):dy aP Ww:=(.cons (J7 W) .nil)
def nD:List Pl->Lf.T Rs:=J8.step (fun _=>none) (jj Ww 3) 3
def Wx:gm:=Ci J8 nD iU iV gb
theorem J'{aP:a8}(W:WQ aP):jg Rx.w Wx (fun n d=>iL (aP n d) n (.bl 0 (.lp J8.body))):=nz (W.in (J9 W) 3) (bD _) (m:=3) iU iV gb
def L84:Nat->Option gm:=G2 [(0,Wx)]
abbrev FP:List Ty:=[.aC cx,.aC fw,i64,i64,i64,i64,i64,.aC cQ,.aC i64]
abbrev px:List Ty:=[.bool]
def e84:List (Nat×dg):=[]
theorem Po{aP:a8}(W:WQ aP):dy aP e84:=.nil
def t84(x:aI FP):Lf.T (List Pl):=iN (Ps [.ag (Ps [.im cx,.im fw]),.zp (Ps [.n .i64,.n .i64,.n .i64,.n .i64,.n .i64,.im cQ,.im i64])]) [] (Ps [.bo]) L84 Tryz.Yn 3 (jj e84 3) (aN FP x)
def Yq(x:aI FP):Bool:=bT (dN px (t84 x))
def Yr(x:aI FP):aI px:=bT (cT px (t84 x))
def s84:dg:=gC (Ps [.ag (Ps [.im cx,.im fw]),.zp (Ps [.n .i64,.n .i64,.n .i64,.n .i64,.n .i64,.im cQ,.im i64])]) [] (Ps [.bo]) FP px fun x=>.ck (Yq x) (.ok (Yr x))
theorem Pp{aP:a8}(W:WQ aP):s84.Ok 84 aP:=
 cb (W.in (Po W) 3) (W.st 84 _ rfl) rfl (oA.nL (.cons (b:=J8.body) (by kernel_rfl) (J' W) .nil)) (m:=3) rfl (fun _=>aq _) (fun _=>aq _)
abbrev eW:List Ty:=[.aC cx,.aC fw,.aC cx,i64,i64]
abbrev dQ:List Ty:=[.aC cx,.aC fw]
abbrev gf:List Ty:=[i64]
def Ka:rG:=⟨0,rW Tryz.Sh.code 0,[1,7,8,9],(Ps [.pt 0 (Ps [.im cx,.im fw]),.im cx,.n .i64,.n .i64]),[⟨.yH,[1],(Ps [.pt 0 (Ps [.im cx,.im fw])])⟩,⟨.rt,[2],(Ps [.n .i64])⟩]⟩
def Wy:List (Nat×dg):=[(83,s83)]
theorem Kb{aP:a8}(W:WQ aP):dy aP Wy:=(.cons (Pn W) .nil)
def f340:List Pl->Lf.T Rs:=Ka.step (fun _=>none) (jj Wy 3) 3
def Wz:gm:=Ci Ka f340 eW dQ gf
theorem Kc{aP:a8}(W:WQ aP):jg Rx.w Wz (fun n d=>iL (aP n d) n (.bl 0 (.lp Ka.body))):=nz (W.in (Kb W) 3) (bD _) (m:=3) eW dQ gf
abbrev gq:List Ty:=[.aC cx,.aC fw,i64,i64]
abbrev hZ:List Ty:=[]
abbrev fe:List Ty:=[i64]
def Ke:rG:=⟨2,rW Tryz.Sh.code 2,[1,26,27],(Ps [.pt 0 (Ps [.im cx,.im fw]),.n .i64,.n .i64]),[⟨.yH,[],(Ps [])⟩,⟨.rt,[2],(Ps [.n .i64])⟩]⟩
def WA:List (Nat×dg):=[(84,s84)]
theorem Kf{aP:a8}(W:WQ aP):dy aP WA:=(.cons (Pp W) .nil)
def f342:List Pl->Lf.T Rs:=Ke.step (fun _=>none) (jj WA 3) 3
def WB:gm:=Ci Ke f342 gq hZ fe
theorem Kg{aP:a8}(W:WQ aP):jg Rx.w WB (fun n d=>iL (aP n d) n (.bl 2 (.lp Ke.body))):=nz (W.in (Kf W) 3) (bD _) (m:=3) gq hZ fe
def L34:Nat->Option gm:=G2 [(0,Wz),(2,WB)]
abbrev FQ:List Ty:=[.aC cx,.aC fw]
abbrev rm:List Ty:=[i64]
def e34:List (Nat×dg):=[]
theorem Pq{aP:a8}(W:WQ aP):dy aP e34:=.nil
def t34(x:aI FQ):Lf.T (List Pl):=iN (Ps [.ag (Ps [.im cx,.im fw])]) [] (Ps [.n .i64]) L34 Tryz.Sh 3 (jj e34 3) (aN FQ x)
def Ys(x:aI FQ):Bool:=bT (dN rm (t34 x))
def WC(x:aI FQ):aI rm:=bT (cT rm (t34 x))
def s34:dg:=gC (Ps [.ag (Ps [.im cx,.im fw])]) [] (Ps [.n .i64]) FQ rm fun x=>.ck (Ys x) (.ok (WC x))
theorem Pr{aP:a8}(W:WQ aP):s34.Ok 34 aP:=
 cb (W.in (Pq W) 3) (W.st 34 _ rfl) rfl (oA.nL (.cons (b:=Ka.body) (by kernel_rfl) (Kc W) (.cons (b:=Ke.body) (by kernel_rfl) (Kg W) .nil))) (m:=3) rfl (fun _=>aq _) (fun _=>aq _)
end Go.Proofs.Vq

noncomputable section
namespace Go.Proofs.Vq
open Go.Ab Go.Ab.Lf
set_option maxRecDepth 100000
abbrev aaP(a:Nat):gO:=.pt a (Ps [.ow u8,.n .i64])
abbrev py(a b:Nat):gO:=.pt b (Ps [.ow u64,.im i64,.im i64,.im i64,.im cx,.im ph,.im i64,.im ji,.im ji,.im pj,.im pn,.n .i64,.im po,.im pq,.im pw,aaP a])
abbrev Kh(c:Nat):gO:=.pt c (Ps [.ow u64,.ow tEv,.n .u32])
abbrev yO(a b c d:Nat):gO:=.pt d (Ps [.im cx,.im fw,py a b,Kh c,.im cx,.im ph,.im i64,.im ji,.im ji,.im pj,.im pn,.n .i64,.im po,.im pq,.im pw,.bo])
abbrev uH(a b c d e:Nat):gO:=.pt e (Ps [yO a b c d,.n .i64,.n .i64,.n .i64,.n .i64])
abbrev Yt:gO:=.zp (Ps [.n .i64,.n .i64,.n .i64,.n .i64,.n .i64,.im cQ,.im i64])
abbrev eX(a b c d e f:Nat):gO:=.pt f (Ps [uH a b c d e,Yt,.n .i64,.ow u64,.ow u64])
abbrev iJ(l:List Ty):List Ty:=.aC cx::.aC ph::.aC i64::.aC ji::.aC ji::.aC pj::.aC pn::i64::.aC po::.aC pq::.aC pw::l
abbrev oG(l:List Ty):List Ty:=.aC u64::.aC i64::.aC i64::.aC i64::iJ (.aC u8::i64::l)
abbrev jW(l:List Ty):List Ty:=.aC u64::.aC tEv::u32::l
abbrev rX(l:List Ty):List Ty:=.aC cx::.aC fw::oG (jW (iJ (.bool::l)))
abbrev oH(l:List Ty):List Ty:=rX (i64::i64::i64::i64::l)
abbrev uI(l:List Ty):List Ty:=i64::i64::i64::i64::i64::.aC cQ::.aC i64::l
abbrev uX(l:List Ty):List Ty:=oH (uI (i64::.aC u64::.aC u64::l))
structure QM where
 wT:List Int
 small:List Int
 first:List Int
 tab:List Int
 mod:aI tM
 bytes:List Int
 aaQ:Int
structure Pt where
 rep:List Int
 log:List (den tEv)
 code:Int
structure AE where
 sigs:List (den cx)
 fns:List (den fw)
 s:QM
 h:Pt
 mod:aI tM
 bad:Bool
structure Rn where
 m:AE
 fuel:Int
 aaR:Int
 depth:Int
 err:Int
structure FR where
 r:Rn
 f:den fw
 pc:Int
 st:List Int
 lo:List Int
abbrev rq(l:List Ty)(y:aI tM)(r:aI l):aI (iJ l):=(y.1,y.2.1,y.2.2.1,y.2.2.2.1,y.2.2.2.2.1,y.2.2.2.2.2.1,y.2.2.2.2.2.2.1,y.2.2.2.2.2.2.2.1,y.2.2.2.2.2.2.2.2.1,y.2.2.2.2.2.2.2.2.2.1,y.2.2.2.2.2.2.2.2.2.2.1,r)
abbrev jX(l:List Ty)(s:QM)(r:aI l):aI (oG l):=(s.wT,s.small,s.first,s.tab,rq (.aC u8::i64::l) s.mod (s.bytes,s.aaQ,r))
abbrev nE(l:List Ty)(s:Pt)(r:aI l):aI (jW l):=(s.rep,s.log,s.code,r)
abbrev fP(l:List Ty)(s:AE)(r:aI l):aI (rX l):=(s.sigs,s.fns,jX (jW (iJ (.bool::l))) s.s (nE (iJ (.bool::l)) s.h (rq (.bool::l) s.mod (s.bad,r))))
abbrev oI(l:List Ty)(s:Rn)(r:aI l):aI (oH l):=fP (i64::i64::i64::i64::l) s.m (s.fuel,s.aaR,s.depth,s.err,r)
abbrev cFn(l:List Ty)(f:den fw)(r:aI l):aI (uI l):=(f.1,f.2.1,f.2.2.1,f.2.2.2.1,f.2.2.2.2.1,f.2.2.2.2.2.1,f.2.2.2.2.2.2,r)
abbrev aW(l:List Ty)(x:FR)(r:aI l):aI (uX l):=oI (uI (i64::.aC u64::.aC u64::l)) x.r (cFn (i64::.aC u64::.aC u64::l) x.f (x.pc,x.st,x.lo,r))
def rnO(y:aI (oH [])):Rn:=⟨⟨y.1,y.2.1,⟨y.2.2.1,y.2.2.2.1,y.2.2.2.2.1,y.2.2.2.2.2.1,(y.2.2.2.2.2.2.1,y.2.2.2.2.2.2.2.1,y.2.2.2.2.2.2.2.2.1,y.2.2.2.2.2.2.2.2.2.1,y.2.2.2.2.2.2.2.2.2.2.1,y.2.2.2.2.2.2.2.2.2.2.2.1,y.2.2.2.2.2.2.2.2.2.2.2.2.1,y.2.2.2.2.2.2.2.2.2.2.2.2.2.1,y.2.2.2.2.2.2.2.2.2.2.2.2.2.2.1,y.2.2.2.2.2.2.2.2.2.2.2.2.2.2.2.1,y.2.2.2.2.2.2.2.2.2.2.2.2.2.2.2.2.1,()),y.2.2.2.2.2.2.2.2.2.2.2.2.2.2.2.2.2.1,y.2.2.2.2.2.2.2.2.2.2.2.2.2.2.2.2.2.2.1⟩,⟨y.2.2.2.2.2.2.2.2.2.2.2.2.2.2.2.2.2.2.2.1,y.2.2.2.2.2.2.2.2.2.2.2.2.2.2.2.2.2.2.2.2.1,y.2.2.2.2.2.2.2.2.2.2.2.2.2.2.2.2.2.2.2.2.2.1⟩,(y.2.2.2.2.2.2.2.2.2.2.2.2.2.2.2.2.2.2.2.2.2.2.1,y.2.2.2.2.2.2.2.2.2.2.2.2.2.2.2.2.2.2.2.2.2.2.2.1,y.2.2.2.2.2.2.2.2.2.2.2.2.2.2.2.2.2.2.2.2.2.2.2.2.1,y.2.2.2.2.2.2.2.2.2.2.2.2.2.2.2.2.2.2.2.2.2.2.2.2.2.1,y.2.2.2.2.2.2.2.2.2.2.2.2.2.2.2.2.2.2.2.2.2.2.2.2.2.2.1,y.2.2.2.2.2.2.2.2.2.2.2.2.2.2.2.2.2.2.2.2.2.2.2.2.2.2.2.1,y.2.2.2.2.2.2.2.2.2.2.2.2.2.2.2.2.2.2.2.2.2.2.2.2.2.2.2.2.1,y.2.2.2.2.2.2.2.2.2.2.2.2.2.2.2.2.2.2.2.2.2.2.2.2.2.2.2.2.2.1,y.2.2.2.2.2.2.2.2.2.2.2.2.2.2.2.2.2.2.2.2.2.2.2.2.2.2.2.2.2.2.1,y.2.2.2.2.2.2.2.2.2.2.2.2.2.2.2.2.2.2.2.2.2.2.2.2.2.2.2.2.2.2.2.1,y.2.2.2.2.2.2.2.2.2.2.2.2.2.2.2.2.2.2.2.2.2.2.2.2.2.2.2.2.2.2.2.2.1,()),y.2.2.2.2.2.2.2.2.2.2.2.2.2.2.2.2.2.2.2.2.2.2.2.2.2.2.2.2.2.2.2.2.2.1⟩,y.2.2.2.2.2.2.2.2.2.2.2.2.2.2.2.2.2.2.2.2.2.2.2.2.2.2.2.2.2.2.2.2.2.2.1,y.2.2.2.2.2.2.2.2.2.2.2.2.2.2.2.2.2.2.2.2.2.2.2.2.2.2.2.2.2.2.2.2.2.2.2.1,y.2.2.2.2.2.2.2.2.2.2.2.2.2.2.2.2.2.2.2.2.2.2.2.2.2.2.2.2.2.2.2.2.2.2.2.2.1,y.2.2.2.2.2.2.2.2.2.2.2.2.2.2.2.2.2.2.2.2.2.2.2.2.2.2.2.2.2.2.2.2.2.2.2.2.2.1⟩
def bz(y:aI (uX [])):FR:=⟨⟨⟨y.1,y.2.1,⟨y.2.2.1,y.2.2.2.1,y.2.2.2.2.1,y.2.2.2.2.2.1,(y.2.2.2.2.2.2.1,y.2.2.2.2.2.2.2.1,y.2.2.2.2.2.2.2.2.1,y.2.2.2.2.2.2.2.2.2.1,y.2.2.2.2.2.2.2.2.2.2.1,y.2.2.2.2.2.2.2.2.2.2.2.1,y.2.2.2.2.2.2.2.2.2.2.2.2.1,y.2.2.2.2.2.2.2.2.2.2.2.2.2.1,y.2.2.2.2.2.2.2.2.2.2.2.2.2.2.1,y.2.2.2.2.2.2.2.2.2.2.2.2.2.2.2.1,y.2.2.2.2.2.2.2.2.2.2.2.2.2.2.2.2.1,()),y.2.2.2.2.2.2.2.2.2.2.2.2.2.2.2.2.2.1,y.2.2.2.2.2.2.2.2.2.2.2.2.2.2.2.2.2.2.1⟩,⟨y.2.2.2.2.2.2.2.2.2.2.2.2.2.2.2.2.2.2.2.1,y.2.2.2.2.2.2.2.2.2.2.2.2.2.2.2.2.2.2.2.2.1,y.2.2.2.2.2.2.2.2.2.2.2.2.2.2.2.2.2.2.2.2.2.1⟩,(y.2.2.2.2.2.2.2.2.2.2.2.2.2.2.2.2.2.2.2.2.2.2.1,y.2.2.2.2.2.2.2.2.2.2.2.2.2.2.2.2.2.2.2.2.2.2.2.1,y.2.2.2.2.2.2.2.2.2.2.2.2.2.2.2.2.2.2.2.2.2.2.2.2.1,y.2.2.2.2.2.2.2.2.2.2.2.2.2.2.2.2.2.2.2.2.2.2.2.2.2.1,y.2.2.2.2.2.2.2.2.2.2.2.2.2.2.2.2.2.2.2.2.2.2.2.2.2.2.1,y.2.2.2.2.2.2.2.2.2.2.2.2.2.2.2.2.2.2.2.2.2.2.2.2.2.2.2.1,y.2.2.2.2.2.2.2.2.2.2.2.2.2.2.2.2.2.2.2.2.2.2.2.2.2.2.2.2.1,y.2.2.2.2.2.2.2.2.2.2.2.2.2.2.2.2.2.2.2.2.2.2.2.2.2.2.2.2.2.1,y.2.2.2.2.2.2.2.2.2.2.2.2.2.2.2.2.2.2.2.2.2.2.2.2.2.2.2.2.2.2.1,y.2.2.2.2.2.2.2.2.2.2.2.2.2.2.2.2.2.2.2.2.2.2.2.2.2.2.2.2.2.2.2.1,y.2.2.2.2.2.2.2.2.2.2.2.2.2.2.2.2.2.2.2.2.2.2.2.2.2.2.2.2.2.2.2.2.1,()),y.2.2.2.2.2.2.2.2.2.2.2.2.2.2.2.2.2.2.2.2.2.2.2.2.2.2.2.2.2.2.2.2.2.1⟩,y.2.2.2.2.2.2.2.2.2.2.2.2.2.2.2.2.2.2.2.2.2.2.2.2.2.2.2.2.2.2.2.2.2.2.1,y.2.2.2.2.2.2.2.2.2.2.2.2.2.2.2.2.2.2.2.2.2.2.2.2.2.2.2.2.2.2.2.2.2.2.2.1,y.2.2.2.2.2.2.2.2.2.2.2.2.2.2.2.2.2.2.2.2.2.2.2.2.2.2.2.2.2.2.2.2.2.2.2.2.1,y.2.2.2.2.2.2.2.2.2.2.2.2.2.2.2.2.2.2.2.2.2.2.2.2.2.2.2.2.2.2.2.2.2.2.2.2.2.1⟩,(y.2.2.2.2.2.2.2.2.2.2.2.2.2.2.2.2.2.2.2.2.2.2.2.2.2.2.2.2.2.2.2.2.2.2.2.2.2.2.1,y.2.2.2.2.2.2.2.2.2.2.2.2.2.2.2.2.2.2.2.2.2.2.2.2.2.2.2.2.2.2.2.2.2.2.2.2.2.2.2.1,y.2.2.2.2.2.2.2.2.2.2.2.2.2.2.2.2.2.2.2.2.2.2.2.2.2.2.2.2.2.2.2.2.2.2.2.2.2.2.2.2.1,y.2.2.2.2.2.2.2.2.2.2.2.2.2.2.2.2.2.2.2.2.2.2.2.2.2.2.2.2.2.2.2.2.2.2.2.2.2.2.2.2.2.1,y.2.2.2.2.2.2.2.2.2.2.2.2.2.2.2.2.2.2.2.2.2.2.2.2.2.2.2.2.2.2.2.2.2.2.2.2.2.2.2.2.2.2.1,y.2.2.2.2.2.2.2.2.2.2.2.2.2.2.2.2.2.2.2.2.2.2.2.2.2.2.2.2.2.2.2.2.2.2.2.2.2.2.2.2.2.2.2.1,y.2.2.2.2.2.2.2.2.2.2.2.2.2.2.2.2.2.2.2.2.2.2.2.2.2.2.2.2.2.2.2.2.2.2.2.2.2.2.2.2.2.2.2.2.1),y.2.2.2.2.2.2.2.2.2.2.2.2.2.2.2.2.2.2.2.2.2.2.2.2.2.2.2.2.2.2.2.2.2.2.2.2.2.2.2.2.2.2.2.2.2.1,y.2.2.2.2.2.2.2.2.2.2.2.2.2.2.2.2.2.2.2.2.2.2.2.2.2.2.2.2.2.2.2.2.2.2.2.2.2.2.2.2.2.2.2.2.2.2.1,y.2.2.2.2.2.2.2.2.2.2.2.2.2.2.2.2.2.2.2.2.2.2.2.2.2.2.2.2.2.2.2.2.2.2.2.2.2.2.2.2.2.2.2.2.2.2.2.1⟩
end Go.Proofs.Vq

noncomputable section
namespace Go.Proofs.Vq
open Go.Ab Go.Ab.Lf
set_option maxRecDepth 100000
abbrev FU:List Ty:=[i64,u64,u64]
abbrev bU:List Ty:=[u64,i64]
def e12:List (Nat×dg):=[(11,QJ)]
theorem Pu{aP:a8}(W:WQ aP):dy aP e12:=(.cons (rk W) .nil)
def t12(x:aI FU):Lf.T (List Pl):=iN (Ps [.n .i64,.n .u64,.n .u64]) [] (Ps [.tu (Ps [.n .u64,.n .i64])]) (fun _=>none) Tryz.ZG 3 (jj e12 3) (aN FU x)
def wU(x:aI FU):Bool:=bT (dN bU (t12 x))
def m12(x:aI FU):aI bU:=bT (cT bU (t12 x))
def s12:dg:=gC (Ps [.n .i64,.n .u64,.n .u64]) [] (Ps [.tu (Ps [.n .u64,.n .i64])]) FU bU fun x=>.ck (wU x) (.ok (m12 x))
theorem FV{aP:a8}(W:WQ aP):s12.Ok 12 aP:=
 cb (W.in (Pu W) 3) (W.st 12 _ rfl) rfl (bD _) (m:=3) rfl (fun _=>aq _) (fun _=>aq _)
abbrev FW:List Ty:=[u32]
abbrev FX:List Ty:=[i64]
def e51:List (Nat×dg):=[]
theorem Pv{aP:a8}(W:WQ aP):dy aP e51:=.nil
def t51(x:aI FW):Lf.T (List Pl):=iN (Ps [.n .u32]) [] (Ps [.n .i64]) (fun _=>none) Tryz.ZL 3 (jj e51 3) (aN FW x)
def k51(x:aI FW):Bool:=bT (dN FX (t51 x))
def m51(x:aI FW):aI FX:=bT (cT FX (t51 x))
def s51:dg:=gC (Ps [.n .u32]) [] (Ps [.n .i64]) FW FX fun x=>.ck (k51 x) (.ok (m51 x))
theorem Pw{aP:a8}(W:WQ aP):s51.Ok 51 aP:=
 cb (W.in (Pv W) 3) (W.st 51 _ rfl) rfl (bD _) (m:=3) rfl (fun _=>aq _) (fun _=>aq _)
abbrev FY:List Ty:=[u64]
abbrev FZ:List Ty:=[i64]
def e54:List (Nat×dg):=[]
theorem Px{aP:a8}(W:WQ aP):dy aP e54:=.nil
def t54(x:aI FY):Lf.T (List Pl):=iN (Ps [.n .u64]) [] (Ps [.n .i64]) (fun _=>none) Tryz.ZM 3 (jj e54 3) (aN FY x)
def k54(x:aI FY):Bool:=bT (dN FZ (t54 x))
def m54(x:aI FY):aI FZ:=bT (cT FZ (t54 x))
def s54:dg:=gC (Ps [.n .u64]) [] (Ps [.n .i64]) FY FZ fun x=>.ck (k54 x) (.ok (m54 x))
theorem Py{aP:a8}(W:WQ aP):s54.Ok 54 aP:=
 cb (W.in (Px W) 3) (W.st 54 _ rfl) rfl (bD _) (m:=3) rfl (fun _=>aq _) (fun _=>aq _)
abbrev F3:List Ty:=[i64,u64]
abbrev gu:List Ty:=[u64,i64]
def e13:List (Nat×dg):=[(49,s49),(50,s50),(52,s52),(53,s53),(11,QJ),(51,s51),(54,s54)]
theorem Pz{aP:a8}(W:WQ aP):dy aP e13:=(.cons W.b49 (.cons W.b50 (.cons W.b52 (.cons W.b53 (.cons (rk W) (.cons (Pw W) (.cons (Py W) .nil)))))))
def t13(x:aI F3):Lf.T (List Pl):=iN (Ps [.n .i64,.n .u64]) [] (Ps [.tu (Ps [.n .u64,.n .i64])]) (fun _=>none) Tryz.ZH 3 (jj e13 3) (aN F3 x)
def wV(x:aI F3):Bool:=bT (dN gu (t13 x))
def m13(x:aI F3):aI gu:=bT (cT gu (t13 x))
def s13:dg:=gC (Ps [.n .i64,.n .u64]) [] (Ps [.tu (Ps [.n .u64,.n .i64])]) F3 gu fun x=>.ck (wV x) (.ok (m13 x))
theorem F4{aP:a8}(W:WQ aP):s13.Ok 13 aP:=
 cb (W.in (Pz W) 3) (W.st 13 _ rfl) rfl (bD _) (m:=3) rfl (fun _=>aq _) (fun _=>aq _)
abbrev wW:List Ty:=[.aC u8,i64,u64,i64]
abbrev AF:List Ty:=[u64,i64,.aC u8,i64]
def WD:List (Nat×dg):=[]
theorem Ki{aP:a8}(W:WQ aP):dy aP WD:=.nil
def t387(x:aI wW):Lf.T (List Pl):=iN (Ps [.pt 0 (Ps [.ow u8,.n .i64]),.n .u64,.n .i64]) [2] (Ps [.tu (Ps [.n .u64,.n .i64]),.pt 2 (Ps [.ow u8,.n .i64])]) (fun _=>none) Tryz.OS 9 (jj WD 9) (aN wW x)
def aaX(x:aI wW):Bool:=bT (dN AF (t387 x))
def aaY(x:aI wW):aI AF:=bT (cT AF (t387 x))
def WE:dg:=gC (Ps [.pt 0 (Ps [.ow u8,.n .i64]),.n .u64,.n .i64]) [2] (Ps [.tu (Ps [.n .u64,.n .i64]),.pt 2 (Ps [.ow u8,.n .i64])]) wW AF fun x=>.ck (aaX x) (.ok (aaY x))
theorem Kj{aP:a8}(W:WQ aP):WE.Ok 387 aP:=
 cb (W.in (Ki W) 9) (W.st 387 _ rfl) rfl (bD _) (m:=9) rfl (fun _=>aq _) (fun _=>aq _)
abbrev wX:List Ty:=[.aC u8,i64,u64,i64,u64]
abbrev AG:List Ty:=[i64,.aC u8,i64]
def WG:List (Nat×dg):=[]
theorem Kk{aP:a8}(W:WQ aP):dy aP WG:=.nil
def t385(x:aI wX):Lf.T (List Pl):=iN (Ps [.pt 0 (Ps [.ow u8,.n .i64]),.n .u64,.n .i64,.n .u64]) [2] (Ps [.n .i64,.pt 2 (Ps [.ow u8,.n .i64])]) (fun _=>none) Tryz.OR 9 (jj WG 9) (aN wX x)
def aaZ(x:aI wX):Bool:=bT (dN AG (t385 x))
def aa0(x:aI wX):aI AG:=bT (cT AG (t385 x))
def WH:dg:=gC (Ps [.pt 0 (Ps [.ow u8,.n .i64]),.n .u64,.n .i64,.n .u64]) [2] (Ps [.n .i64,.pt 2 (Ps [.ow u8,.n .i64])]) wX AG fun x=>.ck (aaZ x) (.ok (aa0 x))
theorem Km{aP:a8}(W:WQ aP):WH.Ok 385 aP:=
 cb (W.in (Kk W) 9) (W.st 385 _ rfl) rfl (bD _) (m:=9) rfl (fun _=>aq _) (fun _=>aq _)
abbrev wY:List Ty:=[.aC u8,i64,i64,u64,u64]
abbrev AH:List Ty:=[u64,i64,.aC u8,i64]
def WI:List (Nat×dg):=[(387,WE)]
theorem Ko{aP:a8}(W:WQ aP):dy aP WI:=(.cons (Kj W) .nil)
def t355(x:aI wY):Lf.T (List Pl):=iN (Ps [.pt 0 (Ps [.ow u8,.n .i64]),.n .i64,.n .u64,.n .u64]) [2] (Ps [.tu (Ps [.n .u64,.n .i64]),.pt 2 (Ps [.ow u8,.n .i64])]) (fun _=>none) Tryz.OQ 3 (jj WI 3) (aN wY x)
def aa1(x:aI wY):Bool:=bT (dN AH (t355 x))
def aa2(x:aI wY):aI AH:=bT (cT AH (t355 x))
def WJ:dg:=gC (Ps [.pt 0 (Ps [.ow u8,.n .i64]),.n .i64,.n .u64,.n .u64]) [2] (Ps [.tu (Ps [.n .u64,.n .i64]),.pt 2 (Ps [.ow u8,.n .i64])]) wY AH fun x=>.ck (aa1 x) (.ok (aa2 x))
theorem Kp{aP:a8}(W:WQ aP):WJ.Ok 355 aP:=
 cb (W.in (Ko W) 3) (W.st 355 _ rfl) rfl (bD _) (m:=3) rfl (fun _=>aq _) (fun _=>aq _)
abbrev wZ:List Ty:=[.aC u8,i64,i64,u64,u64,u64]
abbrev AI:List Ty:=[i64,.aC u8,i64]
def WK:List (Nat×dg):=[(385,WH)]
theorem Kq{aP:a8}(W:WQ aP):dy aP WK:=(.cons (Km W) .nil)
def t354(x:aI wZ):Lf.T (List Pl):=iN (Ps [.pt 0 (Ps [.ow u8,.n .i64]),.n .i64,.n .u64,.n .u64,.n .u64]) [2] (Ps [.n .i64,.pt 2 (Ps [.ow u8,.n .i64])]) (fun _=>none) Tryz.OP 3 (jj WK 3) (aN wZ x)
def aa3(x:aI wZ):Bool:=bT (dN AI (t354 x))
def aa4(x:aI wZ):aI AI:=bT (cT AI (t354 x))
def WM:dg:=gC (Ps [.pt 0 (Ps [.ow u8,.n .i64]),.n .i64,.n .u64,.n .u64,.n .u64]) [2] (Ps [.n .i64,.pt 2 (Ps [.ow u8,.n .i64])]) wZ AI fun x=>.ck (aa3 x) (.ok (aa4 x))
theorem Ks{aP:a8}(W:WQ aP):WM.Ok 354 aP:=
 cb (W.in (Kq W) 3) (W.st 354 _ rfl) rfl (bD _) (m:=3) rfl (fun _=>aq _) (fun _=>aq _)
abbrev w4:List Ty:=[.aC u8,i64,u32]
abbrev AJ:List Ty:=[u32,.aC u8,i64]
def WN:List (Nat×dg):=[]
theorem Kt{aP:a8}(W:WQ aP):dy aP WN:=.nil
def t353(x:aI w4):Lf.T (List Pl):=iN (Ps [.pt 0 (Ps [.ow u8,.n .i64]),.n .u32]) [2] (Ps [.n .u32,.pt 2 (Ps [.ow u8,.n .i64])]) (fun _=>none) Tryz.OO 3 (jj WN 3) (aN w4 x)
def aa5(x:aI w4):Bool:=bT (dN AJ (t353 x))
def aa6(x:aI w4):aI AJ:=bT (cT AJ (t353 x))
def WO:dg:=gC (Ps [.pt 0 (Ps [.ow u8,.n .i64]),.n .u32]) [2] (Ps [.n .u32,.pt 2 (Ps [.ow u8,.n .i64])]) w4 AJ fun x=>.ck (aa5 x) (.ok (aa6 x))
theorem Ku{aP:a8}(W:WQ aP):WO.Ok 353 aP:=
 cb (W.in (Kt W) 3) (W.st 353 _ rfl) rfl (bD _) (m:=3) rfl (fun _=>aq _) (fun _=>aq _)
abbrev w5:List Ty:=uX [i64,i64]
abbrev rr:List Ty:=.bool::uX []
def WR:List (Nat×dg):=[]
theorem Kv{aP:a8}(W:WQ aP):dy aP WR:=.nil
def t232(x:aI w5):Lf.T (List Pl):=iN (Ps [eX 0 0 0 0 0 0,.n .i64,.n .i64]) [39] (Ps [.bo,eX 18 19 22 33 34 39]) (fun _=>none) Tryz.OH 3 (jj WR 3) (aN w5 x)
def lP(x:aI w5):Bool:=bT (dN rr (t232 x))
def aL(x:aI w5):aI rr:=bT (cT rr (t232 x))
def yP:dg:=gC (Ps [eX 0 0 0 0 0 0,.n .i64,.n .i64]) [39] (Ps [.bo,eX 18 19 22 33 34 39]) w5 rr fun x=>.ck (lP x) (.ok (aL x))
theorem lI{aP:a8}(W:WQ aP):yP.Ok 232 aP:=
 cb (W.in (Kv W) 3) (W.st 232 _ rfl) rfl (bD _) (m:=3) rfl (fun _=>aq _) (fun _=>aq _)
abbrev w6:List Ty:=uX [i64,i64,u64]
abbrev eY:List Ty:=uX []
def WS:List (Nat×dg):=[(232,yP)]
theorem Kw{aP:a8}(W:WQ aP):dy aP WS:=(.cons (lI W) .nil)
def t307(x:aI w6):Lf.T (List Pl):=iN (Ps [eX 0 0 0 0 0 0,.ag (Ps [.n .i64,.n .i64,.n .u64])]) [39] (Ps [.tu .nil,eX 18 19 22 33 34 39]) (fun _=>none) Tryz.OM 3 (jj WS 3) (aN w6 x)
def PA(x:aI w6):Bool:=bT (dN eY (t307 x))
def PB(x:aI w6):aI eY:=bT (cT eY (t307 x))
def WT:dg:=gC (Ps [eX 0 0 0 0 0 0,.ag (Ps [.n .i64,.n .i64,.n .u64])]) [39] (Ps [.tu .nil,eX 18 19 22 33 34 39]) w6 eY fun x=>.ck (PA x) (.ok (PB x))
theorem Kx{aP:a8}(W:WQ aP):WT.Ok 307 aP:=
 cb (W.in (Kw W) 3) (W.st 307 _ rfl) rfl (bD _) (m:=3) rfl (fun _=>aq _) (fun _=>aq _)
abbrev w7:List Ty:=uX [i64,i64,u64]
abbrev AK:List Ty:=uX []
def WU:List (Nat×dg):=[(232,yP),(353,WO),(354,WM),(355,WJ)]
theorem Ky{aP:a8}(W:WQ aP):dy aP WU:=(.cons (lI W) (.cons (Ku W) (.cons (Ks W) (.cons (Kp W) .nil))))
def t308(x:aI w7):Lf.T (List Pl):=iN (Ps [eX 0 0 0 0 0 0,.ag (Ps [.n .i64,.n .i64,.n .u64])]) [39] (Ps [.tu .nil,eX 18 19 22 33 34 39]) (fun _=>none) Tryz.ON 3 (jj WU 3) (aN w7 x)
def WV(x:aI w7):Bool:=bT (dN AK (t308 x))
def WW(x:aI w7):aI AK:=bT (cT AK (t308 x))
def WX:dg:=gC (Ps [eX 0 0 0 0 0 0,.ag (Ps [.n .i64,.n .i64,.n .u64])]) [39] (Ps [.tu .nil,eX 18 19 22 33 34 39]) w7 AK fun x=>.ck (WV x) (.ok (WW x))
theorem Kz{aP:a8}(W:WQ aP):WX.Ok 308 aP:=
 cb (W.in (Ky W) 3) (W.st 308 _ rfl) rfl (bD _) (m:=3) rfl (fun _=>aq _) (fun _=>aq _)
abbrev w8:List Ty:=uX [i64]
abbrev AL:List Ty:=uX []
def WY:List (Nat×dg):=[]
theorem KA{aP:a8}(W:WQ aP):dy aP WY:=.nil
def t231(x:aI w8):Lf.T (List Pl):=iN (Ps [eX 0 0 0 0 0 0,.n .i64]) [39] (Ps [.tu .nil,eX 18 19 22 33 34 39]) (fun _=>none) Tryz.OG 3 (jj WY 3) (aN w8 x)
def PC(x:aI w8):Bool:=bT (dN AL (t231 x))
def PD(x:aI w8):aI AL:=bT (cT AL (t231 x))
def WZ:dg:=gC (Ps [eX 0 0 0 0 0 0,.n .i64]) [39] (Ps [.tu .nil,eX 18 19 22 33 34 39]) w8 AL fun x=>.ck (PC x) (.ok (PD x))
theorem KB{aP:a8}(W:WQ aP):WZ.Ok 231 aP:=
 cb (W.in (KA W) 3) (W.st 231 _ rfl) rfl (bD _) (m:=3) rfl (fun _=>aq _) (fun _=>aq _)
abbrev w9:List Ty:=uX [i64,i64,u64]
abbrev di:List Ty:=uX []
def W0:List (Nat×dg):=[(232,yP),(307,WT),(308,WX),(305,Ph),(11,QJ),(12,s12),(13,s13)]
theorem KC{aP:a8}(W:WQ aP):dy aP W0:=(.cons (lI W) (.cons (Kx W) (.cons (Kz W) (.cons AD (.cons (rk W) (.cons (FV W) (.cons (F4 W) .nil)))))))
def t236(x:aI w9):Lf.T (List Pl):=iN (Ps [eX 0 0 0 0 0 0,.ag (Ps [.n .i64,.n .i64,.n .u64])]) [39] (Ps [.tu .nil,eX 18 19 22 33 34 39]) (fun _=>none) Tryz.OK 3 (jj W0 3) (aN w9 x)
def yQ(x:aI w9):Bool:=bT (dN di (t236 x))
def xd(x:aI w9):aI di:=bT (cT di (t236 x))
def W1:dg:=gC (Ps [eX 0 0 0 0 0 0,.ag (Ps [.n .i64,.n .i64,.n .u64])]) [39] (Ps [.tu .nil,eX 18 19 22 33 34 39]) w9 di fun x=>.ck (yQ x) (.ok (xd x))
theorem KD{aP:a8}(W:WQ aP):W1.Ok 236 aP:=
 cb (W.in (KC W) 3) (W.st 236 _ rfl) rfl (bD _) (m:=3) rfl (fun _=>aq _) (fun _=>aq _)
abbrev Cg:=(aI (oH [i64,.aC u64])->Bool)×(aI (oH [i64,.aC u64])->aI (.aC u64::oH []))
def sG(g:Cg):dg:=gC (Ps [uH 0 0 0 0 0,.n .i64,.im u64]) [34] (Ps [.ow u64,uH 18 19 22 33 34]) (oH [i64,.aC u64]) (.aC u64::oH []) fun x=>.ck (g.1 x) (.ok (g.2 x))
abbrev xe:List Ty:=uX [i64]
abbrev AM:List Ty:=uX []
def W2(g:Cg):List (Nat×dg):=[(232,yP),(67,iq u64),(73,sG g)]
theorem KE{g:Cg}{aP:a8}(W:WQ aP)(hg:(sG g).Ok 73 aP):dy aP (W2 g):=(.cons (lI W) (.cons W.Pj (.cons hg .nil)))
def t234(g:Cg)(x:aI xe):Lf.T (List Pl):=iN (Ps [eX 0 0 0 0 0 0,.n .i64]) [39] (Ps [.tu .nil,eX 18 19 22 33 34 39]) (fun _=>none) Tryz.OI 3 (jj (W2 g) 3) (aN xe x)
def W3(g:Cg)(x:aI xe):Bool:=bT (dN AM (t234 g x))
def W4(g:Cg)(x:aI xe):aI AM:=bT (cT AM (t234 g x))
def PE(g:Cg):dg:=gC (Ps [eX 0 0 0 0 0 0,.n .i64]) [39] (Ps [.tu .nil,eX 18 19 22 33 34 39]) xe AM fun x=>.ck (W3 g x) (.ok (W4 g x))
theorem AN{g:Cg}{aP:a8}(W:WQ aP)(hg:(sG g).Ok 73 aP):(PE g).Ok 234 aP:=
 cb (W.in (KE W hg) 3) (W.st 234 _ rfl) rfl (bD _) (m:=3) rfl (fun _=>aq _) (fun _=>aq _)
abbrev xf:List Ty:=uX [i64]
abbrev AO:List Ty:=uX []
def W5(g:Cg):List (Nat×dg):=[(232,yP),(234,PE g)]
theorem KF{g:Cg}{aP:a8}(W:WQ aP)(hg:(sG g).Ok 73 aP):dy aP (W5 g):=(.cons (lI W) (.cons (AN W hg) .nil))
def t235(g:Cg)(x:aI xf):Lf.T (List Pl):=iN (Ps [eX 0 0 0 0 0 0,.n .i64]) [39] (Ps [.tu .nil,eX 18 19 22 33 34 39]) (fun _=>none) Tryz.OJ 3 (jj (W5 g) 3) (aN xf x)
def W6(g:Cg)(x:aI xf):Bool:=bT (dN AO (t235 g x))
def W7(g:Cg)(x:aI xf):aI AO:=bT (cT AO (t235 g x))
def W8(g:Cg):dg:=gC (Ps [eX 0 0 0 0 0 0,.n .i64]) [39] (Ps [.tu .nil,eX 18 19 22 33 34 39]) xf AO fun x=>.ck (W6 g x) (.ok (W7 g x))
theorem KG{g:Cg}{aP:a8}(W:WQ aP)(hg:(sG g).Ok 73 aP):(W8 g).Ok 235 aP:=
 cb (W.in (KF W hg) 3) (W.st 235 _ rfl) rfl (bD _) (m:=3) rfl (fun _=>aq _) (fun _=>aq _)
abbrev sX:List Ty:=uX [i64,i64,u64]
abbrev gv:List Ty:=uX []
def W9(g:Cg):List (Nat×dg):=[(232,yP),(231,WZ),(234,PE g),(235,W8 g),(236,W1)]
theorem KH{g:Cg}{aP:a8}(W:WQ aP)(hg:(sG g).Ok 73 aP):dy aP (W9 g):=(.cons (lI W) (.cons (KB W) (.cons (AN W hg) (.cons (KG W hg) (.cons (KD W) .nil)))))
def t134(g:Cg)(x:aI sX):Lf.T (List Pl):=iN (Ps [eX 0 0 0 0 0 0,.ag (Ps [.n .i64,.n .i64,.n .u64])]) [39] (Ps [.tu .nil,eX 18 19 22 33 34 39]) (fun _=>none) Tryz.OE 3 (jj (W9 g) 3) (aN sX x)
def yR(g:Cg)(x:aI sX):Bool:=bT (dN gv (t134 g x))
def yS(g:Cg)(x:aI sX):aI gv:=bT (cT gv (t134 g x))
def Xa(g:Cg):dg:=gC (Ps [eX 0 0 0 0 0 0,.ag (Ps [.n .i64,.n .i64,.n .u64])]) [39] (Ps [.tu .nil,eX 18 19 22 33 34 39]) sX gv fun x=>.ck (yR g x) (.ok (yS g x))
theorem KI{g:Cg}{aP:a8}(W:WQ aP)(hg:(sG g).Ok 73 aP):(Xa g).Ok 134 aP:=
 cb (W.in (KH W hg) 3) (W.st 134 _ rfl) rfl (bD _) (m:=3) rfl (fun _=>aq _) (fun _=>aq _)
end Go.Proofs.Vq

noncomputable section
namespace Go.Proofs.Vq
open Go.Ab Go.Ab.Lf
set_option maxRecDepth 100000
abbrev eZ:List Ty:=oH (uI (uI [i64,.aC u64,.aC u64]))
abbrev ff:List Ty:=oH (uI [i64,.aC u64,.aC u64])
def KJ:rG:=⟨0,rW Tryz.Yl.code 0,[0,7,8],(Ps [uH 18 19 22 33 34,Yt,.pt 0 (Ps [.rp 34 0,Yt,.n .i64,.ow u64,.ow u64])]),[⟨.yH,[0,8],Ps [uH 18 19 22 33 34,.pt 0 (Ps [.rp 34 0,Yt,.n .i64,.ow u64,.ow u64])]⟩]⟩
def Xb(g:Cg):List (Nat×dg):=[(134,Xa g)]
theorem KK{g:Cg}{aP:a8}(W:WQ aP)(hg:(sG g).Ok 73 aP):dy aP (Xb g):=(.cons (KI W hg) .nil)
def oJ(g:Cg):List Pl->Lf.T Rs:=KJ.step (fun _=>none) (jj (Xb g) 3) 3
def Xc(g:Cg):gm:=Ch KJ (oJ g) eZ ff
theorem KL{g:Cg}{aP:a8}(W:WQ aP)(hg:(sG g).Ok 73 aP):jg Rx.w (Xc g) (fun n d=>iL (aP n d) n (.bl 0 (.lp KJ.body))):=ny (W.in (KK W hg) 3) (bD _) (m:=3) eZ ff
def L73(g:Cg):Nat->Option gm:=G2 [(0,Xc g)]
abbrev F5:List Ty:=oH [i64,.aC u64]
abbrev yU:List Ty:=(.aC u64)::oH []
def e73(g:Cg):List (Nat×dg):=[(67,iq u64),(132,Ph)]
theorem PF{g:Cg}{aP:a8}(W:WQ aP)(hg:(sG g).Ok 73 aP):dy aP (e73 g):=(.cons W.Pj (.cons AD .nil))
def t73(g:Cg)(x:aI F5):Lf.T (List Pl):=iN (Ps [uH 0 0 0 0 0,.n .i64,.im u64]) [34] (Ps [.ow u64,uH 18 19 22 33 34]) (L73 g) Tryz.Yl 3 (jj (e73 g) 3) (aN F5 x)
def k73(g:Cg)(x:aI F5):Bool:=bT (dN yU (t73 g x))
def Yu(g:Cg)(x:aI F5):aI yU:=bT (cT yU (t73 g x))
def s73(g:Cg):dg:=gC (Ps [uH 0 0 0 0 0,.n .i64,.im u64]) [34] (Ps [.ow u64,uH 18 19 22 33 34]) F5 yU fun x=>.ck (k73 g x) (.ok (Yu g x))
theorem PG{g:Cg}{aP:a8}(W:WQ aP)(hg:(sG g).Ok 73 aP):(s73 g).Ok 73 aP:=
 cb (W.in (PF W hg) 3) (W.st 73 _ rfl) rfl (oA.nL (.cons (b:=KJ.body) (by kernel_rfl) (KL W hg) .nil)) (m:=3) rfl (fun _=>aq _) (fun _=>aq _)
abbrev jk:List Ty:=rX [i64,i64,.aC u64,.aC i64,i64,i64]
abbrev gx:List Ty:=rX [i64,i64,.aC u64]
def AP:rG:=⟨1,rW Tryz.Ye.code 1,[0,1,3,8,9,77,78,79],(Ps [yO 18 19 22 33,.n .i64,.n .i64,.pt 0 (Ps [.li .i64 0,.li .u32 0,.av (.sc (.slice none 0 0)),.li .i64 0]),.ow u64,.im i64,.n .i64,.n .i64]),[⟨.yH,[0,1,3,8,9],Ps [yO 18 19 22 33,.n .i64,.n .i64,.pt 0 (Ps [.li .i64 0,.li .u32 0,.av (.sc (.slice none 0 0)),.li .i64 0]),.ow u64]⟩]⟩
def LW:List (Nat×dg):=[]
theorem F6{aP:a8}(W:WQ aP):dy aP LW:=.nil
def sY:List Pl->Lf.T Rs:=AP.step (fun _=>none) (jj LW 3) 3
def LX:gm:=Ch AP sY jk gx
theorem F7{aP:a8}(W:WQ aP):jg Rx.w LX (fun n d=>iL (aP n d) n (.bl 1 (.lp AP.body))):=ny (W.in (F6 W) 3) (bD _) (m:=3) jk gx
def L23:Nat->Option gm:=G2 [(1,LX)]
abbrev Cj:List Ty:=rX [i64,.aC u64,i64]
abbrev rY:List Ty:=i64::u32::(.aC u64)::i64::rX []
def e23(g:Cg):List (Nat×dg):=[(67,iq u64),(73,sG g)]
theorem PH{g:Cg}{aP:a8}(W:WQ aP)(hg:(sG g).Ok 73 aP):dy aP (e23 g):=(.cons W.Pj (.cons hg .nil))
def t23(g:Cg)(x:aI Cj):Lf.T (List Pl):=iN (Ps [yO 0 0 0 0,.n .i64,.im u64,.n .i64]) [33] (Ps [.ag (Ps [.n .i64,.n .u32,.ow u64,.n .i64]),yO 18 19 22 33]) L23 Tryz.Ye 3 (jj (e23 g) 3) (aN Cj x)
def Xd(g:Cg)(x:aI Cj):Bool:=bT (dN rY (t23 g x))
def m23(g:Cg)(x:aI Cj):aI rY:=bT (cT rY (t23 g x))
def s23(g:Cg):dg:=gC (Ps [yO 0 0 0 0,.n .i64,.im u64,.n .i64]) [33] (Ps [.ag (Ps [.n .i64,.n .u32,.ow u64,.n .i64]),yO 18 19 22 33]) Cj rY fun x=>.ck (Xd g x) (.ok (m23 g x))
theorem PJ{g:Cg}{aP:a8}(W:WQ aP)(hg:(sG g).Ok 73 aP):(s23 g).Ok 23 aP:=
 cb (W.in (PH W hg) 3) (W.st 23 _ rfl) rfl (oA.nL (.cons (b:=AP.body) (by kernel_rfl) (F7 W) .nil)) (m:=3) rfl (fun _=>aq _) (fun _=>aq _)
end Go.Proofs.Vq

noncomputable section
namespace Go.Proofs.Vq
open Go.Ab Go.Ab.Lf
set_option maxRecDepth 100000
abbrev PK(f:Ty->gO):gO:=.ag (Ps [f cx,f ph,f i64,f ji,f ji,f pj,f pn,.n .i64,f po,f pq,f pw])
def bW:aI tM:=([([],[]),([127],[126])],[(⟨#[104,111,115,116]⟩,⟨#[102]⟩,(1:Int))],[0,0,0],[((6:Int),(-1:Int))],[((1:Int),(2:Int))],
 [((127:Int),false,[((65:Int),(0:Int),(0:Int),(7:Int),(0:Int),([]:List Int)),(11,0,0,0,0,[])]),(123,false,[(64780,0,0,1,2,[]),(11,0,0,0,0,[])]),(126,false,[(66,0,0,9,0,[]),(11,0,0,0,0,[])])],[],(-1:Int),
 [([((65:Int),(0:Int),(0:Int),(0:Int),(0:Int),([]:List Int)),(11,0,0,0,0,[])],[(0:Int),1,2,3])],
 [(([]:List Int),[((11:Int),(0:Int),(0:Int),(0:Int),(0:Int),([]:List Int))]),([],[(11,0,0,0,0,[])]),([],[(11,0,0,0,0,[])])],[],())
def s17:dg:=gC (Ps []) [] (Ps [PK .im]) [] tM fun _=>.ok bW
theorem PL{aP:a8}(W:WQ aP):s17.Ok 17 aP:=by
 refine oz (W.in .nil 5) (W.st 17 _ rfl) rfl (bD _) (m:=5) rfl ?_
 rintro⟨⟩ q h
 cases h
 kernel_rfl
def CB(y:aI tM):Bool:= @decide (y=bW) (Classical.propDecidable _)
theorem uJ:CB bW=true:=by unfold CB;exact @decide_eq_true _ (Classical.propDecidable _) rfl
theorem yV{y:aI tM}(h:CB y=true):y=bW:=by unfold CB at h;exact @of_decide_eq_true _ (Classical.propDecidable _) h
def eCl:List (Nat×dg):=[(67,iq u64),(69,iq cx),(70,iq i64),(71,J0),(72,iq cQ),(116,iq ph),(117,iq ji),(118,iq pj),(120,iq pn),(121,iq po),(122,iq pq),(123,iq pw),(124,iq u8),(221,iq tI)]
theorem F9{aP:a8}(W:WQ aP):dy aP eCl:=.cons W.Pj (.cons W.c69 (.cons W.Wg (.cons W.c71 (.cons W.Yo (.cons W.Wh (.cons W.Wi (.cons W.Wj (.cons W.Wk (.cons W.Wl (.cons W.Wm (.cons W.Wn (.cons W.Wo (.cons W.Wp .nil)))))))))))))
def F'(p:aI tM->Bool):dg:=gC (Ps [PK .im]) [] (Ps [.n .i64]) tM [i64] fun x=>.ck (p x) (.ok (0,()))
def xg:QM:=⟨[7,1,2,9],[1,0,0,0],[0,1,3],[0,1,2,3,-1,-1],bW,List.replicate 65536 0,2⟩
abbrev Xe:List Ty:=oG [i64]
def t18(p:aI tM->Bool):Lf.T (List Pl):=iN (Ps [PK .im]) [] (Ps [.tu (Ps [py 0 0,.n .i64])]) (fun _=>none) Tryz.ZK 12 (jj ((56,F' p)::eCl) 12) (aN tM bW)
theorem aa9(p:aI tM->Bool):(t18 p).val=bI (p bW) (some (aN Xe (jX [i64] xg (0,())))):=by kernel_rfl
def s18:dg:=gC (Ps [PK .im]) [] (Ps [.tu (Ps [py 0 0,.n .i64])]) tM Xe fun x=>.ck (CB x) (.ok (jX [i64] xg (0,())))
theorem PM{aP:a8}(W:WQ aP)(hc:(F' CB).Ok 56 aP):s18.Ok 18 aP:=by
 refine oz (W.in (.cons hc (F9 W)) 12) (W.st 18 _ rfl) rfl (bD _) (m:=12) rfl ?_
 intro x q h
 obtain⟨h1,h2⟩:=Lf.T.bY h
 cases h2
 obtain rfl:=yV h1
 have e:=aa9 CB
 rw[uJ]at e
 exact e
def s68:dg:=gC (Ps [py 0 0]) [17] (Ps [PK .im,py 16 17]) (oG []) (iJ (oG [])) fun x=>.ck (CB (x.2.2.2.2.1,x.2.2.2.2.2.1,x.2.2.2.2.2.2.1,x.2.2.2.2.2.2.2.1,x.2.2.2.2.2.2.2.2.1,x.2.2.2.2.2.2.2.2.2.1,x.2.2.2.2.2.2.2.2.2.2.1,x.2.2.2.2.2.2.2.2.2.2.2.1,x.2.2.2.2.2.2.2.2.2.2.2.2.1,x.2.2.2.2.2.2.2.2.2.2.2.2.2.1,x.2.2.2.2.2.2.2.2.2.2.2.2.2.2.1,())) (.ok (rq (oG []) bW x))
theorem aa'(v sm fi tb nN:List Int)(mo:Int):(iN (Ps [py 0 0]) [17] (Ps [PK .im,py 16 17]) (fun _=>none) Tryz.ZN 12 (jj eCl 12) (aN (oG []) (jX [] ⟨v,sm,fi,tb,bW,nN,mo⟩ ()))).val=some (aN (iJ (oG [])) (rq (oG []) bW (jX [] ⟨v,sm,fi,tb,bW,nN,mo⟩ ()))):=by kernel_rfl
theorem PN{aP:a8}(W:WQ aP):s68.Ok 68 aP:=by
 refine oz (W.in (F9 W) 12) (W.st 68 _ rfl) rfl (bD _) (m:=12) rfl ?_
 rintro⟨v,sm,fi,tb,m1,m2,m3,m4,m5,m6,m7,m8,m9,m10,m11,nN,mo,⟨⟩⟩ q h
 obtain⟨h1,h2⟩:=Lf.T.bY h
 cases h2
 have h1:=yV h1
 have e1:m1=bW.1:=congrArg Prod.fst h1
 have e2:m2=bW.2.1:=congrArg (fun y:aI tM=>y.2.1) h1
 have e3:m3=bW.2.2.1:=congrArg (fun y:aI tM=>y.2.2.1) h1
 have e4:m4=bW.2.2.2.1:=congrArg (fun y:aI tM=>y.2.2.2.1) h1
 have e5:m5=bW.2.2.2.2.1:=congrArg (fun y:aI tM=>y.2.2.2.2.1) h1
 have e6:m6=bW.2.2.2.2.2.1:=congrArg (fun y:aI tM=>y.2.2.2.2.2.1) h1
 have e7:m7=bW.2.2.2.2.2.2.1:=congrArg (fun y:aI tM=>y.2.2.2.2.2.2.1) h1
 have e8:m8=bW.2.2.2.2.2.2.2.1:=congrArg (fun y:aI tM=>y.2.2.2.2.2.2.2.1) h1
 have e9:m9=bW.2.2.2.2.2.2.2.2.1:=congrArg (fun y:aI tM=>y.2.2.2.2.2.2.2.2.1) h1
 have e10:m10=bW.2.2.2.2.2.2.2.2.2.1:=congrArg (fun y:aI tM=>y.2.2.2.2.2.2.2.2.2.1) h1
 have Yp:m11=bW.2.2.2.2.2.2.2.2.2.2.1:=congrArg (fun y:aI tM=>y.2.2.2.2.2.2.2.2.2.2.1) h1
 subst e1 e2 e3 e4 e5 e6 e7 e8 e9 e10 Yp
 exact aa' v sm fi tb nN mo
end Go.Proofs.Vq

noncomputable section
namespace Go.Proofs.Vq
open Go.Ab Go.Ab.Lf
set_option maxRecDepth 100000
abbrev sZ(a b:gO)(w x y z:Nat):gO:=.pt z (Ps [a,b,py w x,Kh y,.im cx,.im ph,.im i64,.im ji,.im ji,.im pj,.im pn,.n .i64,.im po,.im pq,.im pw,.bo])
def Yv:dg:=gC (Ps []) [] (Ps [.bo]) [] [.bool] fun _=>.ok (true,())
structure WL(aP:a8):Prop extends WQ aP where
 aw:Yv.Ok 10 aP
 chk:(F' CB).Ok 56 aP
abbrev jY:List Ty:=.aC cx::.aC fw::.aC cx::oG (jW (iJ [.bool,i64,i64]))
abbrev gy:List Ty:=.aC cx::.aC fw::.aC cx::oG (jW (iJ [.bool]))
def AQ:rG:=⟨0,rW Tryz.Sg.code 0,[3,7,31,32,33],(Ps [.pt 0 (Ps [.im cx,.im fw]),sZ (.ow cx) (.av (.sc (.slice none 0 0))) 18 19 22 0,.oo 4 2,.n .i64,.n .i64]),[⟨.yH,[3,7],Ps [.pt 0 (Ps [.im cx,.im fw]),sZ (.ow cx) (.av (.sc (.slice none 0 0))) 18 19 22 0]⟩]⟩
def LY:List (Nat×dg):=[(70,iq i64)]
theorem Ga{aP:a8}(W:WQ aP):dy aP LY:=(.cons W.Wg .nil)
def s0:List Pl->Lf.T Rs:=AQ.step (fun _=>none) (jj LY 3) 3
def LZ:gm:=Ch AQ s0 jY gy
theorem Gb{aP:a8}(W:WQ aP):jg Rx.w LZ (fun n d=>iL (aP n d) n (.bl 0 (.lp AQ.body))):=ny (W.in (Ga W) 3) (bD _) (m:=3) jY gy
abbrev jl:List Ty:=rX [i64,i64]
abbrev gz:List Ty:=rX []
def AR:rG:=⟨2,rW Tryz.Sg.code 2,[7,65,66],(Ps [sZ (.im cx) (.ow fw) 18 19 22 0,.n .i64,.n .i64]),[⟨.yH,[7],Ps [sZ (.im cx) (.ow fw) 18 19 22 0]⟩]⟩
def L0:List (Nat×dg):=[(72,iq cQ)]
theorem Gc{aP:a8}(W:WQ aP):dy aP L0:=(.cons W.Yo .nil)
def ru:List Pl->Lf.T Rs:=AR.step (fun _=>none) (jj L0 3) 3
def L1:gm:=Ch AR ru jl gz
theorem Gd{aP:a8}(W:WQ aP):jg Rx.w L1 (fun n d=>iL (aP n d) n (.bl 2 (.lp AR.body))):=ny (W.in (Gc W) 3) (bD _) (m:=3) jl gz
def L22:Nat->Option gm:=G2 [(0,LZ),(2,L1)]
abbrev Ck:List Ty:=.aC cx::.aC fw::oG (jW [])
abbrev yW:List Ty:=rX []
def e22:List (Nat×dg):=[(68,s68),(34,s34),(69,iq cx),(70,iq i64),(71,J0),(72,iq cQ)]
theorem PQ{aP:a8}(W:WQ aP):dy aP e22:=(.cons (PN W) (.cons (Pr W) (.cons W.c69 (.cons W.Wg (.cons W.c71 (.cons W.Yo .nil))))))
def t22(x:aI Ck):Lf.T (List Pl):=iN (Ps [.ag (Ps [.im cx,.im fw]),py 0 0,Kh 0]) [] (Ps [sZ (.im cx) (.im fw) 18 19 22 0]) L22 Tryz.Sg 3 (jj e22 3) (aN Ck x)
def QN(x:aI Ck):Bool:=bT (dN yW (t22 x))
def m22(x:aI Ck):aI yW:=bT (cT yW (t22 x))
def s22:dg:=gC (Ps [.ag (Ps [.im cx,.im fw]),py 0 0,Kh 0]) [] (Ps [sZ (.im cx) (.im fw) 18 19 22 0]) Ck yW fun x=>.ck (QN x) (.ok (m22 x))
theorem PR{aP:a8}(W:WQ aP):s22.Ok 22 aP:=
 cb (W.in (PQ W) 3) (W.st 22 _ rfl) rfl (oA.nL (.cons (b:=AQ.body) (by kernel_rfl) (Gb W) (.cons (b:=AR.body) (by kernel_rfl) (Gd W) .nil))) (m:=3) rfl (fun _=>aq _) (fun _=>aq _)
abbrev kW:List Ty:=[.aC u64,.aC u64,i64]
abbrev jC:List Ty:=[]
abbrev kX:List Ty:=[.bool]
def AS:rG:=⟨0,rW Tryz.Yf.code 0,[0,1,5],(Ps [.im u64,.im u64,.n .i64]),[⟨.yH,[],(Ps [])⟩,⟨.rt,[4],(Ps [.bo])⟩]⟩
def L2:List (Nat×dg):=[]
theorem Ge{aP:a8}(W:WQ aP):dy aP L2:=.nil
def nF:List Pl->Lf.T Rs:=AS.step (fun _=>none) (jj L2 3) 3
def L4:gm:=Ci AS nF kW jC kX
theorem Gf{aP:a8}(W:WQ aP):jg Rx.w L4 (fun n d=>iL (aP n d) n (.bl 0 (.lp AS.body))):=nz (W.in (Ge W) 3) (bD _) (m:=3) kW jC kX
def L25:Nat->Option gm:=G2 [(0,L4)]
abbrev Gg:List Ty:=[.aC u64,.aC u64]
abbrev yX:List Ty:=[.bool]
def e25:List (Nat×dg):=[]
theorem PS{aP:a8}(W:WQ aP):dy aP e25:=.nil
def t25(x:aI Gg):Lf.T (List Pl):=iN (Ps [.im u64,.im u64]) [] (Ps [.bo]) L25 Tryz.Yf 3 (jj e25 3) (aN Gg x)
def Xf(x:aI Gg):Bool:=bT (dN yX (t25 x))
def m25(x:aI Gg):aI yX:=bT (cT yX (t25 x))
def s25:dg:=gC (Ps [.im u64,.im u64]) [] (Ps [.bo]) Gg yX fun x=>.ck (Xf x) (.ok (m25 x))
theorem PT{aP:a8}(W:WQ aP):s25.Ok 25 aP:=
 cb (W.in (PS W) 3) (W.st 25 _ rfl) rfl (oA.nL (.cons (b:=AS.body) (by kernel_rfl) (Gf W) .nil)) (m:=3) rfl (fun _=>aq _) (fun _=>aq _)
abbrev Gh:List Ty:=[i64,u32,.aC u64,i64,i64,u32,.aC u64,i64]
abbrev xh:List Ty:=[.bool]
def Yw:List (Nat×dg):=[(25,s25)]
theorem PU{aP:a8}(W:WQ aP):dy aP Yw:=(.cons (PT W) .nil)
def t16(x:aI Gh):Lf.T (List Pl):=iN (Ps [.ag (Ps [.n .i64,.n .u32,.im u64,.n .i64]),.ag (Ps [.n .i64,.n .u32,.im u64,.n .i64])]) [] (Ps [.bo]) (fun _=>none) Tryz.ZJ 3 (jj Yw 3) (aN Gh x)
def CC(x:aI Gh):Bool:=bT (dN xh (t16 x))
def m16(x:aI Gh):aI xh:=bT (cT xh (t16 x))
def s16:dg:=gC (Ps [.ag (Ps [.n .i64,.n .u32,.im u64,.n .i64]),.ag (Ps [.n .i64,.n .u32,.im u64,.n .i64])]) [] (Ps [.bo]) Gh xh fun x=>.ck (CC x) (.ok (m16 x))
theorem PV{aP:a8}(W:WQ aP):s16.Ok 16 aP:=
 cb (W.in (PU W) 3) (W.st 16 _ rfl) rfl (bD _) (m:=3) rfl (fun _=>aq _) (fun _=>aq _)
abbrev Cm:List Ty:=[.aC cx,.aC fw,.aC u64,i64]
abbrev yY:List Ty:=i64::u32::.aC u64::i64::oG []
def e14(g:Cg):List (Nat×dg):=[(67,iq u64),(17,s17),(18,s18),(22,s22),(23,s23 g)]
theorem PW{g:Cg}{aP:a8}(W:WL aP)(hg:(sG g).Ok 73 aP):dy aP (e14 g):=(.cons W.toWQ.Pj (.cons (PL W.toWQ) (.cons (PM W.toWQ W.chk) (.cons (PR W.toWQ) (.cons (PJ W.toWQ hg) .nil)))))
def t14(g:Cg)(x:aI Cm):Lf.T (List Pl):=iN (Ps [.ag (Ps [.im cx,.im fw]),.im u64,.n .i64]) [] (Ps [.tu (Ps [.ag (Ps [.n .i64,.n .u32,.ow u64,.n .i64]),py 0 0])]) (fun _=>none) Tryz.ZI 3 (jj (e14 g) 3) (aN Cm x)
def PX(g:Cg)(x:aI Cm):Bool:=bT (dN yY (t14 g x))
def m14(g:Cg)(x:aI Cm):aI yY:=bT (cT yY (t14 g x))
def s14(g:Cg):dg:=gC (Ps [.ag (Ps [.im cx,.im fw]),.im u64,.n .i64]) [] (Ps [.tu (Ps [.ag (Ps [.n .i64,.n .u32,.ow u64,.n .i64]),py 0 0])]) Cm yY fun x=>.ck (PX g x) (.ok (m14 g x))
theorem PY{g:Cg}{aP:a8}(W:WL aP)(hg:(sG g).Ok 73 aP):(s14 g).Ok 14 aP:=
 cb (W.toWQ.in (PW W hg) 3) (W.toWQ.st 14 _ rfl) rfl (bD _) (m:=3) rfl (fun _=>aq _) (fun _=>aq _)
end Go.Proofs.Vq

noncomputable section
namespace Go.Ab
open Go.Ab.Lf
def AT(lk:FuncId->List AV->Option AV)(c:bV):bV:=fun f args h=>match lk f args with
 |some v=>.ok v h
 |none=>c f args h
theorem yZ[Io]{P:Program}{lk:FuncId->List AV->Option AV}(ht: ∀ f args v,lk f args=some v->bQ P f args v){call:bV}(hc:cI P call):cI P (AT lk call):=by
 intro f args h v h' e
 unfold AT at e
 cases NH:lk f args with
 |none=>rw[NH]at e;exact hc f args h v h' e
 |some v1=>
  rw[NH]at e
  cases e
  obtain⟨k1,k2⟩:=ht f args v NH
  refine⟨k1,fun g w vs H hv=>?_⟩
  refine(k2 g w vs H.cV H.tb hv).mono ?_
  rintro e w' ⟨x,rfl,K,hx⟩
  obtain⟨g',ua⟩: ∃ g':G,g'=⟨g.m,fun b=>g.cV b∨(w.heap.size<=b/\b<w'.heap.size)⟩:=⟨_,rfl⟩
  have hO: ∀ b,eN g' h b->eN g h b:=by
   rintro b ⟨id,cs,s,e,m⟩
   rw[ua]at m
   exact⟨id,cs,s,e,m⟩
  have M:jr g w g' w':=⟨fun _ _ e=>by rw[ua];exact e,fun b i=>by rw[ua];exact .inl i,fun b i=>K.j2 b (H.cV b i),K.rows⟩
  refine⟨x,g',rfl,⟨K.os,K.tape,K.output,K.size,Nat.le_refl _,M.m,fun b hb _=>K.j2 b hb,K.rows,M.cV,fun b i=>?_,fun b o=>.inl (hO b o)⟩,⟨fun id eO=>?_,fun id cs e=>?_,fun id o6 b s s' cs cs' e1 e2 m1 m2=>?_,fun b i=>?_,gT.mono M H.tb⟩,?_⟩
  ·rw[ua]at i
   rcases i with i|i
   ·exact .inl i
   ·exact .inr (.inr i.1)
  ·rw[ua];exact H.fresh id eO
  ·obtain⟨b,s,C,el,us,h1,h2,h3,h4,h5⟩:=H.aQ id cs e
   have hb:=(Array.getElem?_eq_some_iff.1 h2).1
   refine⟨b,s,C,el,us,M.m _ _ h1,by rw[K.j2 b hb];exact h2,?_,bA.dB M _ _ h4,h5⟩
   rw[ua]
   rintro(i|i)
   ·exact h3 i
   ·omega
  ·rw[ua]at m1 m2
   exact H.inj id o6 b s s' cs cs' e1 e2 m1 m2
  ·rw[ua]at i
   rcases i with i|i
   ·exact Nat.lt_of_lt_of_le (H.cV b i) K.size
   ·exact i.2
  ·refine VR.dB (⟨(fun _ _ e=>by cases e),(fun b i=>by rw[ua];exact .inr i),fun _ _=>rfl,fun _=>Nat.le_refl _⟩:jr _ _ g' w') _ _ hx
end Go.Ab
namespace Go.Ab.Lf
open Go.Ab
def canon:(t:Ty)->den t->List AV
 | .int k,x=>[.int k x]
 | .bool,x=>[.bool x]
 | .str,x=>[.sc (.string x)]
 | .aC t,x=>[.fc (List.length x) (List.foldr (fun y r=>canon t y++r) [] x)]
 | .pair a b,x=>canon a x.1++canon b x.2
theorem nG[Io]{g:G}{w:Go.World}: ∀ (t:Ty) (x:den t) (cs:List AV) (vs:List Value),EV (fun _=>none) t x cs->bA g w cs vs->bA g w (canon t x) vs
 | .int _,x,_,vs,e,h=>by have e:_=_:=e;subst e;exact h
 | .bool,x,_,vs,e,h=>by have e:_=_:=e;subst e;exact h
 | .str,x,_,vs,e,h=>by have e:_=_:=e;subst e;exact h
 | .pair a b,x,_,vs,⟨c,d,e,h1,h2⟩,h=>by
  subst e
  obtain⟨us,ts,rfl,k1,k2⟩:=bA.split h
  exact bA.append (nG a _ _ _ h1 k1) (nG b _ _ _ h2 k2)
 | .aC t,x,_,vs,⟨a,e,k⟩,h=>by
  subst e
  have els: ∀ (l:List (den t)) (ls:List AV) (vs:List Value),fT (EV (fun _=>none) t) l ls->bA g w ls vs->bA g w (List.foldr (fun y r=>canon t y++r) [] l) vs:=by
   intro l
   induction l with
   |nil=>intro ls vs h k;have h:_=_:=h;subst h;exact k
   |cons x l ih=>
    rintro ls vs ⟨c,r,rfl,h1,h2⟩ k
    obtain⟨us,ts,rfl,k1,k2⟩:=bA.split k
    exact bA.append (nG t _ _ _ h1 k1) (ih _ _ h2 k2)
  have h':bA g w [a] vs:=h
  show bA g w [.fc (List.length x) (List.foldr (fun y r=>canon t y++r) [] x)] vs
  simp only[bA]at h' ⊢
  obtain⟨v,l,rfl,hv,rfl⟩:=h'
  refine⟨v,_,rfl,?_,rfl⟩
  rcases k with⟨k1,rfl⟩|⟨ls,k1,k2⟩
  ·have e0: ∃ ad c,v=.slice ad 0 c:=by
    cases a with
    |cW=>simp only[VR]at hv;obtain⟨ad,rfl⟩:=hv;exact⟨_,_,rfl⟩
    |jm=>simp only[VR]at hv;obtain⟨ad,rfl⟩:=hv;exact⟨_,_,rfl⟩
    |sc z=>
     obtain rfl:z=.slice none 0 0:=by
      have k:isNil (.sc z)=true:=k1
      unfold isNil at k
      split at k
      ·rename_i n c e
       injection e with e
       subst e
       have k:(Nat.beq n 0&&Nat.beq c 0)=true:=by assumption
       rw[Bool.and_eq_true]at k
       obtain rfl:=Nat.eq_of_beq_eq_true k.1
       obtain rfl:=Nat.eq_of_beq_eq_true k.2
       rfl
      ·cases k
     simp only[VR]at hv
     exact⟨_,_,hv.1⟩
    | _=>cases k1
   obtain⟨ad,c,rfl⟩:=e0
   simp only[VR]
   exact⟨ad,c,rfl,Nat.zero_le _,.inl ⟨rfl,rfl⟩⟩
  ·rcases k2 with k2|⟨_,_,_,_,g,_⟩
   ·subst k2
    simp only[VR]at hv ⊢
    obtain⟨ad,cap,rfl,hc,q⟩:=hv
    refine⟨ad,cap,rfl,hc,?_⟩
    rcases q with⟨q1,q2⟩|⟨b,o,us,q1,q2,q3,q4⟩
    ·left
     obtain rfl:x=[]:=List.eq_nil_of_length_eq_zero q1
     exact⟨rfl,rfl⟩
    ·exact .inr ⟨b,o,us,q1,q2,q3,els x ls us k1 q4⟩
   ·cases g
end Go.Ab.Lf

noncomputable section
namespace Go.Ab.Lf
open Go.Ab
abbrev N0:Nat->Option Rw:=fun _=>none
theorem ry{f:AV->Option AV}: ∀ {l m l' m':List AV},mapA f l=some l'->mapA f m=some m'->mapA f (l++m)=some (l'++m')
 | [],_,_,_,h,k=>by cases h;exact k
 |a::l,m,l',m',h,k=>by
  change (match f a with|some b=>(match mapA f l with|some r=>some (b::r)|none=>none)|none=>none)=some l' at h
  cases h1:f a with
  |none=>rw[h1]at h;cases h
  |some b=>
   cases h2:mapA f l with
   |none=>rw[h1,h2]at h;cases h
   |some r=>
    rw[h1,h2]at h
    cases h
    show(match f a with|some b=>(match mapA f (l++m)with|some r=>some (b::r)|none=>none)|none=>none)=_
    rw[h1,ry h2 k]
    rfl
def dep:Ty->Nat
 | .aC t=>dep t+1
 | .pair a b=>max (dep a) (dep b)
 | _=>0
theorem Cn{a:AV}(h:cD a=true)(n:Nat)(p:Hp):mb (n+1) p a=some a:=by
 cases a with
 |sc v=>rfl
 |cW=>rfl
 |jm=>rfl
 | _=>cases h
theorem uL{G:Nat->Option Rw}{p:Hp}(hG: ∀ id row,G id=some row->p.aQ.get id=some row): ∀ (t:Ty) (n:Nat) (x:den t) (cs:List AV),dep t<n->EV G t x cs-> ∃ cs',mapA (mb n p) cs=some cs'/\EV N0 t x cs'
 | .int _,n+1,x,_,_,h=>by have h:_=_:=h;subst h;exact⟨_,rfl,rfl⟩
 | .bool,n+1,x,_,_,h=>by have h:_=_:=h;subst h;exact⟨_,rfl,rfl⟩
 | .str,n+1,x,_,_,h=>by have h:_=_:=h;subst h;exact⟨_,rfl,rfl⟩
 | .pair a b,n,x,_,hn,⟨c,d,e,h1,h2⟩=>by
  have hn:max (dep a) (dep b)<n:=hn
  obtain⟨c',e1,k1⟩:=uL hG a n _ _ (by omega) h1
  obtain⟨d',e2,k2⟩:=uL hG b n _ _ (by omega) h2
  subst e
  exact⟨_,ry e1 e2,_,_,rfl,k1,k2⟩
 | .aC t,n+1,x,_,hn,⟨a,e,k⟩=>by
  have hn:dep t+1<n+1:=hn
  have els: ∀ (l:List (den t)) (ls:List AV),fT (EV G t) l ls-> ∃ PZ,mapA (mb n p) ls=some PZ/\fT (EV N0 t) l PZ:=by
   intro l
   induction l with
   |nil=>intro ls h;have h:_=_:=h;subst h;exact⟨_,rfl,rfl⟩
   |cons x l ih=>
    rintro ls ⟨c,r,rfl,h1,h2⟩
    obtain⟨c',e1,k1⟩:=uL hG t n _ _ (by omega) h1
    obtain⟨r',e2,k2⟩:=ih _ h2
    exact⟨_,ry e1 e2,_,_,rfl,k1,k2⟩
  have one: ∀ a',mb (n+1) p a=some a'->zW N0 t (EV N0 t) x a'-> ∃ cs',mapA (mb (n+1) p) [a]=some cs'/\EV N0 (.aC t) x cs':=by
   intro a' h1 h2
   refine⟨[a'],?_,a',rfl,h2⟩
   show(match mb (n+1) p a with|some b=>some [b]|none=>none)=_
   rw[h1]
  subst e
  rcases k with⟨k1,k2⟩|⟨ls,k1,k2⟩
  ·exact one a (Cn k1 n p) (.inl ⟨k1,k2⟩)
  ·obtain⟨PZ,e1,q1⟩:=els x ls k1
   rcases k2 with k2|⟨id,base,row,k2,g,sg⟩
   ·refine one (.fc x.length PZ) ?_ (.inr ⟨PZ,q1,.inl rfl⟩)
    subst k2
    show(match mapA (mb n p) ls with|some l=>some (AV.fc x.length l)|none=>none)=_
    rw[e1]
   ·refine one (.fc x.length PZ) ?_ (.inr ⟨PZ,q1,.inl rfl⟩)
    subst k2
    show(match p.aQ.get id with|some cs=>(match cs.fN base (Nat.mul x.length (size t))with|some l=>(match mapA (mb n p) l with|some l=>some (AV.fc x.length l)|none=>none)|none=>none)|none=>none)=_
    rw[hG _ _ g]
    have sg:row.fN base (Nat.mul x.length (size t))=some ls:=sg
    dsimp only
    rw[sg]
    dsimp only
    rw[e1]
end Go.Ab.Lf
