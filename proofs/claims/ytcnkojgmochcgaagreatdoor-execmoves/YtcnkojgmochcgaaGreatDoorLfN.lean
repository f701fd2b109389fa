import Derived.Test.YtcnkojgmochcgaaGreatDoorLfK
import Derived.Test.YtcnkojgmochcgaaGreatDoorVbQ
import Derived.KernelRfl
import Derived.Shelf.Small.Bits
import Derived.Shelf.Spec.TrailingZeros
import Derived.Test.YtcnkojgmochcgaaGreatDoorVrA
import Derived.Test.YtcnkojgmochcgaaGreatDoorVrS
noncomputable section
namespace Go.Ab.Lf
def uv(t:Ty):cV:=gg (.cons (.im t) .nil) [] (.cons (.ow t) .nil) [.aB t] [.aB t] fun x=>.ck (decide (List.length x.1<=1099511627776)) (.ok (x.1,()))
def flat(t:Ty):Bool:=Ty.rec (motive:=fun _=>Bool) (fun _=>true) true true (fun _ _=>false) (fun _ _ a b=>bif a then b else false) t
theorem pS{G G':Nat->Option Rw}: ∀ (t:Ty) (x:den t) (cs:List AV),flat t=true->EV G t x cs->EV G' t x cs
 | .int _,_,_,_,e=>e
 | .bool,_,_,_,e=>e
 | .str,_,_,_,e=>e
 | .aB _,_,_,h,_=>by cases h
 | .pair a b,x,cs,h,⟨c,d,e,k1,k2⟩=>by
  have h:(bif flat a then flat b else false)=true:=h
  cases ha:flat a with
  |false=>rw[ha]at h;cases h
  |true=>rw[ha]at h;exact⟨c,d,e,pS a _ _ ha k1,pS b _ _ h k2⟩
def JM:Sv->Bool
 | .os _ _| .ss _ _ _ _=>true
 | _=>false
theorem Wu{t:Ty}{v:Sv}{a:AV}{x:List (den t)}{E:En}{H H1:Hq}{h:Hp}(S:SR E H h)(ho:JM v=true)(hv:V E H.next v a)(e:vY t v H=some (x,H1)): ∀ id,fU a=some id->id<h.next:=by
 intro id hi
 cases v with
 |os r s=>
  change (match H.aN.get r with|some (.l t' x)=>(match nM t' t with|some ⟨e⟩=>some ((e▸x:List (den t)),H)|none=>none)| _=>none)=some (x,H1)at e
  split at e
  ·rename_i t' y hr
   cases hv with
   |os _ _=>exact S.lt r id ⟨_,hr,rfl⟩ hi
  ·cases e
 |ss r s off n=>
  change (match H.aN.get r with|some (.l t' x)=>(match nM t' t with|some ⟨e⟩=>some (((e▸x:List (den t)).drop off).take n,H)|none=>none)| _=>none)=some (x,H1)at e
  split at e
  ·rename_i t' y hr
   cases hv with
   |se _ h1 _ _=>exact S.lt r id ⟨_,hr,rfl⟩ hi
   |ss _ h1 _=>exact S.lt r id ⟨_,hr,rfl⟩ (by rw[h1];exact hi)
  ·cases e
 | _=>cases ho
theorem wL{t:Ty}{x:List (den t)}{r:List Pl}{H:Hq}:dh (.im t) (⟨.aB t,x⟩::r) H=some ([.c H.next (.aB t) x],r,⟨Nat.add H.next 1,H.aN⟩):=by
 unfold dh;simp only[gp]
theorem Fx{t:Ty}{x:List (den t)}{r:List Pl}{H:Hq}:dh (.ow t) (⟨.aB t,x⟩::r) H=some ([.os H.next (size t)],r,cA H (.l t x)):=by
 unfold dh;simp only[gp]
theorem oG{p:gJ}{pl:List Pl}{H H':Hq}{v:List Sv}(h:dh p pl H=some (v,[],H')):dh (.cons p .nil) pl H=some (v,[],H'):=by
 show(match dh p pl H with|some (v,r,H)=>(match dh .nil r H with|some (w,r,H)=>some (app v w,r,H)|none=>none)|none=>none)=_
 rw[h]
 show some (app v [],([]:List Pl),H')=_
 rw[bQ,List.append_nil]
theorem Fy{t:Ty}(ft:flat t=true){f:FuncId}{aM:aV}(k:(uv t).Ok f aM){E:En}{H H1:Hq}{h:Hp}{v:Sv}{a:AV}{x:List (den t)}(S:SR E H h)(ho:JM v=true)(hv:V E H.next v a)(hp:vY t v H=some (x,H1))(hl:x.length<=1099511627776):
 ∃ c h' E',Ev (fun n d=>aM n d f [a] h) (.ok c h')/\Nx E E' H (cA H (.l t x)) h h'/\SR E' (cA H (.l t x)) h'/\V E' (cA H (.l t x)).next (.os H.next (size t)) c:=by
 have eC:=Wu S ho hv hp
 obtain⟨E1,F,D⟩:=pO S hv hp
 obtain⟨G0,hG,hE⟩: ∃ G0:Nat->Option Rw,(∀ id row,G0 id=some row->id<h.next/\h.aN.get id=some row)/\EV G0 (.aB t) x [a]:=by
  rcases D with⟨d1,d2⟩|⟨id,base,row,ls,d1,d2,d3,d4⟩
  ·exact⟨fun _=>none,fun _ _ e=>(by cases e),a,rfl,.inl ⟨d1,d2⟩⟩
  ·refine⟨fun i=>if i=id then some row else none,fun i r e=>?_,a,rfl,.inr ⟨ls,d4.mono fun y c e=>pS t y c ft e,.inr ⟨id,base,row,d1,if_pos rfl,d3⟩⟩⟩
   dsimp only at e
   split at e
   ·rename_i q
    cases e
    subst q
    exact⟨eC i (by rw[d1];rfl),d2⟩
   ·cases e
 obtain⟨E0,hE0⟩: ∃ E0:En,E0=⟨fun _=>⟨.any,0⟩,fun _=>a,G0,fun _=>.any⟩:=⟨_,rfl⟩
 have no: ∀ r R,¬ (Tr.nil:Tr Row).get r=some R:=fun r R h=>by
  have h:(none:Option Row)=some R:=h
  cases h
 have hf:dh (uv t).P (aX [.aB t] (x,())) e1=some ([.c 1 (.aB t) x],[],⟨2,.nil⟩):=by
  exact oG wL
 have hs:((uv t).f (aX [.aB t] (x,()))).val=some (aX [.aB t] (x,())):=by
  unfold uv gg
  simp only[jR]
  show(bif decide (x.length<=1099511627776)then some (aX [.aB t] (x,()))else none)=_
  rw[decide_eq_true hl]
  rfl
 have hS0:SR E0 (dk ⟨2,.nil⟩) h:=by
  have et:dk ⟨2,.nil⟩=(⟨2,.nil⟩:Hq):=rfl
  rw[et]
  refine⟨fun r R h=>(no r R h).elim,?_,?_,fun id row e=>?_⟩
  ·rintro r r' id ⟨R,h,_⟩;exact(no r R h).elim
  ·rintro r id ⟨R,h,_⟩;exact(no r R h).elim
  ·subst hE0
   obtain⟨g1,g2⟩:=hG id row e
   refine⟨g1,g2,?_⟩
   rintro r ⟨R,h,_⟩;exact(no r R h).elim
 obtain⟨c,h',E2,ws,H2,ZN,X,S2,hq,hV⟩:=k _ _ _ _ E0 h [a] hs hf (.cons (.c (by subst hE0;exact hE) fun _=>⟨by decide,by subst hE0;rfl⟩) .nil) hS0
 have hq2:dh (uv t).Q (aX [.aB t] (x,())) e1=some ([.os 1 (size t)],[],cA e1 (.l t x)):=by
  exact oG Fx
 rw[hq2]at hq
 cases hq
 have h1:(cA e1 (.l t x)).aN.get 1=some (.l t x):=by rw[eH];exact if_pos rfl
 have R1:=(S2.row 1 _ h1).2
 have Wv:own (cA e1 (.l t x)) 1:=⟨_,h1,rfl⟩
 have hc:c=(E2.K 1).av:=by
  cases hV with
  |cons hc _=>cases hc with
   |os _ _=>rfl
 have noO: ∀ r,¬ own (dk ⟨2,.nil⟩) r:=by
  have et:dk ⟨2,.nil⟩=(⟨2,.nil⟩:Hq):=rfl
  rw[et]
  rintro r ⟨R,h,_⟩;exact no r R h
 have R3:RV E H.next h' (E2.K 1) (.l t x):=by
  obtain⟨q1,q2⟩:=R1
  refine⟨q1,?_⟩
  rcases q2 with q2|⟨id,base,row,ls,k1,k2,k3,k4⟩
  ·exact .inl q2
  ·exact .inr ⟨id,base,row,ls,k1,k2,k3,k4.mono fun y c e=>pS t y c ft e⟩
 obtain⟨S3,X3⟩:=fH S rfl (fun _ _ e=>e) X.ud (fun id hi _=>X.fr id hi fun r o _=>noO r o) (fun id e=>⟨S2.lt 1 id Wv e,.inl (by
  rcases X.ow 1 id Wv e with⟨r,o,_⟩|q
  ·exact(noO r o).elim
  ·exact q)⟩) R3 rfl
 refine⟨c,h',_,ZN,X3,S3,?_⟩
 have K0:(E.row H.next (E2.K 1)).K H.next=E2.K 1:=if_pos rfl
 have jx:=V.os (E:=E.row H.next (E2.K 1)) (N:=(cA H (.l t x)).next) (r:=H.next) (sz:=size t) (Nat.lt_succ_self _) (by
  rw[K0]
  obtain⟨q1,q2⟩:=R3
  rcases q2 with⟨k1,k2⟩|⟨id,base,row,ls,k1,_⟩
  ·exact .inl ⟨k1,by rw[<-q1,k2];rfl⟩
  ·exact .inr ⟨id,base,k1⟩)
 rw[K0,<-hc]at jx
 exact jx
def clW(cl:FuncId->Option Ty)(base:dV):dV:=fun f args H=>match cl f with
 |some t=>(match args with
  | [v]=>bif JM v then(match vY t v H with
   |some (x,_)=>.ck (decide (x.length<=1099511627776)) (.ok (.os H.next (size t),cA H (.l t x)))
   |none=>base f args H)else base f args H
  | _=>base f args H)
 |none=>base f args H
theorem Pp{cl:FuncId->Option Ty}{base:dV}{aM:aV}(hc: ∀ f t,cl f=some t->flat t=true/\(uv t).Ok f aM)(C:mw base aM):mw (clW cl base) aM:=by
 intro E f args az H h v H' hv hS e
 unfold clW at e
 split at e
 ·rename_i t ht
  obtain⟨ft,k⟩:=hc f t ht
  split at e
  ·rename_i w
   cases ho:JM w with
   |false=>rw[ho]at e;exact C E f _ _ H h v H' hv hS e
   |true=>
    rw[ho,cond_true]at e
    split at e
    ·rename_i x H1 hp
     obtain⟨h1,h2⟩:=T.bU e
     cases h2
     cases hv with
     |cons ha hr=>
      cases hr
      exact Fy ft k hS ho ha hp (of_decide_eq_true h1)
    ·exact C E f _ _ H h v H' hv hS e
  ·exact C E f _ _ H h v H' hv hS e
 ·exact C E f _ _ H h v H' hv hS e
def Pq(cl:FuncId->Option Ty)(bk:FuncId->Option bM)(QT:FuncId->Option cV)(m d:Nat):dV:=Nat.rec (fun _ _ _=>.bad) (fun _ ih=>clW cl fun f args h=>match QT f with
 |some s=>s.call args h
 |none=>(match bk f with
  |some b=>bif Nat.ble b.ntmps 512 then wa (fun _=>none) b m ih args h else .bad
  |none=>.bad)) d
theorem Av{cl:FuncId->Option Ty}{bk:FuncId->Option bM}{QT:FuncId->Option cV}{m:Nat}{aM:aV}(hc: ∀ f t,cl f=some t->flat t=true/\(uv t).Ok f aM)(hb: ∀ f b,bk f=some b->kU aM f b)(he: ∀ f s,QT f=some s->s.Ok f aM): ∀ d,mw (Pq cl bk QT m d) aM
 |0=>by intro E f args az H h v H' _ _ e;cases e
 |d+1=>Pp hc (by
  intro E f args az H h v H' hv hH e
  change (match QT f with|some s=>s.call args H|none=>(match bk f with|some b=>bif Nat.ble b.ntmps 512 then wa (fun _=>none) b m (Pq cl bk QT m d) args H else .bad|none=>.bad)).val=some (v,H')at e
  split at e
  ·rename_i s hs
   exact Jz (he f s hs) hv hH e
  ·split at e
   ·rename_i b xt
    obtain⟨h5,e⟩:=dc e
    exact wz (Av hc hb he d) (R:=Rx.s) (hb f b xt) (Nat.le_of_ble_eq_true h5) (bt _) hv hH e
   ·cases e)
def bO{α:Type}(a:α):α:=Classical.choose (⟨a,rfl⟩: ∃ x,x=a)
theorem ao{α:Type}(a:α):bO a=a:=Classical.choose_spec (⟨a,rfl⟩: ∃ x,x=a)
theorem cZ{to:List Ty}{t:T (List Pl)}{y:aL to}{k:Bool}{m:aL to}(hk:k=ef to t)(hm:m=cN to t)(h:t.val=some (aX to y)):k=true/\m=y:=by
 rw[hk,hm]
 exact O3 h
end Go.Ab.Lf

noncomputable section
namespace Go.Proofs
open Go.Ab Go.Ab.Lf
def exQ(f:Nat):Bool:=Nat.beq f 10||(Nat.beq f 56||(Nat.beq f 305||(Nat.beq f 132||(Nat.beq f 49||(Nat.beq f 50||(Nat.beq f 52||Nat.beq f 53))))))
def QU:FuncId->Option bM:=fun f=>bif exQ f then none else Tryz.xs.get f
end Go.Proofs
namespace Go.Proofs.Vq
open Go.Ab Go.Ab.Lf
set_option maxRecDepth 100000
abbrev i64:Ty:=.int .i64
abbrev u64:Ty:=.int .u64
abbrev u32:Ty:=.int .u32
abbrev u8:Ty:=.int .u8
abbrev tI:Ty:=.pair i64 (.pair i64 (.pair i64 (.pair u64 (.pair u64 (.aB i64)))))
abbrev cr:Ty:=.pair (.aB i64) (.aB i64)
abbrev pe:Ty:=.pair .str (.pair .str i64)
abbrev iZ:Ty:=.pair i64 i64
abbrev pf:Ty:=.pair i64 (.pair .bool (.aB tI))
abbrev pg:Ty:=.pair .str (.pair i64 i64)
abbrev ph:Ty:=.pair (.aB tI) (.aB i64)
abbrev pj:Ty:=.pair (.aB i64) (.aB tI)
abbrev pn:Ty:=.pair (.aB tI) (.aB u8)
abbrev bZ:Ty:=.pair i64 (.pair i64 u64)
abbrev eJ:Ty:=.pair i64 (.pair i64 (.pair i64 (.pair i64 (.pair i64 (.pair (.aB bZ) (.aB i64))))))
abbrev tEv:Ty:=.pair i64 (.aB u64)
abbrev tM:List Ty:=[.aB cr,.aB pe,.aB i64,.aB iZ,.aB iZ,.aB pf,.aB pg,i64,.aB ph,.aB pj,.aB pn]
abbrev Ps(l:List gJ):gJ:=l.foldr .cons .nil
def clQ:FuncId->Option Ty:=fun f=>bif Nat.beq f 67 then some u64 else bif Nat.beq f 70 then some i64 else none
def iI(l:List (Nat×cV))(m:Nat):dV:=Pq clQ QU (OL l) m 12
def bK{α:Type}(c:Bool)(x:Option α):Option α:=bif c then x else none
theorem fe{b n:Nat}(hb:b<=64)(h:n<=1099511627776):roomy b n=true:=by
 rw[lG]
 refine⟨?_,by omega⟩
 calc n*b<=1099511627776*64:=Nat.mul_le_mul h hb
  _<=70368744177664:=by decide
def Ww:cV:=⟨.nil,[],.nil,fun _=>.bad⟩
theorem JN{f:Nat}{aM:aV}:Ww.Ok f aM:=fun _ _ _ _ _ _ _ e=>by cases e
abbrev hZ(t:Ty):cV:=uv t
def JO:cV:=gg (.cons (.im eJ) .nil) [] (.cons (.ow eJ) .nil) [.aB eJ] [.aB eJ] fun x=>.ck (decide (List.length x.1<=549755813888)) (.ok (x.1,()))
def lz(b:Nat)(x:Int):Int:=(b:Int) - (Go.Lib.bitLen x.toNat:Int)
def tz(b:Nat)(x:Int):Int:=(Go.Lib.ctz b x.toNat:Nat)
def QV(k:IntKind)(F:Int->Int)(b:Int):cV:=gg (Ps [.n k]) [] (Ps [.n .i64]) [.int k] [i64] fun x=>.ck (decide (0<=(x.1:Int))&&decide ((x.1:Int)<=b)) (.ok (F x.1,()))
def s49:cV:=QV .u32 (lz 32) 4294967295
def s50:cV:=QV .u32 (tz 32) 4294967295
def s52:cV:=QV .u64 (lz 64) 18446744073709551615
def s53:cV:=QV .u64 (tz 64) 18446744073709551615
def FA:cV:=gg (Ps [.ow u64,.n .i64,.n .i64]) [] (Ps [.ow u64]) [.aB u64,i64,i64] [.aB u64] fun x=>.ck (decide (0<=(x.2.1:Int)/\(x.2.1:Int)<=(x.2.2.1:Int)/\(x.2.2.1:Int)<=(List.length x.1:Int)/\List.length x.1<=1099511627776)) (.ok (app (List.take (x.2.1:Int).toNat x.1) (List.drop (x.2.2.1:Int).toNat x.1),()))
structure WQ(aM:aV):Prop where
 st: ∀ f b,QU f=some b->kU aM f b
 Pr:(hZ u64).Ok 67 aM
 c69:(hZ cr).Ok 69 aM
 Wx:(hZ i64).Ok 70 aM
 c71:JO.Ok 71 aM
 YH:(hZ bZ).Ok 72 aM
 Wy:(hZ pe).Ok 116 aM
 Wz:(hZ iZ).Ok 117 aM
 WA:(hZ pf).Ok 118 aM
 WB:(hZ pg).Ok 120 aM
 WC:(hZ ph).Ok 121 aM
 WD:(hZ pj).Ok 122 aM
 WE:(hZ pn).Ok 123 aM
 WG:(hZ u8).Ok 124 aM
 WH:(hZ tI).Ok 221 aM
 b49:s49.Ok 49 aM
 b50:s50.Ok 50 aM
 b52:s52.Ok 52 aM
 b53:s53.Ok 53 aM
 del:FA.Ok 305 aM
theorem WQ.cl{aM:aV}(W:WQ aM): ∀ f t,clQ f=some t->flat t=true/\(uv t).Ok f aM:=by
 intro f t h
 unfold clQ at h
 cases h1:Nat.beq f 67 with
 |true=>
  rw[h1]at h
  cases h
  obtain rfl:=Nat.eq_of_beq_eq_true h1
  exact⟨rfl,W.Pr⟩
 |false=>
  rw[h1,cond_false]at h
  cases h2:Nat.beq f 70 with
  |true=>
   rw[h2]at h
   cases h
   obtain rfl:=Nat.eq_of_beq_eq_true h2
   exact⟨rfl,W.Wx⟩
  |false=>rw[h2]at h;cases h
theorem WQ.in{aM:aV}(W:WQ aM){l:List (Nat×cV)}(h:di aM l)(m:Nat):mw (iI l m) aM:=Av W.cl W.st h.ok 12
end Go.Proofs.Vq

noncomputable section
namespace Go.Proofs.Vq
open Go.Ab Go.Ab.Lf
set_option maxRecDepth 100000
abbrev FB:List Ty:=[i64]
abbrev kh:List Ty:=[i64]
def YI:List (Nat×cV):=[]
theorem Pt{aM:aV}(W:WQ aM):di aM YI:=.nil
def t11(x:aL FB):Lf.T (List Pl):=iH (Ps [.n .i64]) [] (Ps [.n .i64]) (fun _=>none) Tryz.Z1 3 (iI YI 3) (aX FB x)
def LY(x:aL FB):Bool:=bO (ef kh (t11 x))
def m11(x:aL FB):aL kh:=bO (cN kh (t11 x))
def WI:cV:=gg (Ps [.n .i64]) [] (Ps [.n .i64]) FB kh fun x=>.ck (LY x) (.ok (m11 x))
theorem uw{aM:aV}(W:WQ aM):WI.Ok 11 aM:=
 bW (W.in (Pt W) 3) (W.st 11 _ rfl) rfl (bt _) (m:=3) rfl (fun _=>ao _) (fun _=>ao _)
abbrev l5:List Ty:=[.aB i64,i64,i64]
abbrev lI:List Ty:=[]
abbrev lJ:List Ty:=[.bool]
def JP:pR:=⟨0,pd Tryz.YF.code 0,[5,6,7],(Ps [.im i64,.n .i64,.n .i64]),[⟨.wC,[],(Ps [])⟩,⟨.rt,[2],(Ps [.bo])⟩]⟩
def WJ:List (Nat×cV):=[]
theorem JQ{aM:aV}(W:WQ aM):di aM WJ:=.nil
def rN:List Pl->Lf.T Rs:=JP.step (fun _=>none) (iI WJ 3) 3
def WK:fT:=B5 JP rN l5 lI lJ
theorem JR{aM:aV}(W:WQ aM):iD Rx.w WK (fun n d=>hJ (aM n d) n (.bl 0 (.lp JP.body))):=nF (W.in (JQ W) 3) (bt _) (m:=3) l5 lI lJ
def L83:Nat->Option fT:=Fh [(0,WK)]
abbrev FC:List Ty:=[.aB i64]
abbrev wM:List Ty:=[.bool]
def e83:List (Nat×cV):=[]
theorem Pu{aM:aV}(W:WQ aM):di aM e83:=.nil
def t83(x:aL FC):Lf.T (List Pl):=iH (Ps [.im i64]) [] (Ps [.bo]) L83 Tryz.YF 3 (iI e83 3) (aX FC x)
def QW(x:aL FC):Bool:=bO (ef wM (t83 x))
def QX(x:aL FC):aL wM:=bO (cN wM (t83 x))
def s83:cV:=gg (Ps [.im i64]) [] (Ps [.bo]) FC wM fun x=>.ck (QW x) (.ok (QX x))
theorem Pv{aM:aV}(W:WQ aM):s83.Ok 83 aM:=
 bW (W.in (Pu W) 3) (W.st 83 _ rfl) rfl (nE.nA (.cons (b:=JP.body) (by kernel_rfl) (JR W) .nil)) (m:=3) rfl (fun _=>ao _) (fun _=>ao _)
abbrev wN:List Ty:=[i64]
abbrev dQ:List Ty:=[.bool]
def WM:List (Nat×cV):=[(11,WI)]
theorem JS{aM:aV}(W:WQ aM):di aM WM:=(.cons (uw W) .nil)
def t245(x:aL wN):Lf.T (List Pl):=iH (Ps [.n .i64]) [] (Ps [.bo]) (fun _=>none) Tryz.OT 3 (iI WM 3) (aX wN x)
def FD(x:aL wN):Bool:=bO (ef dQ (t245 x))
def FF(x:aL wN):aL dQ:=bO (cN dQ (t245 x))
def WN:cV:=gg (Ps [.n .i64]) [] (Ps [.bo]) wN dQ fun x=>.ck (FD x) (.ok (FF x))
theorem JT{aM:aV}(W:WQ aM):WN.Ok 245 aM:=
 bW (W.in (JS W) 3) (W.st 245 _ rfl) rfl (bt _) (m:=3) rfl (fun _=>ao _) (fun _=>ao _)
abbrev wP:List Ty:=[.aB cr,.aB eJ,i64,i64,i64,i64,i64,.aB bZ,.aB i64,i64,i64,i64,u64]
abbrev gK:List Ty:=[.bool]
def WO:List (Nat×cV):=[(245,WN)]
theorem JU{aM:aV}(W:WQ aM):di aM WO:=(.cons (JT W) .nil)
def t141(x:aL wP):Lf.T (List Pl):=iH (Ps [.ag (Ps [.im cr,.im eJ]),.zp (Ps [.n .i64,.n .i64,.n .i64,.n .i64,.n .i64,.im bZ,.im i64]),.n .i64,.ag (Ps [.n .i64,.n .i64,.n .u64])]) [] (Ps [.bo]) (fun _=>none) Tryz.ON 3 (iI WO 3) (aX wP x)
def Pw(x:aL wP):Bool:=bO (ef gK (t141 x))
def Px(x:aL wP):aL gK:=bO (cN gK (t141 x))
def WR:cV:=gg (Ps [.ag (Ps [.im cr,.im eJ]),.zp (Ps [.n .i64,.n .i64,.n .i64,.n .i64,.n .i64,.im bZ,.im i64]),.n .i64,.ag (Ps [.n .i64,.n .i64,.n .u64])]) [] (Ps [.bo]) wP gK fun x=>.ck (Pw x) (.ok (Px x))
theorem JV{aM:aV}(W:WQ aM):WR.Ok 141 aM:=
 bW (W.in (JU W) 3) (W.st 141 _ rfl) rfl (bt _) (m:=3) rfl (fun _=>ao _) (fun _=>ao _)
abbrev l6:List Ty:=[i64,i64,i64,i64,i64,.aB bZ,.aB i64,.aB cr,.aB eJ,.aB bZ,i64,i64]
abbrev lK:List Ty:=[]
abbrev lL:List Ty:=[.bool]
def JW:pR:=⟨0,pd Tryz.YG.code 0,[1,2,87,88,89],(Ps [.zp (Ps [.n .i64,.n .i64,.n .i64,.n .i64,.n .i64,.im bZ,.im i64]),.pt 0 (Ps [.im cr,.im eJ]),.im bZ,.n .i64,.n .i64]),[⟨.wC,[],(Ps [])⟩,⟨.rt,[4],(Ps [.bo])⟩]⟩
def WS:List (Nat×cV):=[(141,WR)]
theorem JX{aM:aV}(W:WQ aM):di aM WS:=(.cons (JV W) .nil)
def rO:List Pl->Lf.T Rs:=JW.step (fun _=>none) (iI WS 3) 3
def WT:fT:=B5 JW rO l6 lK lL
theorem JY{aM:aV}(W:WQ aM):iD Rx.w WT (fun n d=>hJ (aM n d) n (.bl 0 (.lp JW.body))):=nF (W.in (JX W) 3) (bt _) (m:=3) l6 lK lL
def L84:Nat->Option fT:=Fh [(0,WT)]
abbrev FG:List Ty:=[.aB cr,.aB eJ,i64,i64,i64,i64,i64,.aB bZ,.aB i64]
abbrev rP:List Ty:=[.bool]
def e84:List (Nat×cV):=[]
theorem Py{aM:aV}(W:WQ aM):di aM e84:=.nil
def t84(x:aL FG):Lf.T (List Pl):=iH (Ps [.ag (Ps [.im cr,.im eJ]),.zp (Ps [.n .i64,.n .i64,.n .i64,.n .i64,.n .i64,.im bZ,.im i64])]) [] (Ps [.bo]) L84 Tryz.YG 3 (iI e84 3) (aX FG x)
def YJ(x:aL FG):Bool:=bO (ef rP (t84 x))
def YK(x:aL FG):aL rP:=bO (cN rP (t84 x))
def s84:cV:=gg (Ps [.ag (Ps [.im cr,.im eJ]),.zp (Ps [.n .i64,.n .i64,.n .i64,.n .i64,.n .i64,.im bZ,.im i64])]) [] (Ps [.bo]) FG rP fun x=>.ck (YJ x) (.ok (YK x))
theorem Pz{aM:aV}(W:WQ aM):s84.Ok 84 aM:=
 bW (W.in (Py W) 3) (W.st 84 _ rfl) rfl (nE.nA (.cons (b:=JW.body) (by kernel_rfl) (JY W) .nil)) (m:=3) rfl (fun _=>ao _) (fun _=>ao _)
abbrev fw:List Ty:=[.aB cr,.aB eJ,.aB cr,i64,i64]
abbrev ec:List Ty:=[.aB cr,.aB eJ]
abbrev gU:List Ty:=[i64]
def JZ:pR:=⟨0,pd Tryz.SB.code 0,[1,7,8,9],(Ps [.pt 0 (Ps [.im cr,.im eJ]),.im cr,.n .i64,.n .i64]),[⟨.wC,[1],(Ps [.pt 0 (Ps [.im cr,.im eJ])])⟩,⟨.rt,[2],(Ps [.n .i64])⟩]⟩
def WU:List (Nat×cV):=[(83,s83)]
theorem J0{aM:aV}(W:WQ aM):di aM WU:=(.cons (Pv W) .nil)
def f340:List Pl->Lf.T Rs:=JZ.step (fun _=>none) (iI WU 3) 3
def WV:fT:=B5 JZ f340 fw ec gU
theorem J1{aM:aV}(W:WQ aM):iD Rx.w WV (fun n d=>hJ (aM n d) n (.bl 0 (.lp JZ.body))):=nF (W.in (J0 W) 3) (bt _) (m:=3) fw ec gU
abbrev jt:List Ty:=[.aB cr,.aB eJ,i64,i64]
abbrev jT:List Ty:=[]
abbrev iP:List Ty:=[i64]
def J2:pR:=⟨2,pd Tryz.SB.code 2,[1,26,27],(Ps [.pt 0 (Ps [.im cr,.im eJ]),.n .i64,.n .i64]),[⟨.wC,[],(Ps [])⟩,⟨.rt,[2],(Ps [.n .i64])⟩]⟩
def WW:List (Nat×cV):=[(84,s84)]
theorem J3{aM:aV}(W:WQ aM):di aM WW:=(.cons (Pz W) .nil)
def f342:List Pl->Lf.T Rs:=J2.step (fun _=>none) (iI WW 3) 3
def WX:fT:=B5 J2 f342 jt jT iP
theorem J4{aM:aV}(W:WQ aM):iD Rx.w WX (fun n d=>hJ (aM n d) n (.bl 2 (.lp J2.body))):=nF (W.in (J3 W) 3) (bt _) (m:=3) jt jT iP
def L34:Nat->Option fT:=Fh [(0,WV),(2,WX)]
abbrev FH:List Ty:=[.aB cr,.aB eJ]
abbrev rQ:List Ty:=[i64]
def e34:List (Nat×cV):=[]
theorem PA{aM:aV}(W:WQ aM):di aM e34:=.nil
def t34(x:aL FH):Lf.T (List Pl):=iH (Ps [.ag (Ps [.im cr,.im eJ])]) [] (Ps [.n .i64]) L34 Tryz.SB 3 (iI e34 3) (aX FH x)
def YL(x:aL FH):Bool:=bO (ef rQ (t34 x))
def YM(x:aL FH):aL rQ:=bO (cN rQ (t34 x))
def s34:cV:=gg (Ps [.ag (Ps [.im cr,.im eJ])]) [] (Ps [.n .i64]) FH rQ fun x=>.ck (YL x) (.ok (YM x))
theorem PB{aM:aV}(W:WQ aM):s34.Ok 34 aM:=
 bW (W.in (PA W) 3) (W.st 34 _ rfl) rfl (nE.nA (.cons (b:=JZ.body) (by kernel_rfl) (J1 W) (.cons (b:=J2.body) (by kernel_rfl) (J4 W) .nil))) (m:=3) rfl (fun _=>ao _) (fun _=>ao _)
end Go.Proofs.Vq

noncomputable section
namespace Go.Proofs.Vq
open Go.Ab Go.Ab.Lf
set_option maxRecDepth 100000
abbrev aba(a:Nat):gJ:=.pt a (Ps [.ow u8,.n .i64])
abbrev po(a b:Nat):gJ:=.pt b (Ps [.ow u64,.im i64,.im i64,.im i64,.im cr,.im pe,.im i64,.im iZ,.im iZ,.im pf,.im pg,.n .i64,.im ph,.im pj,.im pn,aba a])
abbrev J5(c:Nat):gJ:=.pt c (Ps [.ow u64,.ow tEv,.n .u32])
abbrev yK(a b c d:Nat):gJ:=.pt d (Ps [.im cr,.im eJ,po a b,J5 c,.im cr,.im pe,.im i64,.im iZ,.im iZ,.im pf,.im pg,.n .i64,.im ph,.im pj,.im pn,.bo])
abbrev ux(a b c d e:Nat):gJ:=.pt e (Ps [yK a b c d,.n .i64,.n .i64,.n .i64,.n .i64])
abbrev YN:gJ:=.zp (Ps [.n .i64,.n .i64,.n .i64,.n .i64,.n .i64,.im bZ,.im i64])
abbrev ff(a b c d e f:Nat):gJ:=.pt f (Ps [ux a b c d e,YN,.n .i64,.ow u64,.ow u64])
abbrev iF(l:List Ty):List Ty:=.aB cr::.aB pe::.aB i64::.aB iZ::.aB iZ::.aB pf::.aB pg::i64::.aB ph::.aB pj::.aB pn::l
abbrev oH(l:List Ty):List Ty:=.aB u64::.aB i64::.aB i64::.aB i64::iF (.aB u8::i64::l)
abbrev jU(l:List Ty):List Ty:=.aB u64::.aB tEv::u32::l
abbrev rR(l:List Ty):List Ty:=.aB cr::.aB eJ::oH (jU (iF (.bool::l)))
abbrev oI(l:List Ty):List Ty:=rR (i64::i64::i64::i64::l)
abbrev uy(l:List Ty):List Ty:=i64::i64::i64::i64::i64::.aB bZ::.aB i64::l
abbrev uU(l:List Ty):List Ty:=oI (uy (i64::.aB u64::.aB u64::l))
structure Sto where
 wQ:List Int
 small:List Int
 first:List Int
 tab:List Int
 mod:aL tM
 bytes:List Int
 abc:Int
structure WY where
 rep:List Int
 log:List (den tEv)
 code:Int
structure yL where
 sigs:List (den cr)
 fns:List (den eJ)
 s:Sto
 h:WY
 mod:aL tM
 bad:Bool
structure Rn where
 m:yL
 fuel:Int
 abd:Int
 depth:Int
 err:Int
structure lT where
 r:Rn
 f:den eJ
 pc:Int
 st:List Int
 lo:List Int
abbrev q9(l:List Ty)(y:aL tM)(r:aL l):aL (iF l):=(y.1,y.2.1,y.2.2.1,y.2.2.2.1,y.2.2.2.2.1,y.2.2.2.2.2.1,y.2.2.2.2.2.2.1,y.2.2.2.2.2.2.2.1,y.2.2.2.2.2.2.2.2.1,y.2.2.2.2.2.2.2.2.2.1,y.2.2.2.2.2.2.2.2.2.2.1,r)
abbrev jV(l:List Ty)(s:Sto)(r:aL l):aL (oH l):=(s.wQ,s.small,s.first,s.tab,q9 (.aB u8::i64::l) s.mod (s.bytes,s.abc,r))
abbrev nG(l:List Ty)(s:WY)(r:aL l):aL (jU l):=(s.rep,s.log,s.code,r)
abbrev fm(l:List Ty)(s:yL)(r:aL l):aL (rR l):=(s.sigs,s.fns,jV (jU (iF (.bool::l))) s.s (nG (iF (.bool::l)) s.h (q9 (.bool::l) s.mod (s.bad,r))))
abbrev ju(l:List Ty)(s:Rn)(r:aL l):aL (oI l):=fm (i64::i64::i64::i64::l) s.m (s.fuel,s.abd,s.depth,s.err,r)
abbrev cFn(l:List Ty)(f:den eJ)(r:aL l):aL (uy l):=(f.1,f.2.1,f.2.2.1,f.2.2.2.1,f.2.2.2.2.1,f.2.2.2.2.2.1,f.2.2.2.2.2.2,r)
abbrev aQ(l:List Ty)(x:lT)(r:aL l):aL (uU l):=ju (uy (i64::.aB u64::.aB u64::l)) x.r (cFn (i64::.aB u64::.aB u64::l) x.f (x.pc,x.st,x.lo,r))
def rnO(y:aL (oI [])):Rn:=⟨⟨y.1,y.2.1,⟨y.2.2.1,y.2.2.2.1,y.2.2.2.2.1,y.2.2.2.2.2.1,(y.2.2.2.2.2.2.1,y.2.2.2.2.2.2.2.1,y.2.2.2.2.2.2.2.2.1,y.2.2.2.2.2.2.2.2.2.1,y.2.2.2.2.2.2.2.2.2.2.1,y.2.2.2.2.2.2.2.2.2.2.2.1,y.2.2.2.2.2.2.2.2.2.2.2.2.1,y.2.2.2.2.2.2.2.2.2.2.2.2.2.1,y.2.2.2.2.2.2.2.2.2.2.2.2.2.2.1,y.2.2.2.2.2.2.2.2.2.2.2.2.2.2.2.1,y.2.2.2.2.2.2.2.2.2.2.2.2.2.2.2.2.1,()),y.2.2.2.2.2.2.2.2.2.2.2.2.2.2.2.2.2.1,y.2.2.2.2.2.2.2.2.2.2.2.2.2.2.2.2.2.2.1⟩,⟨y.2.2.2.2.2.2.2.2.2.2.2.2.2.2.2.2.2.2.2.1,y.2.2.2.2.2.2.2.2.2.2.2.2.2.2.2.2.2.2.2.2.1,y.2.2.2.2.2.2.2.2.2.2.2.2.2.2.2.2.2.2.2.2.2.1⟩,(y.2.2.2.2.2.2.2.2.2.2.2.2.2.2.2.2.2.2.2.2.2.2.1,y.2.2.2.2.2.2.2.2.2.2.2.2.2.2.2.2.2.2.2.2.2.2.2.1,y.2.2.2.2.2.2.2.2.2.2.2.2.2.2.2.2.2.2.2.2.2.2.2.2.1,y.2.2.2.2.2.2.2.2.2.2.2.2.2.2.2.2.2.2.2.2.2.2.2.2.2.1,y.2.2.2.2.2.2.2.2.2.2.2.2.2.2.2.2.2.2.2.2.2.2.2.2.2.2.1,y.2.2.2.2.2.2.2.2.2.2.2.2.2.2.2.2.2.2.2.2.2.2.2.2.2.2.2.1,y.2.2.2.2.2.2.2.2.2.2.2.2.2.2.2.2.2.2.2.2.2.2.2.2.2.2.2.2.1,y.2.2.2.2.2.2.2.2.2.2.2.2.2.2.2.2.2.2.2.2.2.2.2.2.2.2.2.2.2.1,y.2.2.2.2.2.2.2.2.2.2.2.2.2.2.2.2.2.2.2.2.2.2.2.2.2.2.2.2.2.2.1,y.2.2.2.2.2.2.2.2.2.2.2.2.2.2.2.2.2.2.2.2.2.2.2.2.2.2.2.2.2.2.2.1,y.2.2.2.2.2.2.2.2.2.2.2.2.2.2.2.2.2.2.2.2.2.2.2.2.2.2.2.2.2.2.2.2.1,()),y.2.2.2.2.2.2.2.2.2.2.2.2.2.2.2.2.2.2.2.2.2.2.2.2.2.2.2.2.2.2.2.2.2.1⟩,y.2.2.2.2.2.2.2.2.2.2.2.2.2.2.2.2.2.2.2.2.2.2.2.2.2.2.2.2.2.2.2.2.2.2.1,y.2.2.2.2.2.2.2.2.2.2.2.2.2.2.2.2.2.2.2.2.2.2.2.2.2.2.2.2.2.2.2.2.2.2.2.1,y.2.2.2.2.2.2.2.2.2.2.2.2.2.2.2.2.2.2.2.2.2.2.2.2.2.2.2.2.2.2.2.2.2.2.2.2.1,y.2.2.2.2.2.2.2.2.2.2.2.2.2.2.2.2.2.2.2.2.2.2.2.2.2.2.2.2.2.2.2.2.2.2.2.2.2.1⟩
def bp(y:aL (uU [])):lT:=⟨⟨⟨y.1,y.2.1,⟨y.2.2.1,y.2.2.2.1,y.2.2.2.2.1,y.2.2.2.2.2.1,(y.2.2.2.2.2.2.1,y.2.2.2.2.2.2.2.1,y.2.2.2.2.2.2.2.2.1,y.2.2.2.2.2.2.2.2.2.1,y.2.2.2.2.2.2.2.2.2.2.1,y.2.2.2.2.2.2.2.2.2.2.2.1,y.2.2.2.2.2.2.2.2.2.2.2.2.1,y.2.2.2.2.2.2.2.2.2.2.2.2.2.1,y.2.2.2.2.2.2.2.2.2.2.2.2.2.2.1,y.2.2.2.2.2.2.2.2.2.2.2.2.2.2.2.1,y.2.2.2.2.2.2.2.2.2.2.2.2.2.2.2.2.1,()),y.2.2.2.2.2.2.2.2.2.2.2.2.2.2.2.2.2.1,y.2.2.2.2.2.2.2.2.2.2.2.2.2.2.2.2.2.2.1⟩,⟨y.2.2.2.2.2.2.2.2.2.2.2.2.2.2.2.2.2.2.2.1,y.2.2.2.2.2.2.2.2.2.2.2.2.2.2.2.2.2.2.2.2.1,y.2.2.2.2.2.2.2.2.2.2.2.2.2.2.2.2.2.2.2.2.2.1⟩,(y.2.2.2.2.2.2.2.2.2.2.2.2.2.2.2.2.2.2.2.2.2.2.1,y.2.2.2.2.2.2.2.2.2.2.2.2.2.2.2.2.2.2.2.2.2.2.2.1,y.2.2.2.2.2.2.2.2.2.2.2.2.2.2.2.2.2.2.2.2.2.2.2.2.1,y.2.2.2.2.2.2.2.2.2.2.2.2.2.2.2.2.2.2.2.2.2.2.2.2.2.1,y.2.2.2.2.2.2.2.2.2.2.2.2.2.2.2.2.2.2.2.2.2.2.2.2.2.2.1,y.2.2.2.2.2.2.2.2.2.2.2.2.2.2.2.2.2.2.2.2.2.2.2.2.2.2.2.1,y.2.2.2.2.2.2.2.2.2.2.2.2.2.2.2.2.2.2.2.2.2.2.2.2.2.2.2.2.1,y.2.2.2.2.2.2.2.2.2.2.2.2.2.2.2.2.2.2.2.2.2.2.2.2.2.2.2.2.2.1,y.2.2.2.2.2.2.2.2.2.2.2.2.2.2.2.2.2.2.2.2.2.2.2.2.2.2.2.2.2.2.1,y.2.2.2.2.2.2.2.2.2.2.2.2.2.2.2.2.2.2.2.2.2.2.2.2.2.2.2.2.2.2.2.1,y.2.2.2.2.2.2.2.2.2.2.2.2.2.2.2.2.2.2.2.2.2.2.2.2.2.2.2.2.2.2.2.2.1,()),y.2.2.2.2.2.2.2.2.2.2.2.2.2.2.2.2.2.2.2.2.2.2.2.2.2.2.2.2.2.2.2.2.2.1⟩,y.2.2.2.2.2.2.2.2.2.2.2.2.2.2.2.2.2.2.2.2.2.2.2.2.2.2.2.2.2.2.2.2.2.2.1,y.2.2.2.2.2.2.2.2.2.2.2.2.2.2.2.2.2.2.2.2.2.2.2.2.2.2.2.2.2.2.2.2.2.2.2.1,y.2.2.2.2.2.2.2.2.2.2.2.2.2.2.2.2.2.2.2.2.2.2.2.2.2.2.2.2.2.2.2.2.2.2.2.2.1,y.2.2.2.2.2.2.2.2.2.2.2.2.2.2.2.2.2.2.2.2.2.2.2.2.2.2.2.2.2.2.2.2.2.2.2.2.2.1⟩,(y.2.2.2.2.2.2.2.2.2.2.2.2.2.2.2.2.2.2.2.2.2.2.2.2.2.2.2.2.2.2.2.2.2.2.2.2.2.2.1,y.2.2.2.2.2.2.2.2.2.2.2.2.2.2.2.2.2.2.2.2.2.2.2.2.2.2.2.2.2.2.2.2.2.2.2.2.2.2.2.1,y.2.2.2.2.2.2.2.2.2.2.2.2.2.2.2.2.2.2.2.2.2.2.2.2.2.2.2.2.2.2.2.2.2.2.2.2.2.2.2.2.1,y.2.2.2.2.2.2.2.2.2.2.2.2.2.2.2.2.2.2.2.2.2.2.2.2.2.2.2.2.2.2.2.2.2.2.2.2.2.2.2.2.2.1,y.2.2.2.2.2.2.2.2.2.2.2.2.2.2.2.2.2.2.2.2.2.2.2.2.2.2.2.2.2.2.2.2.2.2.2.2.2.2.2.2.2.2.1,y.2.2.2.2.2.2.2.2.2.2.2.2.2.2.2.2.2.2.2.2.2.2.2.2.2.2.2.2.2.2.2.2.2.2.2.2.2.2.2.2.2.2.2.1,y.2.2.2.2.2.2.2.2.2.2.2.2.2.2.2.2.2.2.2.2.2.2.2.2.2.2.2.2.2.2.2.2.2.2.2.2.2.2.2.2.2.2.2.2.1),y.2.2.2.2.2.2.2.2.2.2.2.2.2.2.2.2.2.2.2.2.2.2.2.2.2.2.2.2.2.2.2.2.2.2.2.2.2.2.2.2.2.2.2.2.2.1,y.2.2.2.2.2.2.2.2.2.2.2.2.2.2.2.2.2.2.2.2.2.2.2.2.2.2.2.2.2.2.2.2.2.2.2.2.2.2.2.2.2.2.2.2.2.2.1,y.2.2.2.2.2.2.2.2.2.2.2.2.2.2.2.2.2.2.2.2.2.2.2.2.2.2.2.2.2.2.2.2.2.2.2.2.2.2.2.2.2.2.2.2.2.2.2.1⟩
end Go.Proofs.Vq

noncomputable section
namespace Go.Proofs.Vq
open Go.Ab Go.Ab.Lf
set_option maxRecDepth 100000
abbrev FI:List Ty:=[i64,u64,u64]
abbrev J6:List Ty:=[u64,i64]
def e12:List (Nat×cV):=[(11,WI)]
theorem PC{aM:aV}(W:WQ aM):di aM e12:=(.cons (uw W) .nil)
def t12(x:aL FI):Lf.T (List Pl):=iH (Ps [.n .i64,.n .u64,.n .u64]) [] (Ps [.tu (Ps [.n .u64,.n .i64])]) (fun _=>none) Tryz.Z2 3 (iI e12 3) (aX FI x)
def YO(x:aL FI):Bool:=bO (ef J6 (t12 x))
def m12(x:aL FI):aL J6:=bO (cN J6 (t12 x))
def s12:cV:=gg (Ps [.n .i64,.n .u64,.n .u64]) [] (Ps [.tu (Ps [.n .u64,.n .i64])]) FI J6 fun x=>.ck (YO x) (.ok (m12 x))
theorem PD{aM:aV}(W:WQ aM):s12.Ok 12 aM:=
 bW (W.in (PC W) 3) (W.st 12 _ rfl) rfl (bt _) (m:=3) rfl (fun _=>ao _) (fun _=>ao _)
abbrev FJ:List Ty:=[u32]
abbrev J7:List Ty:=[i64]
def e51:List (Nat×cV):=[]
theorem PE{aM:aV}(W:WQ aM):di aM e51:=.nil
def t51(x:aL FJ):Lf.T (List Pl):=iH (Ps [.n .u32]) [] (Ps [.n .i64]) (fun _=>none) Tryz.Z7 3 (iI e51 3) (aX FJ x)
def k51(x:aL FJ):Bool:=bO (ef J7 (t51 x))
def m51(x:aL FJ):aL J7:=bO (cN J7 (t51 x))
def s51:cV:=gg (Ps [.n .u32]) [] (Ps [.n .i64]) FJ J7 fun x=>.ck (k51 x) (.ok (m51 x))
theorem PF{aM:aV}(W:WQ aM):s51.Ok 51 aM:=
 bW (W.in (PE W) 3) (W.st 51 _ rfl) rfl (bt _) (m:=3) rfl (fun _=>ao _) (fun _=>ao _)
abbrev FK:List Ty:=[u64]
abbrev J8:List Ty:=[i64]
def e54:List (Nat×cV):=[]
theorem PG{aM:aV}(W:WQ aM):di aM e54:=.nil
def t54(x:aL FK):Lf.T (List Pl):=iH (Ps [.n .u64]) [] (Ps [.n .i64]) (fun _=>none) Tryz.Z8 3 (iI e54 3) (aX FK x)
def k54(x:aL FK):Bool:=bO (ef J8 (t54 x))
def m54(x:aL FK):aL J8:=bO (cN J8 (t54 x))
def s54:cV:=gg (Ps [.n .u64]) [] (Ps [.n .i64]) FK J8 fun x=>.ck (k54 x) (.ok (m54 x))
theorem PH{aM:aV}(W:WQ aM):s54.Ok 54 aM:=
 bW (W.in (PG W) 3) (W.st 54 _ rfl) rfl (bt _) (m:=3) rfl (fun _=>ao _) (fun _=>ao _)
abbrev FL:List Ty:=[i64,u64]
abbrev J9:List Ty:=[u64,i64]
def e13:List (Nat×cV):=[(49,s49),(50,s50),(52,s52),(53,s53),(11,WI),(51,s51),(54,s54)]
theorem PJ{aM:aV}(W:WQ aM):di aM e13:=(.cons W.b49 (.cons W.b50 (.cons W.b52 (.cons W.b53 (.cons (uw W) (.cons (PF W) (.cons (PH W) .nil)))))))
def t13(x:aL FL):Lf.T (List Pl):=iH (Ps [.n .i64,.n .u64]) [] (Ps [.tu (Ps [.n .u64,.n .i64])]) (fun _=>none) Tryz.Z3 3 (iI e13 3) (aX FL x)
def YP(x:aL FL):Bool:=bO (ef J9 (t13 x))
def m13(x:aL FL):aL J9:=bO (cN J9 (t13 x))
def s13:cV:=gg (Ps [.n .i64,.n .u64]) [] (Ps [.tu (Ps [.n .u64,.n .i64])]) FL J9 fun x=>.ck (YP x) (.ok (m13 x))
theorem PK{aM:aV}(W:WQ aM):s13.Ok 13 aM:=
 bW (W.in (PJ W) 3) (W.st 13 _ rfl) rfl (bt _) (m:=3) rfl (fun _=>ao _) (fun _=>ao _)
abbrev wR:List Ty:=[.aB u8,i64,u64,i64]
abbrev Aw:List Ty:=[u64,i64,.aB u8,i64]
def WZ:List (Nat×cV):=[]
theorem J'{aM:aV}(W:WQ aM):di aM WZ:=.nil
def t387(x:aL wR):Lf.T (List Pl):=iH (Ps [.pt 0 (Ps [.ow u8,.n .i64]),.n .u64,.n .i64]) [2] (Ps [.tu (Ps [.n .u64,.n .i64]),.pt 2 (Ps [.ow u8,.n .i64])]) (fun _=>none) Tryz.O0 9 (iI WZ 9) (aX wR x)
def abf(x:aL wR):Bool:=bO (ef Aw (t387 x))
def abg(x:aL wR):aL Aw:=bO (cN Aw (t387 x))
def W0:cV:=gg (Ps [.pt 0 (Ps [.ow u8,.n .i64]),.n .u64,.n .i64]) [2] (Ps [.tu (Ps [.n .u64,.n .i64]),.pt 2 (Ps [.ow u8,.n .i64])]) wR Aw fun x=>.ck (abf x) (.ok (abg x))
theorem Ka{aM:aV}(W:WQ aM):W0.Ok 387 aM:=
 bW (W.in (J' W) 9) (W.st 387 _ rfl) rfl (bt _) (m:=9) rfl (fun _=>ao _) (fun _=>ao _)
abbrev wS:List Ty:=[.aB u8,i64,u64,i64,u64]
abbrev Ax:List Ty:=[i64,.aB u8,i64]
def W2:List (Nat×cV):=[]
theorem Kb{aM:aV}(W:WQ aM):di aM W2:=.nil
def t385(x:aL wS):Lf.T (List Pl):=iH (Ps [.pt 0 (Ps [.ow u8,.n .i64]),.n .u64,.n .i64,.n .u64]) [2] (Ps [.n .i64,.pt 2 (Ps [.ow u8,.n .i64])]) (fun _=>none) Tryz.OZ 9 (iI W2 9) (aX wS x)
def abh(x:aL wS):Bool:=bO (ef Ax (t385 x))
def abi(x:aL wS):aL Ax:=bO (cN Ax (t385 x))
def W3:cV:=gg (Ps [.pt 0 (Ps [.ow u8,.n .i64]),.n .u64,.n .i64,.n .u64]) [2] (Ps [.n .i64,.pt 2 (Ps [.ow u8,.n .i64])]) wS Ax fun x=>.ck (abh x) (.ok (abi x))
theorem Kc{aM:aV}(W:WQ aM):W3.Ok 385 aM:=
 bW (W.in (Kb W) 9) (W.st 385 _ rfl) rfl (bt _) (m:=9) rfl (fun _=>ao _) (fun _=>ao _)
abbrev wT:List Ty:=[.aB u8,i64,i64,u64,u64]
abbrev Ay:List Ty:=[u64,i64,.aB u8,i64]
def W4:List (Nat×cV):=[(387,W0)]
theorem Ke{aM:aV}(W:WQ aM):di aM W4:=(.cons (Ka W) .nil)
def t355(x:aL wT):Lf.T (List Pl):=iH (Ps [.pt 0 (Ps [.ow u8,.n .i64]),.n .i64,.n .u64,.n .u64]) [2] (Ps [.tu (Ps [.n .u64,.n .i64]),.pt 2 (Ps [.ow u8,.n .i64])]) (fun _=>none) Tryz.OY 3 (iI W4 3) (aX wT x)
def abj(x:aL wT):Bool:=bO (ef Ay (t355 x))
def abk(x:aL wT):aL Ay:=bO (cN Ay (t355 x))
def W5:cV:=gg (Ps [.pt 0 (Ps [.ow u8,.n .i64]),.n .i64,.n .u64,.n .u64]) [2] (Ps [.tu (Ps [.n .u64,.n .i64]),.pt 2 (Ps [.ow u8,.n .i64])]) wT Ay fun x=>.ck (abj x) (.ok (abk x))
theorem Kf{aM:aV}(W:WQ aM):W5.Ok 355 aM:=
 bW (W.in (Ke W) 3) (W.st 355 _ rfl) rfl (bt _) (m:=3) rfl (fun _=>ao _) (fun _=>ao _)
abbrev wU:List Ty:=[.aB u8,i64,i64,u64,u64,u64]
abbrev Az:List Ty:=[i64,.aB u8,i64]
def W6:List (Nat×cV):=[(385,W3)]
theorem Kg{aM:aV}(W:WQ aM):di aM W6:=(.cons (Kc W) .nil)
def t354(x:aL wU):Lf.T (List Pl):=iH (Ps [.pt 0 (Ps [.ow u8,.n .i64]),.n .i64,.n .u64,.n .u64,.n .u64]) [2] (Ps [.n .i64,.pt 2 (Ps [.ow u8,.n .i64])]) (fun _=>none) Tryz.OX 3 (iI W6 3) (aX wU x)
def abl(x:aL wU):Bool:=bO (ef Az (t354 x))
def abm(x:aL wU):aL Az:=bO (cN Az (t354 x))
def W7:cV:=gg (Ps [.pt 0 (Ps [.ow u8,.n .i64]),.n .i64,.n .u64,.n .u64,.n .u64]) [2] (Ps [.n .i64,.pt 2 (Ps [.ow u8,.n .i64])]) wU Az fun x=>.ck (abl x) (.ok (abm x))
theorem Kh{aM:aV}(W:WQ aM):W7.Ok 354 aM:=
 bW (W.in (Kg W) 3) (W.st 354 _ rfl) rfl (bt _) (m:=3) rfl (fun _=>ao _) (fun _=>ao _)
abbrev wV:List Ty:=[.aB u8,i64,u32]
abbrev AA:List Ty:=[u32,.aB u8,i64]
def W8:List (Nat×cV):=[]
theorem Ki{aM:aV}(W:WQ aM):di aM W8:=.nil
def t353(x:aL wV):Lf.T (List Pl):=iH (Ps [.pt 0 (Ps [.ow u8,.n .i64]),.n .u32]) [2] (Ps [.n .u32,.pt 2 (Ps [.ow u8,.n .i64])]) (fun _=>none) Tryz.OW 3 (iI W8 3) (aX wV x)
def abn(x:aL wV):Bool:=bO (ef AA (t353 x))
def abo(x:aL wV):aL AA:=bO (cN AA (t353 x))
def W9:cV:=gg (Ps [.pt 0 (Ps [.ow u8,.n .i64]),.n .u32]) [2] (Ps [.n .u32,.pt 2 (Ps [.ow u8,.n .i64])]) wV AA fun x=>.ck (abn x) (.ok (abo x))
theorem Kj{aM:aV}(W:WQ aM):W9.Ok 353 aM:=
 bW (W.in (Ki W) 3) (W.st 353 _ rfl) rfl (bt _) (m:=3) rfl (fun _=>ao _) (fun _=>ao _)
abbrev wW:List Ty:=uU [i64,i64]
abbrev ra:List Ty:=.bool::uU []
def Xa:List (Nat×cV):=[]
theorem Kk{aM:aV}(W:WQ aM):di aM Xa:=.nil
def t232(x:aL wW):Lf.T (List Pl):=iH (Ps [ff 0 0 0 0 0 0,.n .i64,.n .i64]) [39] (Ps [.bo,ff 18 19 22 33 34 39]) (fun _=>none) Tryz.OP 3 (iI Xa 3) (aX wW x)
def kX(x:aL wW):Bool:=bO (ef ra (t232 x))
def aG(x:aL wW):aL ra:=bO (cN ra (t232 x))
def yM:cV:=gg (Ps [ff 0 0 0 0 0 0,.n .i64,.n .i64]) [39] (Ps [.bo,ff 18 19 22 33 34 39]) wW ra fun x=>.ck (kX x) (.ok (aG x))
theorem lM{aM:aV}(W:WQ aM):yM.Ok 232 aM:=
 bW (W.in (Kk W) 3) (W.st 232 _ rfl) rfl (bt _) (m:=3) rfl (fun _=>ao _) (fun _=>ao _)
abbrev wX:List Ty:=uU [i64,i64,u64]
abbrev eK:List Ty:=uU []
def Xb:List (Nat×cV):=[(232,yM)]
theorem Km{aM:aV}(W:WQ aM):di aM Xb:=(.cons (lM W) .nil)
def t307(x:aL wX):Lf.T (List Pl):=iH (Ps [ff 0 0 0 0 0 0,.ag (Ps [.n .i64,.n .i64,.n .u64])]) [39] (Ps [.tu .nil,ff 18 19 22 33 34 39]) (fun _=>none) Tryz.OU 3 (iI Xb 3) (aX wX x)
def Ko(x:aL wX):Bool:=bO (ef eK (t307 x))
def Kp(x:aL wX):aL eK:=bO (cN eK (t307 x))
def Xc:cV:=gg (Ps [ff 0 0 0 0 0 0,.ag (Ps [.n .i64,.n .i64,.n .u64])]) [39] (Ps [.tu .nil,ff 18 19 22 33 34 39]) wX eK fun x=>.ck (Ko x) (.ok (Kp x))
theorem Kq{aM:aV}(W:WQ aM):Xc.Ok 307 aM:=
 bW (W.in (Km W) 3) (W.st 307 _ rfl) rfl (bt _) (m:=3) rfl (fun _=>ao _) (fun _=>ao _)
abbrev wY:List Ty:=uU [i64,i64,u64]
abbrev AB:List Ty:=uU []
def Xd:List (Nat×cV):=[(232,yM),(353,W9),(354,W7),(355,W5)]
theorem Ks{aM:aV}(W:WQ aM):di aM Xd:=(.cons (lM W) (.cons (Kj W) (.cons (Kh W) (.cons (Kf W) .nil))))
def t308(x:aL wY):Lf.T (List Pl):=iH (Ps [ff 0 0 0 0 0 0,.ag (Ps [.n .i64,.n .i64,.n .u64])]) [39] (Ps [.tu .nil,ff 18 19 22 33 34 39]) (fun _=>none) Tryz.OV 3 (iI Xd 3) (aX wY x)
def Xe(x:aL wY):Bool:=bO (ef AB (t308 x))
def Xf(x:aL wY):aL AB:=bO (cN AB (t308 x))
def Xg:cV:=gg (Ps [ff 0 0 0 0 0 0,.ag (Ps [.n .i64,.n .i64,.n .u64])]) [39] (Ps [.tu .nil,ff 18 19 22 33 34 39]) wY AB fun x=>.ck (Xe x) (.ok (Xf x))
theorem Kt{aM:aV}(W:WQ aM):Xg.Ok 308 aM:=
 bW (W.in (Ks W) 3) (W.st 308 _ rfl) rfl (bt _) (m:=3) rfl (fun _=>ao _) (fun _=>ao _)
abbrev wZ:List Ty:=uU [i64]
abbrev AD:List Ty:=uU []
def Xh:List (Nat×cV):=[]
theorem Ku{aM:aV}(W:WQ aM):di aM Xh:=.nil
def t231(x:aL wZ):Lf.T (List Pl):=iH (Ps [ff 0 0 0 0 0 0,.n .i64]) [39] (Ps [.tu .nil,ff 18 19 22 33 34 39]) (fun _=>none) Tryz.OO 3 (iI Xh 3) (aX wZ x)
def PL(x:aL wZ):Bool:=bO (ef AD (t231 x))
def PM(x:aL wZ):aL AD:=bO (cN AD (t231 x))
def Xi:cV:=gg (Ps [ff 0 0 0 0 0 0,.n .i64]) [39] (Ps [.tu .nil,ff 18 19 22 33 34 39]) wZ AD fun x=>.ck (PL x) (.ok (PM x))
theorem Kv{aM:aV}(W:WQ aM):Xi.Ok 231 aM:=
 bW (W.in (Ku W) 3) (W.st 231 _ rfl) rfl (bt _) (m:=3) rfl (fun _=>ao _) (fun _=>ao _)
abbrev w4:List Ty:=uU [i64,i64,u64]
abbrev dJ:List Ty:=uU []
def Xj:List (Nat×cV):=[(232,yM),(307,Xc),(308,Xg),(305,FA),(11,WI),(12,s12),(13,s13)]
theorem Kw{aM:aV}(W:WQ aM):di aM Xj:=(.cons (lM W) (.cons (Kq W) (.cons (Kt W) (.cons W.del (.cons (uw W) (.cons (PD W) (.cons (PK W) .nil)))))))
def t236(x:aL w4):Lf.T (List Pl):=iH (Ps [ff 0 0 0 0 0 0,.ag (Ps [.n .i64,.n .i64,.n .u64])]) [39] (Ps [.tu .nil,ff 18 19 22 33 34 39]) (fun _=>none) Tryz.OS 3 (iI Xj 3) (aX w4 x)
def yN(x:aL w4):Bool:=bO (ef dJ (t236 x))
def w5(x:aL w4):aL dJ:=bO (cN dJ (t236 x))
def Xk:cV:=gg (Ps [ff 0 0 0 0 0 0,.ag (Ps [.n .i64,.n .i64,.n .u64])]) [39] (Ps [.tu .nil,ff 18 19 22 33 34 39]) w4 dJ fun x=>.ck (yN x) (.ok (w5 x))
theorem Kx{aM:aV}(W:WQ aM):Xk.Ok 236 aM:=
 bW (W.in (Kw W) 3) (W.st 236 _ rfl) rfl (bt _) (m:=3) rfl (fun _=>ao _) (fun _=>ao _)
abbrev Cg:=(aL (oI [i64,.aB u64])->Bool)×(aL (oI [i64,.aB u64])->aL (.aB u64::oI []))
def sG(g:Cg):cV:=gg (Ps [ux 0 0 0 0 0,.n .i64,.im u64]) [34] (Ps [.ow u64,ux 18 19 22 33 34]) (oI [i64,.aB u64]) (.aB u64::oI []) fun x=>.ck (g.1 x) (.ok (g.2 x))
abbrev w6:List Ty:=uU [i64]
abbrev AE:List Ty:=uU []
def Xl(g:Cg):List (Nat×cV):=[(232,yM),(67,hZ u64),(73,sG g)]
theorem Ky{g:Cg}{aM:aV}(W:WQ aM)(hg:(sG g).Ok 73 aM):di aM (Xl g):=(.cons (lM W) (.cons W.Pr (.cons hg .nil)))
def t234(g:Cg)(x:aL w6):Lf.T (List Pl):=iH (Ps [ff 0 0 0 0 0 0,.n .i64]) [39] (Ps [.tu .nil,ff 18 19 22 33 34 39]) (fun _=>none) Tryz.OQ 3 (iI (Xl g) 3) (aX w6 x)
def Xm(g:Cg)(x:aL w6):Bool:=bO (ef AE (t234 g x))
def Xn(g:Cg)(x:aL w6):aL AE:=bO (cN AE (t234 g x))
def PN(g:Cg):cV:=gg (Ps [ff 0 0 0 0 0 0,.n .i64]) [39] (Ps [.tu .nil,ff 18 19 22 33 34 39]) w6 AE fun x=>.ck (Xm g x) (.ok (Xn g x))
theorem AF{g:Cg}{aM:aV}(W:WQ aM)(hg:(sG g).Ok 73 aM):(PN g).Ok 234 aM:=
 bW (W.in (Ky W hg) 3) (W.st 234 _ rfl) rfl (bt _) (m:=3) rfl (fun _=>ao _) (fun _=>ao _)
abbrev w7:List Ty:=uU [i64]
abbrev AG:List Ty:=uU []
def Xo(g:Cg):List (Nat×cV):=[(232,yM),(234,PN g)]
theorem Kz{g:Cg}{aM:aV}(W:WQ aM)(hg:(sG g).Ok 73 aM):di aM (Xo g):=(.cons (lM W) (.cons (AF W hg) .nil))
def t235(g:Cg)(x:aL w7):Lf.T (List Pl):=iH (Ps [ff 0 0 0 0 0 0,.n .i64]) [39] (Ps [.tu .nil,ff 18 19 22 33 34 39]) (fun _=>none) Tryz.OR 3 (iI (Xo g) 3) (aX w7 x)
def Xp(g:Cg)(x:aL w7):Bool:=bO (ef AG (t235 g x))
def Xr(g:Cg)(x:aL w7):aL AG:=bO (cN AG (t235 g x))
def Xs(g:Cg):cV:=gg (Ps [ff 0 0 0 0 0 0,.n .i64]) [39] (Ps [.tu .nil,ff 18 19 22 33 34 39]) w7 AG fun x=>.ck (Xp g x) (.ok (Xr g x))
theorem KA{g:Cg}{aM:aV}(W:WQ aM)(hg:(sG g).Ok 73 aM):(Xs g).Ok 235 aM:=
 bW (W.in (Kz W hg) 3) (W.st 235 _ rfl) rfl (bt _) (m:=3) rfl (fun _=>ao _) (fun _=>ao _)
abbrev sL:List Ty:=uU [i64,i64,u64]
abbrev fV:List Ty:=uU []
def Xt(g:Cg):List (Nat×cV):=[(232,yM),(231,Xi),(234,PN g),(235,Xs g),(236,Xk)]
theorem KB{g:Cg}{aM:aV}(W:WQ aM)(hg:(sG g).Ok 73 aM):di aM (Xt g):=(.cons (lM W) (.cons (Kv W) (.cons (AF W hg) (.cons (KA W hg) (.cons (Kx W) .nil)))))
def t134(g:Cg)(x:aL sL):Lf.T (List Pl):=iH (Ps [ff 0 0 0 0 0 0,.ag (Ps [.n .i64,.n .i64,.n .u64])]) [39] (Ps [.tu .nil,ff 18 19 22 33 34 39]) (fun _=>none) Tryz.OM 3 (iI (Xt g) 3) (aX sL x)
def uz(g:Cg)(x:aL sL):Bool:=bO (ef fV (t134 g x))
def uA(g:Cg)(x:aL sL):aL fV:=bO (cN fV (t134 g x))
def Xu(g:Cg):cV:=gg (Ps [ff 0 0 0 0 0 0,.ag (Ps [.n .i64,.n .i64,.n .u64])]) [39] (Ps [.tu .nil,ff 18 19 22 33 34 39]) sL fV fun x=>.ck (uz g x) (.ok (uA g x))
theorem KC{g:Cg}{aM:aV}(W:WQ aM)(hg:(sG g).Ok 73 aM):(Xu g).Ok 134 aM:=
 bW (W.in (KB W hg) 3) (W.st 134 _ rfl) rfl (bt _) (m:=3) rfl (fun _=>ao _) (fun _=>ao _)
end Go.Proofs.Vq

noncomputable section
namespace Go.Proofs.Vq
open Go.Ab Go.Ab.Lf
set_option maxRecDepth 100000
abbrev eL:List Ty:=oI (uy (uy [i64,.aB u64,.aB u64]))
abbrev ep:List Ty:=oI (uy [i64,.aB u64,.aB u64])
def KD:pR:=⟨0,pd Tryz.YE.code 0,[0,7,8],(Ps [ux 18 19 22 33 34,YN,.pt 0 (Ps [.rp 34 0,YN,.n .i64,.ow u64,.ow u64])]),[⟨.wC,[0,8],Ps [ux 18 19 22 33 34,.pt 0 (Ps [.rp 34 0,YN,.n .i64,.ow u64,.ow u64])]⟩]⟩
def Xv(g:Cg):List (Nat×cV):=[(134,Xu g)]
theorem KE{g:Cg}{aM:aV}(W:WQ aM)(hg:(sG g).Ok 73 aM):di aM (Xv g):=(.cons (KC W hg) .nil)
def lU(g:Cg):List Pl->Lf.T Rs:=KD.step (fun _=>none) (iI (Xv g) 3) 3
def Xw(g:Cg):fT:=wI KD (lU g) eL ep
theorem KF{g:Cg}{aM:aV}(W:WQ aM)(hg:(sG g).Ok 73 aM):iD Rx.w (Xw g) (fun n d=>hJ (aM n d) n (.bl 0 (.lp KD.body))):=jS (W.in (KE W hg) 3) (bt _) (m:=3) eL ep
def L73(g:Cg):Nat->Option fT:=Fh [(0,Xw g)]
abbrev FM:List Ty:=oI [i64,.aB u64]
abbrev w8:List Ty:=(.aB u64)::oI []
def e73(g:Cg):List (Nat×cV):=[(67,hZ u64),(132,Ww)]
theorem PQ{g:Cg}{aM:aV}(W:WQ aM)(hg:(sG g).Ok 73 aM):di aM (e73 g):=(.cons W.Pr (.cons JN .nil))
def t73(g:Cg)(x:aL FM):Lf.T (List Pl):=iH (Ps [ux 0 0 0 0 0,.n .i64,.im u64]) [34] (Ps [.ow u64,ux 18 19 22 33 34]) (L73 g) Tryz.YE 3 (iI (e73 g) 3) (aX FM x)
def Xx(g:Cg)(x:aL FM):Bool:=bO (ef w8 (t73 g x))
def QY(g:Cg)(x:aL FM):aL w8:=bO (cN w8 (t73 g x))
def s73(g:Cg):cV:=gg (Ps [ux 0 0 0 0 0,.n .i64,.im u64]) [34] (Ps [.ow u64,ux 18 19 22 33 34]) FM w8 fun x=>.ck (Xx g x) (.ok (QY g x))
theorem PR{g:Cg}{aM:aV}(W:WQ aM)(hg:(sG g).Ok 73 aM):(s73 g).Ok 73 aM:=
 bW (W.in (PQ W hg) 3) (W.st 73 _ rfl) rfl (nE.nA (.cons (b:=KD.body) (by kernel_rfl) (KF W hg) .nil)) (m:=3) rfl (fun _=>ao _) (fun _=>ao _)
abbrev gI:List Ty:=rR [i64,i64,.aB u64,.aB i64,i64,i64]
abbrev fL:List Ty:=rR [i64,i64,.aB u64]
def AH:pR:=⟨1,pd Tryz.Yx.code 1,[0,1,3,8,9,77,78,79],(Ps [yK 18 19 22 33,.n .i64,.n .i64,.pt 0 (Ps [.li .i64 0,.li .u32 0,.av (.sc (.slice none 0 0)),.li .i64 0]),.ow u64,.im i64,.n .i64,.n .i64]),[⟨.wC,[0,1,3,8,9],Ps [yK 18 19 22 33,.n .i64,.n .i64,.pt 0 (Ps [.li .i64 0,.li .u32 0,.av (.sc (.slice none 0 0)),.li .i64 0]),.ow u64]⟩]⟩
def LZ:List (Nat×cV):=[]
theorem FN{aM:aV}(W:WQ aM):di aM LZ:=.nil
def rb:List Pl->Lf.T Rs:=AH.step (fun _=>none) (iI LZ 3) 3
def L0:fT:=wI AH rb gI fL
theorem FO{aM:aV}(W:WQ aM):iD Rx.w L0 (fun n d=>hJ (aM n d) n (.bl 1 (.lp AH.body))):=jS (W.in (FN W) 3) (bt _) (m:=3) gI fL
def L23:Nat->Option fT:=Fh [(1,L0)]
abbrev B6:List Ty:=rR [i64,.aB u64,i64]
abbrev rS:List Ty:=i64::u32::(.aB u64)::i64::rR []
def e23(g:Cg):List (Nat×cV):=[(67,hZ u64),(73,sG g)]
theorem PS{g:Cg}{aM:aV}(W:WQ aM)(hg:(sG g).Ok 73 aM):di aM (e23 g):=(.cons W.Pr (.cons hg .nil))
def t23(g:Cg)(x:aL B6):Lf.T (List Pl):=iH (Ps [yK 0 0 0 0,.n .i64,.im u64,.n .i64]) [33] (Ps [.ag (Ps [.n .i64,.n .u32,.ow u64,.n .i64]),yK 18 19 22 33]) L23 Tryz.Yx 3 (iI (e23 g) 3) (aX B6 x)
def Xy(g:Cg)(x:aL B6):Bool:=bO (ef rS (t23 g x))
def m23(g:Cg)(x:aL B6):aL rS:=bO (cN rS (t23 g x))
def s23(g:Cg):cV:=gg (Ps [yK 0 0 0 0,.n .i64,.im u64,.n .i64]) [33] (Ps [.ag (Ps [.n .i64,.n .u32,.ow u64,.n .i64]),yK 18 19 22 33]) B6 rS fun x=>.ck (Xy g x) (.ok (m23 g x))
theorem PT{g:Cg}{aM:aV}(W:WQ aM)(hg:(sG g).Ok 73 aM):(s23 g).Ok 23 aM:=
 bW (W.in (PS W hg) 3) (W.st 23 _ rfl) rfl (nE.nA (.cons (b:=AH.body) (by kernel_rfl) (FO W) .nil)) (m:=3) rfl (fun _=>ao _) (fun _=>ao _)
end Go.Proofs.Vq

noncomputable section
namespace Go.Proofs.Vq
open Go.Ab Go.Ab.Lf
set_option maxRecDepth 100000
abbrev PU(f:Ty->gJ):gJ:=.ag (Ps [f cr,f pe,f i64,f iZ,f iZ,f pf,f pg,.n .i64,f ph,f pj,f pn])
def bR:aL tM:=([([],[]),([127],[126])],[(⟨#[104,111,115,116]⟩,⟨#[102]⟩,(1:Int))],[0,0,0],[((6:Int),(-1:Int))],[((1:Int),(2:Int))],
 [((127:Int),false,[((65:Int),(0:Int),(0:Int),(7:Int),(0:Int),([]:List Int)),(11,0,0,0,0,[])]),(123,false,[(64780,0,0,1,2,[]),(11,0,0,0,0,[])]),(126,false,[(66,0,0,9,0,[]),(11,0,0,0,0,[])])],[],(-1:Int),
 [([((65:Int),(0:Int),(0:Int),(0:Int),(0:Int),([]:List Int)),(11,0,0,0,0,[])],[(0:Int),1,2,3])],
 [(([]:List Int),[((11:Int),(0:Int),(0:Int),(0:Int),(0:Int),([]:List Int))]),([],[(11,0,0,0,0,[])]),([],[(11,0,0,0,0,[])])],[],())
def s17:cV:=gg (Ps []) [] (Ps [PU .im]) [] tM fun _=>.ok bR
theorem PV{aM:aV}(W:WQ aM):s17.Ok 17 aM:=by
 refine oE (W.in .nil 5) (W.st 17 _ rfl) rfl (bt _) (m:=5) rfl ?_
 rintro⟨⟩ q h
 cases h
 kernel_rfl
def Co(y:aL tM):Bool:= @decide (y=bR) (Classical.propDecidable _)
theorem uB:Co bR=true:=by unfold Co;exact @decide_eq_true _ (Classical.propDecidable _) rfl
theorem yO{y:aL tM}(h:Co y=true):y=bR:=by unfold Co at h;exact @of_decide_eq_true _ (Classical.propDecidable _) h
def eCl:List (Nat×cV):=[(67,hZ u64),(69,hZ cr),(70,hZ i64),(71,JO),(72,hZ bZ),(116,hZ pe),(117,hZ iZ),(118,hZ pf),(120,hZ pg),(121,hZ ph),(122,hZ pj),(123,hZ pn),(124,hZ u8),(221,hZ tI)]
theorem FP{aM:aV}(W:WQ aM):di aM eCl:=.cons W.Pr (.cons W.c69 (.cons W.Wx (.cons W.c71 (.cons W.YH (.cons W.Wy (.cons W.Wz (.cons W.WA (.cons W.WB (.cons W.WC (.cons W.WD (.cons W.WE (.cons W.WG (.cons W.WH .nil)))))))))))))
def FQ(p:aL tM->Bool):cV:=gg (Ps [PU .im]) [] (Ps [.n .i64]) tM [i64] fun x=>.ck (p x) (.ok (0,()))
def uC:Sto:=⟨[7,1,2,9],[1,0,0,0],[0,1,3],[0,1,2,3,-1,-1],bR,List.replicate 65536 0,2⟩
abbrev Xz:List Ty:=oH [i64]
def t18(p:aL tM->Bool):Lf.T (List Pl):=iH (Ps [PU .im]) [] (Ps [.tu (Ps [po 0 0,.n .i64])]) (fun _=>none) Tryz.Z6 12 (iI ((56,FQ p)::eCl) 12) (aX tM bR)
theorem abq(p:aL tM->Bool):(t18 p).val=bK (p bR) (some (aX Xz (jV [i64] uC (0,())))):=by kernel_rfl
def s18:cV:=gg (Ps [PU .im]) [] (Ps [.tu (Ps [po 0 0,.n .i64])]) tM Xz fun x=>.ck (Co x) (.ok (jV [i64] uC (0,())))
theorem PW{aM:aV}(W:WQ aM)(hc:(FQ Co).Ok 56 aM):s18.Ok 18 aM:=by
 refine oE (W.in (.cons hc (FP W)) 12) (W.st 18 _ rfl) rfl (bt _) (m:=12) rfl ?_
 intro x q h
 obtain⟨h1,h2⟩:=Lf.T.bU h
 cases h2
 obtain rfl:=yO h1
 have e:=abq Co
 rw[uB]at e
 exact e
def s68:cV:=gg (Ps [po 0 0]) [17] (Ps [PU .im,po 16 17]) (oH []) (iF (oH [])) fun x=>.ck (Co (x.2.2.2.2.1,x.2.2.2.2.2.1,x.2.2.2.2.2.2.1,x.2.2.2.2.2.2.2.1,x.2.2.2.2.2.2.2.2.1,x.2.2.2.2.2.2.2.2.2.1,x.2.2.2.2.2.2.2.2.2.2.1,x.2.2.2.2.2.2.2.2.2.2.2.1,x.2.2.2.2.2.2.2.2.2.2.2.2.1,x.2.2.2.2.2.2.2.2.2.2.2.2.2.1,x.2.2.2.2.2.2.2.2.2.2.2.2.2.2.1,())) (.ok (q9 (oH []) bR x))
theorem abr(v sm fi tb nH:List Int)(mo:Int):(iH (Ps [po 0 0]) [17] (Ps [PU .im,po 16 17]) (fun _=>none) Tryz.Z9 12 (iI eCl 12) (aX (oH []) (jV [] ⟨v,sm,fi,tb,bR,nH,mo⟩ ()))).val=some (aX (iF (oH [])) (q9 (oH []) bR (jV [] ⟨v,sm,fi,tb,bR,nH,mo⟩ ()))):=by kernel_rfl
theorem PX{aM:aV}(W:WQ aM):s68.Ok 68 aM:=by
 refine oE (W.in (FP W) 12) (W.st 68 _ rfl) rfl (bt _) (m:=12) rfl ?_
 rintro⟨v,sm,fi,tb,m1,m2,m3,m4,m5,m6,m7,m8,m9,m10,m11,nH,mo,⟨⟩⟩ q h
 obtain⟨h1,h2⟩:=Lf.T.bU h
 cases h2
 have h1:=yO h1
 have e1:m1=bR.1:=congrArg Prod.fst h1
 have e2:m2=bR.2.1:=congrArg (fun y:aL tM=>y.2.1) h1
 have e3:m3=bR.2.2.1:=congrArg (fun y:aL tM=>y.2.2.1) h1
 have e4:m4=bR.2.2.2.1:=congrArg (fun y:aL tM=>y.2.2.2.1) h1
 have e5:m5=bR.2.2.2.2.1:=congrArg (fun y:aL tM=>y.2.2.2.2.1) h1
 have e6:m6=bR.2.2.2.2.2.1:=congrArg (fun y:aL tM=>y.2.2.2.2.2.1) h1
 have e7:m7=bR.2.2.2.2.2.2.1:=congrArg (fun y:aL tM=>y.2.2.2.2.2.2.1) h1
 have e8:m8=bR.2.2.2.2.2.2.2.1:=congrArg (fun y:aL tM=>y.2.2.2.2.2.2.2.1) h1
 have e9:m9=bR.2.2.2.2.2.2.2.2.1:=congrArg (fun y:aL tM=>y.2.2.2.2.2.2.2.2.1) h1
 have e10:m10=bR.2.2.2.2.2.2.2.2.2.1:=congrArg (fun y:aL tM=>y.2.2.2.2.2.2.2.2.2.1) h1
 have YI:m11=bR.2.2.2.2.2.2.2.2.2.2.1:=congrArg (fun y:aL tM=>y.2.2.2.2.2.2.2.2.2.2.1) h1
 subst e1 e2 e3 e4 e5 e6 e7 e8 e9 e10 YI
 exact abr v sm fi tb nH mo
end Go.Proofs.Vq

noncomputable section
namespace Go.Proofs.Vq
open Go.Ab Go.Ab.Lf
set_option maxRecDepth 100000
abbrev sM(a b:gJ)(w x y z:Nat):gJ:=.pt z (Ps [a,b,po w x,J5 y,.im cr,.im pe,.im i64,.im iZ,.im iZ,.im pf,.im pg,.n .i64,.im ph,.im pj,.im pn,.bo])
def YQ:cV:=gg (Ps []) [] (Ps [.bo]) [] [.bool] fun _=>.ok (true,())
structure WL(aM:aV):Prop extends WQ aM where
 aw:YQ.Ok 10 aM
 chk:(FQ Co).Ok 56 aM
abbrev jW:List Ty:=.aB cr::.aB eJ::.aB cr::oH (jU (iF [.bool,i64,i64]))
abbrev gq:List Ty:=.aB cr::.aB eJ::.aB cr::oH (jU (iF [.bool]))
def AI:pR:=⟨0,pd Tryz.SA.code 0,[3,7,31,32,33],(Ps [.pt 0 (Ps [.im cr,.im eJ]),sM (.ow cr) (.av (.sc (.slice none 0 0))) 18 19 22 0,.oo 4 2,.n .i64,.n .i64]),[⟨.wC,[3,7],Ps [.pt 0 (Ps [.im cr,.im eJ]),sM (.ow cr) (.av (.sc (.slice none 0 0))) 18 19 22 0]⟩]⟩
def L1:List (Nat×cV):=[(70,hZ i64)]
theorem FR{aM:aV}(W:WQ aM):di aM L1:=(.cons W.Wx .nil)
def sN:List Pl->Lf.T Rs:=AI.step (fun _=>none) (iI L1 3) 3
def L2:fT:=wI AI sN jW gq
theorem FU{aM:aV}(W:WQ aM):iD Rx.w L2 (fun n d=>hJ (aM n d) n (.bl 0 (.lp AI.body))):=jS (W.in (FR W) 3) (bt _) (m:=3) jW gq
abbrev ja:List Ty:=rR [i64,i64]
abbrev gu:List Ty:=rR []
def AJ:pR:=⟨2,pd Tryz.SA.code 2,[7,65,66],(Ps [sM (.im cr) (.ow eJ) 18 19 22 0,.n .i64,.n .i64]),[⟨.wC,[7],Ps [sM (.im cr) (.ow eJ) 18 19 22 0]⟩]⟩
def L3:List (Nat×cV):=[(72,hZ bZ)]
theorem FV{aM:aV}(W:WQ aM):di aM L3:=(.cons W.YH .nil)
def rh:List Pl->Lf.T Rs:=AJ.step (fun _=>none) (iI L3 3) 3
def L5:fT:=wI AJ rh ja gu
theorem FW{aM:aV}(W:WQ aM):iD Rx.w L5 (fun n d=>hJ (aM n d) n (.bl 2 (.lp AJ.body))):=jS (W.in (FV W) 3) (bt _) (m:=3) ja gu
def L22:Nat->Option fT:=Fh [(0,L2),(2,L5)]
abbrev B7:List Ty:=.aB cr::.aB eJ::oH (jU [])
abbrev yP:List Ty:=rR []
def e22:List (Nat×cV):=[(68,s68),(34,s34),(69,hZ cr),(70,hZ i64),(71,JO),(72,hZ bZ)]
theorem PY{aM:aV}(W:WQ aM):di aM e22:=(.cons (PX W) (.cons (PB W) (.cons W.c69 (.cons W.Wx (.cons W.c71 (.cons W.YH .nil))))))
def t22(x:aL B7):Lf.T (List Pl):=iH (Ps [.ag (Ps [.im cr,.im eJ]),po 0 0,J5 0]) [] (Ps [sM (.im cr) (.im eJ) 18 19 22 0]) L22 Tryz.SA 3 (iI e22 3) (aX B7 x)
def QZ(x:aL B7):Bool:=bO (ef yP (t22 x))
def m22(x:aL B7):aL yP:=bO (cN yP (t22 x))
def s22:cV:=gg (Ps [.ag (Ps [.im cr,.im eJ]),po 0 0,J5 0]) [] (Ps [sM (.im cr) (.im eJ) 18 19 22 0]) B7 yP fun x=>.ck (QZ x) (.ok (m22 x))
theorem PZ{aM:aV}(W:WQ aM):s22.Ok 22 aM:=
 bW (W.in (PY W) 3) (W.st 22 _ rfl) rfl (nE.nA (.cons (b:=AI.body) (by kernel_rfl) (FU W) (.cons (b:=AJ.body) (by kernel_rfl) (FW W) .nil))) (m:=3) rfl (fun _=>ao _) (fun _=>ao _)
abbrev kY:List Ty:=[.aB u64,.aB u64,i64]
abbrev jv:List Ty:=[]
abbrev kZ:List Ty:=[.bool]
def AK:pR:=⟨0,pd Tryz.Yy.code 0,[0,1,5],(Ps [.im u64,.im u64,.n .i64]),[⟨.wC,[],(Ps [])⟩,⟨.rt,[4],(Ps [.bo])⟩]⟩
def L6:List (Nat×cV):=[]
theorem FX{aM:aV}(W:WQ aM):di aM L6:=.nil
def nI:List Pl->Lf.T Rs:=AK.step (fun _=>none) (iI L6 3) 3
def L7:fT:=B5 AK nI kY jv kZ
theorem FY{aM:aV}(W:WQ aM):iD Rx.w L7 (fun n d=>hJ (aM n d) n (.bl 0 (.lp AK.body))):=nF (W.in (FX W) 3) (bt _) (m:=3) kY jv kZ
def L25:Nat->Option fT:=Fh [(0,L7)]
abbrev FZ:List Ty:=[.aB u64,.aB u64]
abbrev yQ:List Ty:=[.bool]
def e25:List (Nat×cV):=[]
theorem P0{aM:aV}(W:WQ aM):di aM e25:=.nil
def t25(x:aL FZ):Lf.T (List Pl):=iH (Ps [.im u64,.im u64]) [] (Ps [.bo]) L25 Tryz.Yy 3 (iI e25 3) (aX FZ x)
def XA(x:aL FZ):Bool:=bO (ef yQ (t25 x))
def m25(x:aL FZ):aL yQ:=bO (cN yQ (t25 x))
def s25:cV:=gg (Ps [.im u64,.im u64]) [] (Ps [.bo]) FZ yQ fun x=>.ck (XA x) (.ok (m25 x))
theorem P1{aM:aV}(W:WQ aM):s25.Ok 25 aM:=
 bW (W.in (P0 W) 3) (W.st 25 _ rfl) rfl (nE.nA (.cons (b:=AK.body) (by kernel_rfl) (FY W) .nil)) (m:=3) rfl (fun _=>ao _) (fun _=>ao _)
abbrev F3:List Ty:=[i64,u32,.aB u64,i64,i64,u32,.aB u64,i64]
abbrev w9:List Ty:=[.bool]
def e16:List (Nat×cV):=[(25,s25)]
theorem P2{aM:aV}(W:WQ aM):di aM e16:=(.cons (P1 W) .nil)
def t16(x:aL F3):Lf.T (List Pl):=iH (Ps [.ag (Ps [.n .i64,.n .u32,.im u64,.n .i64]),.ag (Ps [.n .i64,.n .u32,.im u64,.n .i64])]) [] (Ps [.bo]) (fun _=>none) Tryz.Z5 3 (iI e16 3) (aX F3 x)
def GS(x:aL F3):Bool:=bO (ef w9 (t16 x))
def m16(x:aL F3):aL w9:=bO (cN w9 (t16 x))
def s16:cV:=gg (Ps [.ag (Ps [.n .i64,.n .u32,.im u64,.n .i64]),.ag (Ps [.n .i64,.n .u32,.im u64,.n .i64])]) [] (Ps [.bo]) F3 w9 fun x=>.ck (GS x) (.ok (m16 x))
theorem P3{aM:aV}(W:WQ aM):s16.Ok 16 aM:=
 bW (W.in (P2 W) 3) (W.st 16 _ rfl) rfl (bt _) (m:=3) rfl (fun _=>ao _) (fun _=>ao _)
abbrev F4:List Ty:=[.aB cr,.aB eJ,.aB u64,i64]
abbrev B8:List Ty:=i64::u32::.aB u64::i64::oH []
def e14(g:Cg):List (Nat×cV):=[(67,hZ u64),(17,s17),(18,s18),(22,s22),(23,s23 g)]
theorem P4{g:Cg}{aM:aV}(W:WL aM)(hg:(sG g).Ok 73 aM):di aM (e14 g):=(.cons W.toWQ.Pr (.cons (PV W.toWQ) (.cons (PW W.toWQ W.chk) (.cons (PZ W.toWQ) (.cons (PT W.toWQ hg) .nil)))))
def t14(g:Cg)(x:aL F4):Lf.T (List Pl):=iH (Ps [.ag (Ps [.im cr,.im eJ]),.im u64,.n .i64]) [] (Ps [.tu (Ps [.ag (Ps [.n .i64,.n .u32,.ow u64,.n .i64]),po 0 0])]) (fun _=>none) Tryz.Z4 3 (iI (e14 g) 3) (aX F4 x)
def GU(g:Cg)(x:aL F4):Bool:=bO (ef B8 (t14 g x))
def m14(g:Cg)(x:aL F4):aL B8:=bO (cN B8 (t14 g x))
def s14(g:Cg):cV:=gg (Ps [.ag (Ps [.im cr,.im eJ]),.im u64,.n .i64]) [] (Ps [.tu (Ps [.ag (Ps [.n .i64,.n .u32,.ow u64,.n .i64]),po 0 0])]) F4 B8 fun x=>.ck (GU g x) (.ok (m14 g x))
theorem P5{g:Cg}{aM:aV}(W:WL aM)(hg:(sG g).Ok 73 aM):(s14 g).Ok 14 aM:=
 bW (W.toWQ.in (P4 W hg) 3) (W.toWQ.st 14 _ rfl) rfl (bt _) (m:=3) rfl (fun _=>ao _) (fun _=>ao _)
end Go.Proofs.Vq

noncomputable section
namespace Go.Ab
open Go.Ab.Lf
def AL(lk:FuncId->List AV->Option AV)(c:bP):bP:=fun f args h=>match lk f args with
 |some v=>.ok v h
 |none=>c f args h
theorem yR[Io]{P:Program}{lk:FuncId->List AV->Option AV}(ht: ∀ f args v,lk f args=some v->bL P f args v){call:bP}(hc:cC P call):cC P (AL lk call):=by
 intro f args h v h' e
 unfold AL at e
 cases NQ:lk f args with
 |none=>rw[NQ]at e;exact hc f args h v h' e
 |some v1=>
  rw[NQ]at e
  cases e
  obtain⟨k1,k2⟩:=ht f args v NQ
  refine⟨k1,fun g w vs H hv=>?_⟩
  refine(k2 g w vs H.cT H.tb hv).mono ?_
  rintro e w' ⟨x,rfl,K,hx⟩
  obtain⟨g',tT⟩: ∃ g':G,g'=⟨g.m,fun b=>g.cT b∨(w.heap.size<=b/\b<w'.heap.size)⟩:=⟨_,rfl⟩
  have hO: ∀ b,eT g' h b->eT g h b:=by
   rintro b ⟨id,cs,s,e,m⟩
   rw[tT]at m
   exact⟨id,cs,s,e,m⟩
  have M:jh g w g' w':=⟨fun _ _ e=>by rw[tT];exact e,fun b i=>by rw[tT];exact .inl i,fun b i=>K.j2 b (H.cT b i),K.rows⟩
  refine⟨x,g',rfl,⟨K.os,K.tape,K.output,K.size,Nat.le_refl _,M.m,fun b hb _=>K.j2 b hb,K.rows,M.cT,fun b i=>?_,fun b o=>.inl (hO b o)⟩,⟨fun id eC=>?_,fun id cs e=>?_,fun id nU b s s' cs cs' e1 e2 m1 m2=>?_,fun b i=>?_,gz.mono M H.tb⟩,?_⟩
  ·rw[tT]at i
   rcases i with i|i
   ·exact .inl i
   ·exact .inr (.inr i.1)
  ·rw[tT];exact H.fresh id eC
  ·obtain⟨b,s,C,el,us,h1,h2,h3,h4,h5⟩:=H.aN id cs e
   have hb:=(Array.getElem?_eq_some_iff.1 h2).1
   refine⟨b,s,C,el,us,M.m _ _ h1,by rw[K.j2 b hb];exact h2,?_,bq.dA M _ _ h4,h5⟩
   rw[tT]
   rintro(i|i)
   ·exact h3 i
   ·omega
  ·rw[tT]at m1 m2
   exact H.inj id nU b s s' cs cs' e1 e2 m1 m2
  ·rw[tT]at i
   rcases i with i|i
   ·exact Nat.lt_of_lt_of_le (H.cT b i) K.size
   ·exact i.2
  ·refine VR.dA (⟨(fun _ _ e=>by cases e),(fun b i=>by rw[tT];exact .inr i),fun _ _=>rfl,fun _=>Nat.le_refl _⟩:jh _ _ g' w') _ _ hx
end Go.Ab
namespace Go.Ab.Lf
open Go.Ab
def canon:(t:Ty)->den t->List AV
 | .int k,x=>[.int k x]
 | .bool,x=>[.bool x]
 | .str,x=>[.sc (.string x)]
 | .aB t,x=>[.fg (List.length x) (List.foldr (fun y r=>canon t y++r) [] x)]
 | .pair a b,x=>canon a x.1++canon b x.2
theorem nJ[Io]{g:G}{w:Go.World}: ∀ (t:Ty) (x:den t) (cs:List AV) (vs:List Value),EV (fun _=>none) t x cs->bq g w cs vs->bq g w (canon t x) vs
 | .int _,x,_,vs,e,h=>by have e:_=_:=e;subst e;exact h
 | .bool,x,_,vs,e,h=>by have e:_=_:=e;subst e;exact h
 | .str,x,_,vs,e,h=>by have e:_=_:=e;subst e;exact h
 | .pair a b,x,_,vs,⟨c,d,e,h1,h2⟩,h=>by
  subst e
  obtain⟨us,ts,rfl,k1,k2⟩:=bq.split h
  exact bq.append (nJ a _ _ _ h1 k1) (nJ b _ _ _ h2 k2)
 | .aB t,x,_,vs,⟨a,e,k⟩,h=>by
  subst e
  have els: ∀ (l:List (den t)) (ls:List AV) (vs:List Value),fP (EV (fun _=>none) t) l ls->bq g w ls vs->bq g w (List.foldr (fun y r=>canon t y++r) [] l) vs:=by
   intro l
   induction l with
   |nil=>intro ls vs h k;have h:_=_:=h;subst h;exact k
   |cons x l ih=>
    rintro ls vs ⟨c,r,rfl,h1,h2⟩ k
    obtain⟨us,ts,rfl,k1,k2⟩:=bq.split k
    exact bq.append (nJ t _ _ _ h1 k1) (ih _ _ h2 k2)
  have h':bq g w [a] vs:=h
  show bq g w [.fg (List.length x) (List.foldr (fun y r=>canon t y++r) [] x)] vs
  simp only[bq]at h' ⊢
  obtain⟨v,l,rfl,hv,rfl⟩:=h'
  refine⟨v,_,rfl,?_,rfl⟩
  rcases k with⟨k1,rfl⟩|⟨ls,k1,k2⟩
  ·have e0: ∃ ad c,v=.slice ad 0 c:=by
    cases a with
    |cS=>simp only[VR]at hv;obtain⟨ad,rfl⟩:=hv;exact⟨_,_,rfl⟩
    |iQ=>simp only[VR]at hv;obtain⟨ad,rfl⟩:=hv;exact⟨_,_,rfl⟩
    |sc z=>
     obtain rfl:z=.slice none 0 0:=by
      have k:isNil (.sc z)=true:=k1
      unfold isNil at k
      split at k
      ·rename_i n c e
       injection e with e
       subst e
       have k:(Nat.beq n 0&&Nat.beq c 0)=true:=by assumption
       rw[Bool.and_eq_true]at k
       obtain rfl:=Nat.eq_of_beq_eq_true k.1
       obtain rfl:=Nat.eq_of_beq_eq_true k.2
       rfl
      ·cases k
     simp only[VR]at hv
     exact⟨_,_,hv.1⟩
    | _=>cases k1
   obtain⟨ad,c,rfl⟩:=e0
   simp only[VR]
   exact⟨ad,c,rfl,Nat.zero_le _,.inl ⟨rfl,rfl⟩⟩
  ·rcases k2 with k2|⟨_,_,_,_,g,_⟩
   ·subst k2
    simp only[VR]at hv ⊢
    obtain⟨ad,cap,rfl,hc,q⟩:=hv
    refine⟨ad,cap,rfl,hc,?_⟩
    rcases q with⟨q1,q2⟩|⟨b,o,us,q1,q2,q3,q4⟩
    ·left
     obtain rfl:x=[]:=List.eq_nil_of_length_eq_zero q1
     exact⟨rfl,rfl⟩
    ·exact .inr ⟨b,o,us,q1,q2,q3,els x ls us k1 q4⟩
   ·cases g
end Go.Ab.Lf

noncomputable section
namespace Go.Ab.Lf
open Go.Ab
abbrev N0:Nat->Option Rw:=fun _=>none
theorem ri{f:AV->Option AV}: ∀ {l m l' m':List AV},mapA f l=some l'->mapA f m=some m'->mapA f (l++m)=some (l'++m')
 | [],_,_,_,h,k=>by cases h;exact k
 |a::l,m,l',m',h,k=>by
  change (match f a with|some b=>(match mapA f l with|some r=>some (b::r)|none=>none)|none=>none)=some l' at h
  cases h1:f a with
  |none=>rw[h1]at h;cases h
  |some b=>
   cases h2:mapA f l with
   |none=>rw[h1,h2]at h;cases h
   |some r=>
    rw[h1,h2]at h
    cases h
    show(match f a with|some b=>(match mapA f (l++m)with|some r=>some (b::r)|none=>none)|none=>none)=_
    rw[h1,ri h2 k]
    rfl
def dep:Ty->Nat
 | .aB t=>dep t+1
 | .pair a b=>max (dep a) (dep b)
 | _=>0
theorem B9{a:AV}(h:cu a=true)(n:Nat)(p:Hp):mi (n+1) p a=some a:=by
 cases a with
 |sc v=>rfl
 |cS=>rfl
 |iQ=>rfl
 | _=>cases h
theorem uD{G:Nat->Option Rw}{p:Hp}(hG: ∀ id row,G id=some row->p.aN.get id=some row): ∀ (t:Ty) (n:Nat) (x:den t) (cs:List AV),dep t<n->EV G t x cs-> ∃ cs',mapA (mi n p) cs=some cs'/\EV N0 t x cs'
 | .int _,n+1,x,_,_,h=>by have h:_=_:=h;subst h;exact⟨_,rfl,rfl⟩
 | .bool,n+1,x,_,_,h=>by have h:_=_:=h;subst h;exact⟨_,rfl,rfl⟩
 | .str,n+1,x,_,_,h=>by have h:_=_:=h;subst h;exact⟨_,rfl,rfl⟩
 | .pair a b,n,x,_,hn,⟨c,d,e,h1,h2⟩=>by
  have hn:max (dep a) (dep b)<n:=hn
  obtain⟨c',e1,k1⟩:=uD hG a n _ _ (by omega) h1
  obtain⟨d',e2,k2⟩:=uD hG b n _ _ (by omega) h2
  subst e
  exact⟨_,ri e1 e2,_,_,rfl,k1,k2⟩
 | .aB t,n+1,x,_,hn,⟨a,e,k⟩=>by
  have hn:dep t+1<n+1:=hn
  have els: ∀ (l:List (den t)) (ls:List AV),fP (EV G t) l ls-> ∃ P6,mapA (mi n p) ls=some P6/\fP (EV N0 t) l P6:=by
   intro l
   induction l with
   |nil=>intro ls h;have h:_=_:=h;subst h;exact⟨_,rfl,rfl⟩
   |cons x l ih=>
    rintro ls ⟨c,r,rfl,h1,h2⟩
    obtain⟨c',e1,k1⟩:=uD hG t n _ _ (by omega) h1
    obtain⟨r',e2,k2⟩:=ih _ h2
    exact⟨_,ri e1 e2,_,_,rfl,k1,k2⟩
  have one: ∀ a',mi (n+1) p a=some a'->zO N0 t (EV N0 t) x a'-> ∃ cs',mapA (mi (n+1) p) [a]=some cs'/\EV N0 (.aB t) x cs':=by
   intro a' h1 h2
   refine⟨[a'],?_,a',rfl,h2⟩
   show(match mi (n+1) p a with|some b=>some [b]|none=>none)=_
   rw[h1]
  subst e
  rcases k with⟨k1,k2⟩|⟨ls,k1,k2⟩
  ·exact one a (B9 k1 n p) (.inl ⟨k1,k2⟩)
  ·obtain⟨P6,e1,q1⟩:=els x ls k1
   rcases k2 with k2|⟨id,base,row,k2,g,sg⟩
   ·refine one (.fg x.length P6) ?_ (.inr ⟨P6,q1,.inl rfl⟩)
    subst k2
    show(match mapA (mi n p) ls with|some l=>some (AV.fg x.length l)|none=>none)=_
    rw[e1]
   ·refine one (.fg x.length P6) ?_ (.inr ⟨P6,q1,.inl rfl⟩)
    subst k2
    show(match p.aN.get id with|some cs=>(match cs.fy base (Nat.mul x.length (size t))with|some l=>(match mapA (mi n p) l with|some l=>some (AV.fg x.length l)|none=>none)|none=>none)|none=>none)=_
    rw[hG _ _ g]
    have sg:row.fy base (Nat.mul x.length (size t))=some ls:=sg
    dsimp only
    rw[sg]
    dsimp only
    rw[e1]
end Go.Ab.Lf
