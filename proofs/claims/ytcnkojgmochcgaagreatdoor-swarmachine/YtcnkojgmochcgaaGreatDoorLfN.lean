import Derived.Test.YtcnkojgmochcgaaGreatDoorLfK
import Derived.Test.YtcnkojgmochcgaaGreatDoorVbQ
import Derived.KernelRfl
import Derived.Shelf.Small.Bits
import Derived.Shelf.Spec.TrailingZeros
import Derived.Test.YtcnkojgmochcgaaGreatDoorVrA
import Derived.Test.YtcnkojgmochcgaaGreatDoorVrS
noncomputable section
namespace Go.Ab.Lf
def GW(t:Ty):nK:=pL (.cons (.im t) .nil) [] (.cons (.ow t) .nil) [.cq t] [.cq t] fun x=>.ck (decide (List.length x.1<=1099511627776)) (.ok (x.1,()))
def flat(t:Ty):Bool:=Ty.rec (motive:=fun _=>Bool) (fun _=>true) true true (fun _ _=>false) (fun _ _ a b=>bif a then b else false) t
theorem Ce{G G':Nat->Option Rw}: ∀ (t:Ty) (x:den t) (cs:List AV),flat t=true->EV G t x cs->EV G' t x cs
 | .int _,_,_,_,e=>e
 | .bool,_,_,_,e=>e
 | .str,_,_,_,e=>e
 | .cq _,_,_,h,_=>by cases h
 | .pair a b,x,cs,h,⟨c,d,e,k1,k2⟩=>by
  have h:(bif flat a then flat b else false)=true:=h
  cases ha:flat a with
  |false=>rw[ha]at h;cases h
  |true=>rw[ha]at h;exact⟨c,d,e,Ce a _ _ ha k1,Ce b _ _ h k2⟩
def Yw:Sv->Bool
 | .os _ _| .ss _ _ _ _=>true
 | _=>false
theorem aiH{t:Ty}{v:Sv}{a:AV}{x:List (den t)}{E:En}{H H1:Hq}{h:Hp}(S:SR E H h)(ho:Yw v=true)(hv:V E H.next v a)(e:IM t v H=some (x,H1)): ∀ id,sH a=some id->id<h.next:=by
 intro id hi
 cases v with
 |os r s=>
  change (match H.cw.get r with|some (.l t' x)=>(match Aj t' t with|some ⟨e⟩=>some ((e▸x:List (den t)),H)|none=>none)| _=>none)=some (x,H1)at e
  split at e
  ·rename_i t' y hr
   cases hv with
   |os _ _=>exact S.lt r id ⟨_,hr,rfl⟩ hi
  ·cases e
 |ss r s off n=>
  change (match H.cw.get r with|some (.l t' x)=>(match Aj t' t with|some ⟨e⟩=>some (((e▸x:List (den t)).drop off).take n,H)|none=>none)| _=>none)=some (x,H1)at e
  split at e
  ·rename_i t' y hr
   cases hv with
   |se _ h1 _ _=>exact S.lt r id ⟨_,hr,rfl⟩ hi
   |ss _ h1 _=>exact S.lt r id ⟨_,hr,rfl⟩ (by rw[h1];exact hi)
  ·cases e
 | _=>cases ho
theorem Jk{t:Ty}{x:List (den t)}{r:List Pl}{H:Hq}:oO (.im t) (⟨.cq t,x⟩::r) H=some ([.c H.next (.cq t) x],r,⟨Nat.add H.next 1,H.cw⟩):=by
 unfold oO;simp only[si]
theorem To{t:Ty}{x:List (den t)}{r:List Pl}{H:Hq}:oO (.ow t) (⟨.cq t,x⟩::r) H=some ([.os H.next (size t)],r,nZ H (.l t x)):=by
 unfold oO;simp only[si]
theorem AX{p:rI}{pl:List Pl}{H H':Hq}{v:List Sv}(h:oO p pl H=some (v,[],H')):oO (.cons p .nil) pl H=some (v,[],H'):=by
 show(match oO p pl H with|some (v,r,H)=>(match oO .nil r H with|some (w,r,H)=>some (app v w,r,H)|none=>none)|none=>none)=_
 rw[h]
 show some (app v [],([]:List Pl),H')=_
 rw[nD,List.append_nil]
theorem Tp{t:Ty}(ft:flat t=true){f:FuncId}{cr:cu}(k:(GW t).Ok f cr){E:En}{H H1:Hq}{h:Hp}{v:Sv}{a:AV}{x:List (den t)}(S:SR E H h)(ho:Yw v=true)(hv:V E H.next v a)(hp:IM t v H=some (x,H1))(hl:x.length<=1099511627776):
 ∃ c h' E',Ev (fun n d=>cr n d f [a] h) (.ok c h')/\Nx E E' H (nZ H (.l t x)) h h'/\SR E' (nZ H (.l t x)) h'/\V E' (nZ H (.l t x)).next (.os H.next (size t)) c:=by
 have qu:=aiH S ho hv hp
 obtain⟨E1,F,D⟩:=Cb S hv hp
 obtain⟨G0,hG,hE⟩: ∃ G0:Nat->Option Rw,(∀ id row,G0 id=some row->id<h.next/\h.cw.get id=some row)/\EV G0 (.cq t) x [a]:=by
  rcases D with⟨d1,d2⟩|⟨id,base,row,ls,d1,d2,d3,d4⟩
  ·exact⟨fun _=>none,fun _ _ e=>(by cases e),a,rfl,.inl ⟨d1,d2⟩⟩
  ·refine⟨fun i=>if i=id then some row else none,fun i r e=>?_,a,rfl,.inr ⟨ls,d4.mono fun y c e=>Ce t y c ft e,.inr ⟨id,base,row,d1,if_pos rfl,d3⟩⟩⟩
   dsimp only at e
   split at e
   ·rename_i q
    cases e
    subst q
    exact⟨qu i (by rw[d1];rfl),d2⟩
   ·cases e
 obtain⟨E0,hE0⟩: ∃ E0:En,E0=⟨fun _=>⟨.any,0⟩,fun _=>a,G0,fun _=>.any⟩:=⟨_,rfl⟩
 have no: ∀ r R,¬ (Tr.nil:Tr Row).get r=some R:=fun r R h=>by
  have h:(none:Option Row)=some R:=h
  cases h
 have hf:oO (GW t).P (cp [.cq t] (x,())) e1=some ([.c 1 (.cq t) x],[],⟨2,.nil⟩):=by
  exact AX Jk
 have hs:((GW t).f (cp [.cq t] (x,()))).val=some (cp [.cq t] (x,())):=by
  unfold GW pL
  simp only[tW]
  show(bif decide (x.length<=1099511627776)then some (cp [.cq t] (x,()))else none)=_
  rw[decide_eq_true hl]
  rfl
 have hS0:SR E0 (pd ⟨2,.nil⟩) h:=by
  have et:pd ⟨2,.nil⟩=(⟨2,.nil⟩:Hq):=rfl
  rw[et]
  refine⟨fun r R h=>(no r R h).elim,?_,?_,fun id row e=>?_⟩
  ·rintro r r' id ⟨R,h,_⟩;exact(no r R h).elim
  ·rintro r id ⟨R,h,_⟩;exact(no r R h).elim
  ·subst hE0
   obtain⟨g1,g2⟩:=hG id row e
   refine⟨g1,g2,?_⟩
   rintro r ⟨R,h,_⟩;exact(no r R h).elim
 obtain⟨c,h',E2,ws,H2,hev,X,S2,hq,hV⟩:=k _ _ _ _ E0 h [a] hs hf (.cons (.c (by subst hE0;exact hE) fun _=>⟨by decide,by subst hE0;rfl⟩) .nil) hS0
 have hq2:oO (GW t).Q (cp [.cq t] (x,())) e1=some ([.os 1 (size t)],[],nZ e1 (.l t x)):=by
  exact AX To
 rw[hq2]at hq
 cases hq
 have h1:(nZ e1 (.l t x)).cw.get 1=some (.l t x):=by rw[rz];exact if_pos rfl
 have R1:=(S2.row 1 _ h1).2
 have aiI:own (nZ e1 (.l t x)) 1:=⟨_,h1,rfl⟩
 have hc:c=(E2.K 1).av:=by
  cases hV with
  |cons hc _=>cases hc with
   |os _ _=>rfl
 have noO: ∀ r,¬ own (pd ⟨2,.nil⟩) r:=by
  have et:pd ⟨2,.nil⟩=(⟨2,.nil⟩:Hq):=rfl
  rw[et]
  rintro r ⟨R,h,_⟩;exact no r R h
 have R3:RV E H.next h' (E2.K 1) (.l t x):=by
  obtain⟨q1,q2⟩:=R1
  refine⟨q1,?_⟩
  rcases q2 with q2|⟨id,base,row,ls,k1,k2,k3,k4⟩
  ·exact .inl q2
  ·exact .inr ⟨id,base,row,ls,k1,k2,k3,k4.mono fun y c e=>Ce t y c ft e⟩
 obtain⟨S3,X3⟩:=rA S rfl (fun _ _ e=>e) X.GA (fun id hi _=>X.fr id hi fun r o _=>noO r o) (fun id e=>⟨S2.lt 1 id aiI e,.inl (by
  rcases X.ow 1 id aiI e with⟨r,o,_⟩|q
  ·exact(noO r o).elim
  ·exact q)⟩) R3 rfl
 refine⟨c,h',_,hev,X3,S3,?_⟩
 have K0:(E.row H.next (E2.K 1)).K H.next=E2.K 1:=if_pos rfl
 have vp:=V.os (E:=E.row H.next (E2.K 1)) (N:=(nZ H (.l t x)).next) (r:=H.next) (sz:=size t) (Nat.lt_succ_self _) (by
  rw[K0]
  obtain⟨q1,q2⟩:=R3
  rcases q2 with⟨k1,k2⟩|⟨id,base,row,ls,k1,_⟩
  ·exact .inl ⟨k1,by rw[<-q1,k2];rfl⟩
  ·exact .inr ⟨id,base,k1⟩)
 rw[K0,<-hc]at vp
 exact vp
def clW(cl:FuncId->Option Ty)(base:pF):pF:=fun f args H=>match cl f with
 |some t=>(match args with
  | [v]=>bif Yw v then(match IM t v H with
   |some (x,_)=>.ck (decide (x.length<=1099511627776)) (.ok (.os H.next (size t),nZ H (.l t x)))
   |none=>base f args H)else base f args H
  | _=>base f args H)
 |none=>base f args H
theorem aer{cl:FuncId->Option Ty}{base:pF}{cr:cu}(hc: ∀ f t,cl f=some t->flat t=true/\(GW t).Ok f cr)(C:yz base cr):yz (clW cl base) cr:=by
 intro E f args az H h v H' hv hS e
 unfold clW at e
 split at e
 ·rename_i t ht
  obtain⟨ft,k⟩:=hc f t ht
  split at e
  ·rename_i w
   cases ho:Yw w with
   |false=>rw[ho]at e;exact C E f _ _ H h v H' hv hS e
   |true=>
    rw[ho,cond_true]at e
    split at e
    ·rename_i x H1 hp
     obtain⟨h1,h2⟩:=T.cG e
     cases h2
     cases hv with
     |cons ha hr=>
      cases hr
      exact Tp ft k hS ho ha hp (of_decide_eq_true h1)
    ·exact C E f _ _ H h v H' hv hS e
  ·exact C E f _ _ H h v H' hv hS e
 ·exact C E f _ _ H h v H' hv hS e
def aes(cl:FuncId->Option Ty)(bk:FuncId->Option Ea)(ent:FuncId->Option nK)(m d:Nat):pF:=Nat.rec (fun _ _ _=>.bad) (fun _ ih=>clW cl fun f args h=>match ent f with
 |some s=>s.call args h
 |none=>(match bk f with
  |some b=>bif Nat.ble b.ntmps 512 then IU (fun _=>none) b m ih args h else .bad
  |none=>.bad)) d
theorem M7{cl:FuncId->Option Ty}{bk:FuncId->Option Ea}{ent:FuncId->Option nK}{m:Nat}{cr:cu}(hc: ∀ f t,cl f=some t->flat t=true/\(GW t).Ok f cr)(hb: ∀ f b,bk f=some b->wP cr f b)(he: ∀ f s,ent f=some s->s.Ok f cr): ∀ d,yz (aes cl bk ent m d) cr
 |0=>by intro E f args az H h v H' _ _ e;cases e
 |d+1=>aer hc (by
  intro E f args az H h v H' hv hH e
  change (match ent f with|some s=>s.call args H|none=>(match bk f with|some b=>bif Nat.ble b.ntmps 512 then IU (fun _=>none) b m (aes cl bk ent m d) args H else .bad|none=>.bad)).val=some (v,H')at e
  split at e
  ·rename_i s hs
   exact Yp (he f s hs) hv hH e
  ·split at e
   ·rename_i b xL
    obtain⟨h5,e⟩:=oD e
    exact I9 (M7 hc hb he d) (R:=Rx.s) (hb f b xL) (Nat.le_of_ble_eq_true h5) (cF _) hv hH e
   ·cases e)
def cO{α:Type}(a:α):α:=Classical.choose (⟨a,rfl⟩: ∃ x,x=a)
theorem ca{α:Type}(a:α):cO a=a:=Classical.choose_spec (⟨a,rfl⟩: ∃ x,x=a)
theorem nm{to:List Ty}{t:T (List Pl)}{y:cf to}{k:Bool}{m:cf to}(hk:k=oy to t)(hm:m=nA to t)(h:t.val=some (cp to y)):k=true/\m=y:=by
 rw[hk,hm]
 exact aem h
end Go.Ab.Lf

noncomputable section
namespace Go.Proofs
open Go.Ab Go.Ab.Lf
def exQ(f:Nat):Bool:=Nat.beq f 41||(Nat.beq f 56||(Nat.beq f 305||(Nat.beq f 132||(Nat.beq f 49||(Nat.beq f 50||(Nat.beq f 52||Nat.beq f 53))))))
def bkQ:FuncId->Option Ea:=fun f=>bif exQ f then none else Tryz.xs.get f
end Go.Proofs
namespace Go.Proofs.Vq
open Go.Ab Go.Ab.Lf
set_option maxRecDepth 100000
abbrev i64:Ty:=.int .i64
abbrev u64:Ty:=.int .u64
abbrev u32:Ty:=.int .u32
abbrev u8:Ty:=.int .u8
abbrev tI:Ty:=.pair i64 (.pair i64 (.pair i64 (.pair u64 (.pair u64 (.cq i64)))))
abbrev nd:Ty:=.pair (.cq i64) (.cq i64)
abbrev BC:Ty:=.pair .str (.pair .str i64)
abbrev uJ:Ty:=.pair i64 i64
abbrev BD:Ty:=.pair i64 (.pair .bool (.cq tI))
abbrev BE:Ty:=.pair .str (.pair i64 i64)
abbrev BG:Ty:=.pair (.cq tI) (.cq i64)
abbrev BH:Ty:=.pair (.cq i64) (.cq tI)
abbrev BI:Ty:=.pair (.cq tI) (.cq u8)
abbrev oi:Ty:=.pair i64 (.pair i64 u64)
abbrev pn:Ty:=.pair i64 (.pair i64 (.pair i64 (.pair i64 (.pair i64 (.pair (.cq oi) (.cq i64))))))
abbrev tEv:Ty:=.pair i64 (.cq u64)
abbrev tM:List Ty:=[.cq nd,.cq BC,.cq i64,.cq uJ,.cq uJ,.cq BD,.cq BE,i64,.cq BG,.cq BH,.cq BI]
abbrev Ps(l:List rI):rI:=l.foldr .cons .nil
def clQ:FuncId->Option Ty:=fun f=>bif Nat.beq f 67 then some u64 else bif Nat.beq f 70 then some i64 else none
def qh(l:List (Nat×nK))(m:Nat):pF:=aes clQ bkQ (adW l) m 12
def cA{α:Type}(c:Bool)(x:Option α):Option α:=bif c then x else none
theorem vc{b n:Nat}(hb:b<=64)(h:n<=1099511627776):roomy b n=true:=by
 rw[xw]
 refine⟨?_,by omega⟩
 calc n*b<=1099511627776*64:=Nat.mul_le_mul h hb
  _<=70368744177664:=by decide
def sP:nK:=⟨.nil,[],.nil,fun _=>.bad⟩
theorem nR{f:Nat}{cr:cu}:sP.Ok f cr:=fun _ _ _ _ _ _ _ e=>by cases e
abbrev tX(t:Ty):nK:=GW t
def Yx:nK:=pL (.cons (.im pn) .nil) [] (.cons (.ow pn) .nil) [.cq pn] [.cq pn] fun x=>.ck (decide (List.length x.1<=549755813888)) (.ok (x.1,()))
def lz(b:Nat)(x:Int):Int:=(b:Int) - (Go.Lib.bitLen x.toNat:Int)
def tz(b:Nat)(x:Int):Int:=(Go.Lib.ctz b x.toNat:Nat)
def sBt(k:IntKind)(F:Int->Int)(b:Int):nK:=pL (Ps [.n k]) [] (Ps [.n .i64]) [.int k] [i64] fun x=>.ck (decide (0<=(x.1:Int))&&decide ((x.1:Int)<=b)) (.ok (F x.1,()))
def s49:nK:=sBt .u32 (lz 32) 4294967295
def s50:nK:=sBt .u32 (tz 32) 4294967295
def s52:nK:=sBt .u64 (lz 64) 18446744073709551615
def s53:nK:=sBt .u64 (tz 64) 18446744073709551615
structure WQ(cr:cu):Prop where
 st: ∀ f b,bkQ f=some b->wP cr f b
 c67:(tX u64).Ok 67 cr
 c69:(tX nd).Ok 69 cr
 c70:(tX i64).Ok 70 cr
 c71:Yx.Ok 71 cr
 c72:(tX oi).Ok 72 cr
 aiK:(tX BC).Ok 116 cr
 aiL:(tX uJ).Ok 117 cr
 aiM:(tX BD).Ok 118 cr
 aiN:(tX BE).Ok 120 cr
 aiO:(tX BG).Ok 121 cr
 aiP:(tX BH).Ok 122 cr
 aiQ:(tX BI).Ok 123 cr
 aiR:(tX u8).Ok 124 cr
 aiS:(tX tI).Ok 221 cr
 b49:s49.Ok 49 cr
 b50:s50.Ok 50 cr
 b52:s52.Ok 52 cr
 b53:s53.Ok 53 cr
theorem WQ.cl{cr:cu}(W:WQ cr): ∀ f t,clQ f=some t->flat t=true/\(GW t).Ok f cr:=by
 intro f t h
 unfold clQ at h
 cases h1:Nat.beq f 67 with
 |true=>
  rw[h1]at h
  cases h
  obtain rfl:=Nat.eq_of_beq_eq_true h1
  exact⟨rfl,W.c67⟩
 |false=>
  rw[h1,cond_false]at h
  cases h2:Nat.beq f 70 with
  |true=>
   rw[h2]at h
   cases h
   obtain rfl:=Nat.eq_of_beq_eq_true h2
   exact⟨rfl,W.c70⟩
  |false=>rw[h2]at h;cases h
theorem WQ.in{cr:cu}(W:WQ cr){l:List (Nat×nK)}(h:n9 cr l)(m:Nat):yz (qh l m) cr:=M7 W.cl W.st h.ok 12
end Go.Proofs.Vq

noncomputable section
namespace Go.Proofs.Vq
open Go.Ab Go.Ab.Lf
set_option maxRecDepth 100000
abbrev Ts:List Ty:=[i64]
abbrev vE:List Ty:=[i64]
def e11:List (Nat×nK):=[]
theorem aet{cr:cu}(W:WQ cr):n9 cr e11:=.nil
def t11(x:cf Ts):Lf.T (List Pl):=q9 (Ps [.n .i64]) [] (Ps [.n .i64]) (fun _=>none) Tryz.DS 3 (qh e11 3) (cp Ts x)
def xz(x:cf Ts):Bool:=cO (oy vE (t11 x))
def m11(x:cf Ts):cf vE:=cO (nA vE (t11 x))
def s11:nK:=pL (Ps [.n .i64]) [] (Ps [.n .i64]) Ts vE fun x=>.ck (xz x) (.ok (m11 x))
theorem GX{cr:cu}(W:WQ cr):s11.Ok 11 cr:=
 cZ (W.in (aet W) 3) (W.st 11 _ rfl) rfl (cF _) (m:=3) rfl (fun _=>ca _) (fun _=>ca _)
abbrev xY:List Ty:=[.cq i64,i64,i64]
abbrev vF:List Ty:=[]
abbrev uv:List Ty:=[.bool]
def Yy:Am:=⟨0,xN Tryz.x83.code 0,[5,6,7],(Ps [.im i64,.n .i64,.n .i64]),[⟨.Ef,[],(Ps [])⟩,⟨.rt,[2],(Ps [.bo])⟩]⟩
def aiU:List (Nat×nK):=[]
theorem Yz{cr:cu}(W:WQ cr):n9 cr aiU:=.nil
def Du:List Pl->Lf.T Rs:=Yy.step (fun _=>none) (qh aiU 3) 3
def aiV:qV:=Pu Yy Du xY vF uv
theorem YA{cr:cu}(W:WQ cr):rQ Rx.w aiV (fun n d=>sF (cr n d) n (.bl 0 (.lp Yy.body))):=zS (W.in (Yz W) 3) (cF _) (m:=3) xY vF uv
def L83:Nat->Option qV:=Je [(0,aiV)]
abbrev Tt:List Ty:=[.cq i64]
abbrev Jl:List Ty:=[.bool]
def e83:List (Nat×nK):=[]
theorem aeu{cr:cu}(W:WQ cr):n9 cr e83:=.nil
def t83(x:cf Tt):Lf.T (List Pl):=q9 (Ps [.im i64]) [] (Ps [.bo]) L83 Tryz.x83 3 (qh e83 3) (cp Tt x)
def k83(x:cf Tt):Bool:=cO (oy Jl (t83 x))
def m83(x:cf Tt):cf Jl:=cO (nA Jl (t83 x))
def s83:nK:=pL (Ps [.im i64]) [] (Ps [.bo]) Tt Jl fun x=>.ck (k83 x) (.ok (m83 x))
theorem aev{cr:cu}(W:WQ cr):s83.Ok 83 cr:=
 cZ (W.in (aeu W) 3) (W.st 83 _ rfl) rfl (vD.xx (.cons (b:=Yy.body) (by kernel_rfl) (YA W) .nil)) (m:=3) rfl (fun _=>ca _) (fun _=>ca _)
abbrev Jm:List Ty:=[i64]
abbrev ou:List Ty:=[.bool]
def aiW:List (Nat×nK):=[(11,s11)]
theorem YB{cr:cu}(W:WQ cr):n9 cr aiW:=(.cons (GX W) .nil)
def t245(x:cf Jm):Lf.T (List Pl):=q9 (Ps [.n .i64]) [] (Ps [.bo]) (fun _=>none) Tryz.aim 3 (qh aiW 3) (cp Jm x)
def YC(x:cf Jm):Bool:=cO (oy ou (t245 x))
def YD(x:cf Jm):cf ou:=cO (nA ou (t245 x))
def aiX:nK:=pL (Ps [.n .i64]) [] (Ps [.bo]) Jm ou fun x=>.ck (YC x) (.ok (YD x))
theorem YE{cr:cu}(W:WQ cr):aiX.Ok 245 cr:=
 cZ (W.in (YB W) 3) (W.st 245 _ rfl) rfl (cF _) (m:=3) rfl (fun _=>ca _) (fun _=>ca _)
abbrev Jn:List Ty:=[.cq nd,.cq pn,i64,i64,i64,i64,i64,.cq oi,.cq i64,i64,i64,i64,u64]
abbrev sZ:List Ty:=[.bool]
def aiY:List (Nat×nK):=[(245,aiX)]
theorem YF{cr:cu}(W:WQ cr):n9 cr aiY:=(.cons (YE W) .nil)
def t141(x:cf Jn):Lf.T (List Pl):=q9 (Ps [.ag (Ps [.im nd,.im pn]),.zp (Ps [.n .i64,.n .i64,.n .i64,.n .i64,.n .i64,.im oi,.im i64]),.n .i64,.ag (Ps [.n .i64,.n .i64,.n .u64])]) [] (Ps [.bo]) (fun _=>none) Tryz.aid 3 (qh aiY 3) (cp Jn x)
def YG(x:cf Jn):Bool:=cO (oy sZ (t141 x))
def YH(x:cf Jn):cf sZ:=cO (nA sZ (t141 x))
def aiZ:nK:=pL (Ps [.ag (Ps [.im nd,.im pn]),.zp (Ps [.n .i64,.n .i64,.n .i64,.n .i64,.n .i64,.im oi,.im i64]),.n .i64,.ag (Ps [.n .i64,.n .i64,.n .u64])]) [] (Ps [.bo]) Jn sZ fun x=>.ck (YG x) (.ok (YH x))
theorem YI{cr:cu}(W:WQ cr):aiZ.Ok 141 cr:=
 cZ (W.in (YF W) 3) (W.st 141 _ rfl) rfl (cF _) (m:=3) rfl (fun _=>ca _) (fun _=>ca _)
abbrev xZ:List Ty:=[i64,i64,i64,i64,i64,.cq oi,.cq i64,.cq nd,.cq pn,.cq oi,i64,i64]
abbrev vG:List Ty:=[]
abbrev uw:List Ty:=[.bool]
def YJ:Am:=⟨0,xN Tryz.x84.code 0,[1,2,87,88,89],(Ps [.zp (Ps [.n .i64,.n .i64,.n .i64,.n .i64,.n .i64,.im oi,.im i64]),.pt 0 (Ps [.im nd,.im pn]),.im oi,.n .i64,.n .i64]),[⟨.Ef,[],(Ps [])⟩,⟨.rt,[4],(Ps [.bo])⟩]⟩
def ai0:List (Nat×nK):=[(141,aiZ)]
theorem YK{cr:cu}(W:WQ cr):n9 cr ai0:=(.cons (YI W) .nil)
def Dv:List Pl->Lf.T Rs:=YJ.step (fun _=>none) (qh ai0 3) 3
def ai1:qV:=Pu YJ Dv xZ vG uw
theorem YL{cr:cu}(W:WQ cr):rQ Rx.w ai1 (fun n d=>sF (cr n d) n (.bl 0 (.lp YJ.body))):=zS (W.in (YK W) 3) (cF _) (m:=3) xZ vG uw
def L84:Nat->Option qV:=Je [(0,ai1)]
abbrev Tu:List Ty:=[.cq nd,.cq pn,i64,i64,i64,i64,i64,.cq oi,.cq i64]
abbrev BJ:List Ty:=[.bool]
def e84:List (Nat×nK):=[]
theorem aew{cr:cu}(W:WQ cr):n9 cr e84:=.nil
def t84(x:cf Tu):Lf.T (List Pl):=q9 (Ps [.ag (Ps [.im nd,.im pn]),.zp (Ps [.n .i64,.n .i64,.n .i64,.n .i64,.n .i64,.im oi,.im i64])]) [] (Ps [.bo]) L84 Tryz.x84 3 (qh e84 3) (cp Tu x)
def k84(x:cf Tu):Bool:=cO (oy BJ (t84 x))
def m84(x:cf Tu):cf BJ:=cO (nA BJ (t84 x))
def s84:nK:=pL (Ps [.ag (Ps [.im nd,.im pn]),.zp (Ps [.n .i64,.n .i64,.n .i64,.n .i64,.n .i64,.im oi,.im i64])]) [] (Ps [.bo]) Tu BJ fun x=>.ck (k84 x) (.ok (m84 x))
theorem aex{cr:cu}(W:WQ cr):s84.Ok 84 cr:=
 cZ (W.in (aew W) 3) (W.st 84 _ rfl) rfl (vD.xx (.cons (b:=YJ.body) (by kernel_rfl) (YL W) .nil)) (m:=3) rfl (fun _=>ca _) (fun _=>ca _)
abbrev qX:List Ty:=[.cq nd,.cq pn,.cq nd,i64,i64]
abbrev po:List Ty:=[.cq nd,.cq pn]
abbrev rE:List Ty:=[i64]
def YM:Am:=⟨0,xN Tryz.x34.code 0,[1,7,8,9],(Ps [.pt 0 (Ps [.im nd,.im pn]),.im nd,.n .i64,.n .i64]),[⟨.Ef,[1],(Ps [.pt 0 (Ps [.im nd,.im pn])])⟩,⟨.rt,[2],(Ps [.n .i64])⟩]⟩
def ai2:List (Nat×nK):=[(83,s83)]
theorem YN{cr:cu}(W:WQ cr):n9 cr ai2:=(.cons (aev W) .nil)
def f340:List Pl->Lf.T Rs:=YM.step (fun _=>none) (qh ai2 3) 3
def ai3:qV:=Pu YM f340 qX po rE
theorem YO{cr:cu}(W:WQ cr):rQ Rx.w ai3 (fun n d=>sF (cr n d) n (.bl 0 (.lp YM.body))):=zS (W.in (YN W) 3) (cF _) (m:=3) qX po rE
abbrev ve:List Ty:=[.cq nd,.cq pn,i64,i64]
abbrev ux:List Ty:=[]
abbrev rW:List Ty:=[i64]
def YP:Am:=⟨2,xN Tryz.x34.code 2,[1,26,27],(Ps [.pt 0 (Ps [.im nd,.im pn]),.n .i64,.n .i64]),[⟨.Ef,[],(Ps [])⟩,⟨.rt,[2],(Ps [.n .i64])⟩]⟩
def ai4:List (Nat×nK):=[(84,s84)]
theorem YQ{cr:cu}(W:WQ cr):n9 cr ai4:=(.cons (aex W) .nil)
def f342:List Pl->Lf.T Rs:=YP.step (fun _=>none) (qh ai4 3) 3
def ai5:qV:=Pu YP f342 ve ux rW
theorem YR{cr:cu}(W:WQ cr):rQ Rx.w ai5 (fun n d=>sF (cr n d) n (.bl 2 (.lp YP.body))):=zS (W.in (YQ W) 3) (cF _) (m:=3) ve ux rW
def L34:Nat->Option qV:=Je [(0,ai3),(2,ai5)]
abbrev Tv:List Ty:=[.cq nd,.cq pn]
abbrev BK:List Ty:=[i64]
def e34:List (Nat×nK):=[]
theorem aey{cr:cu}(W:WQ cr):n9 cr e34:=.nil
def t34(x:cf Tv):Lf.T (List Pl):=q9 (Ps [.ag (Ps [.im nd,.im pn])]) [] (Ps [.n .i64]) L34 Tryz.x34 3 (qh e34 3) (cp Tv x)
def k34(x:cf Tv):Bool:=cO (oy BK (t34 x))
def m34(x:cf Tv):cf BK:=cO (nA BK (t34 x))
def s34:nK:=pL (Ps [.ag (Ps [.im nd,.im pn])]) [] (Ps [.n .i64]) Tv BK fun x=>.ck (k34 x) (.ok (m34 x))
theorem aez{cr:cu}(W:WQ cr):s34.Ok 34 cr:=
 cZ (W.in (aey W) 3) (W.st 34 _ rfl) rfl (vD.xx (.cons (b:=YM.body) (by kernel_rfl) (YO W) (.cons (b:=YP.body) (by kernel_rfl) (YR W) .nil))) (m:=3) rfl (fun _=>ca _) (fun _=>ca _)
end Go.Proofs.Vq

noncomputable section
namespace Go.Proofs.Vq
open Go.Ab Go.Ab.Lf
set_option maxRecDepth 100000
abbrev Eh(b:Nat):rI:=.pt b (Ps [.ow u64,.im i64,.im i64,.im i64,.im nd,.im BC,.im i64,.im uJ,.im uJ,.im BD,.im BE,.n .i64,.im BG,.im BH,.im BI,.av (.sc (.pointer none))])
abbrev YS(c:Nat):rI:=.pt c (Ps [.ow u64,.ow tEv,.n .u32])
abbrev Ly(b c d:Nat):rI:=.pt d (Ps [.im nd,.im pn,Eh b,YS c,.im nd,.im BC,.im i64,.im uJ,.im uJ,.im BD,.im BE,.n .i64,.im BG,.im BH,.im BI,.bo])
abbrev GY(b c d e:Nat):rI:=.pt e (Ps [Ly b c d,.n .i64,.n .i64,.n .i64,.n .i64])
abbrev pFn:rI:=.zp (Ps [.n .i64,.n .i64,.n .i64,.n .i64,.n .i64,.im oi,.im i64])
abbrev qF(b c d e f:Nat):rI:=.pt f (Ps [GY b c d e,pFn,.n .i64,.ow u64,.ow u64])
abbrev sQ(l:List Ty):List Ty:=.cq nd::.cq BC::.cq i64::.cq uJ::.cq uJ::.cq BD::.cq BE::i64::.cq BG::.cq BH::.cq BI::l
abbrev BL(l:List Ty):List Ty:=.cq u64::.cq i64::.cq i64::.cq i64::sQ l
abbrev ug(l:List Ty):List Ty:=.cq u64::.cq tEv::u32::l
abbrev Ei(l:List Ty):List Ty:=.cq nd::.cq pn::BL (ug (sQ (.bool::l)))
abbrev AY(l:List Ty):List Ty:=Ei (i64::i64::i64::i64::l)
abbrev GZ(l:List Ty):List Ty:=i64::i64::i64::i64::i64::.cq oi::.cq i64::l
abbrev G1(l:List Ty):List Ty:=AY (GZ (i64::.cq u64::.cq u64::l))
structure Sto where
 Jo:List Int
 small:List Int
 first:List Int
 tab:List Int
 mod:cf tM
structure Hos where
 rep:List Int
 log:List (den tEv)
 code:Int
structure Pw where
 sigs:List (den nd)
 fns:List (den pn)
 s:Sto
 h:Hos
 mod:cf tM
 bad:Bool
structure Rn where
 m:Pw
 fuel:Int
 arG:Int
 depth:Int
 err:Int
structure xA where
 r:Rn
 f:den pn
 pc:Int
 st:List Int
 lo:List Int
abbrev BM(l:List Ty)(y:cf tM)(r:cf l):cf (sQ l):=(y.1,y.2.1,y.2.2.1,y.2.2.2.1,y.2.2.2.2.1,y.2.2.2.2.2.1,y.2.2.2.2.2.2.1,y.2.2.2.2.2.2.2.1,y.2.2.2.2.2.2.2.2.1,y.2.2.2.2.2.2.2.2.2.1,y.2.2.2.2.2.2.2.2.2.2.1,r)
abbrev uL(l:List Ty)(s:Sto)(r:cf l):cf (BL l):=(s.Jo,s.small,s.first,s.tab,BM l s.mod r)
abbrev wT(l:List Ty)(s:Hos)(r:cf l):cf (ug l):=(s.rep,s.log,s.code,r)
abbrev qG(l:List Ty)(s:Pw)(r:cf l):cf (Ei l):=(s.sigs,s.fns,uL (ug (sQ (.bool::l))) s.s (wT (sQ (.bool::l)) s.h (BM (.bool::l) s.mod (s.bad,r))))
abbrev zU(l:List Ty)(s:Rn)(r:cf l):cf (AY l):=qG (i64::i64::i64::i64::l) s.m (s.fuel,s.arG,s.depth,s.err,r)
abbrev cFn(l:List Ty)(f:den pn)(r:cf l):cf (GZ l):=(f.1,f.2.1,f.2.2.1,f.2.2.2.1,f.2.2.2.2.1,f.2.2.2.2.2.1,f.2.2.2.2.2.2,r)
abbrev cy(l:List Ty)(x:xA)(r:cf l):cf (G1 l):=zU (GZ (i64::.cq u64::.cq u64::l)) x.r (cFn (i64::.cq u64::.cq u64::l) x.f (x.pc,x.st,x.lo,r))
def rnO(y:cf (AY [])):Rn:=⟨⟨y.1,y.2.1,⟨y.2.2.1,y.2.2.2.1,y.2.2.2.2.1,y.2.2.2.2.2.1,(y.2.2.2.2.2.2.1,y.2.2.2.2.2.2.2.1,y.2.2.2.2.2.2.2.2.1,y.2.2.2.2.2.2.2.2.2.1,y.2.2.2.2.2.2.2.2.2.2.1,y.2.2.2.2.2.2.2.2.2.2.2.1,y.2.2.2.2.2.2.2.2.2.2.2.2.1,y.2.2.2.2.2.2.2.2.2.2.2.2.2.1,y.2.2.2.2.2.2.2.2.2.2.2.2.2.2.1,y.2.2.2.2.2.2.2.2.2.2.2.2.2.2.2.1,y.2.2.2.2.2.2.2.2.2.2.2.2.2.2.2.2.1,())⟩,⟨y.2.2.2.2.2.2.2.2.2.2.2.2.2.2.2.2.2.1,y.2.2.2.2.2.2.2.2.2.2.2.2.2.2.2.2.2.2.1,y.2.2.2.2.2.2.2.2.2.2.2.2.2.2.2.2.2.2.2.1⟩,(y.2.2.2.2.2.2.2.2.2.2.2.2.2.2.2.2.2.2.2.2.1,y.2.2.2.2.2.2.2.2.2.2.2.2.2.2.2.2.2.2.2.2.2.1,y.2.2.2.2.2.2.2.2.2.2.2.2.2.2.2.2.2.2.2.2.2.2.1,y.2.2.2.2.2.2.2.2.2.2.2.2.2.2.2.2.2.2.2.2.2.2.2.1,y.2.2.2.2.2.2.2.2.2.2.2.2.2.2.2.2.2.2.2.2.2.2.2.2.1,y.2.2.2.2.2.2.2.2.2.2.2.2.2.2.2.2.2.2.2.2.2.2.2.2.2.1,y.2.2.2.2.2.2.2.2.2.2.2.2.2.2.2.2.2.2.2.2.2.2.2.2.2.2.1,y.2.2.2.2.2.2.2.2.2.2.2.2.2.2.2.2.2.2.2.2.2.2.2.2.2.2.2.1,y.2.2.2.2.2.2.2.2.2.2.2.2.2.2.2.2.2.2.2.2.2.2.2.2.2.2.2.2.1,y.2.2.2.2.2.2.2.2.2.2.2.2.2.2.2.2.2.2.2.2.2.2.2.2.2.2.2.2.2.1,y.2.2.2.2.2.2.2.2.2.2.2.2.2.2.2.2.2.2.2.2.2.2.2.2.2.2.2.2.2.2.1,()),y.2.2.2.2.2.2.2.2.2.2.2.2.2.2.2.2.2.2.2.2.2.2.2.2.2.2.2.2.2.2.2.1⟩,y.2.2.2.2.2.2.2.2.2.2.2.2.2.2.2.2.2.2.2.2.2.2.2.2.2.2.2.2.2.2.2.2.1,y.2.2.2.2.2.2.2.2.2.2.2.2.2.2.2.2.2.2.2.2.2.2.2.2.2.2.2.2.2.2.2.2.2.1,y.2.2.2.2.2.2.2.2.2.2.2.2.2.2.2.2.2.2.2.2.2.2.2.2.2.2.2.2.2.2.2.2.2.2.1,y.2.2.2.2.2.2.2.2.2.2.2.2.2.2.2.2.2.2.2.2.2.2.2.2.2.2.2.2.2.2.2.2.2.2.2.1⟩
def cK(y:cf (G1 [])):xA:=⟨⟨⟨y.1,y.2.1,⟨y.2.2.1,y.2.2.2.1,y.2.2.2.2.1,y.2.2.2.2.2.1,(y.2.2.2.2.2.2.1,y.2.2.2.2.2.2.2.1,y.2.2.2.2.2.2.2.2.1,y.2.2.2.2.2.2.2.2.2.1,y.2.2.2.2.2.2.2.2.2.2.1,y.2.2.2.2.2.2.2.2.2.2.2.1,y.2.2.2.2.2.2.2.2.2.2.2.2.1,y.2.2.2.2.2.2.2.2.2.2.2.2.2.1,y.2.2.2.2.2.2.2.2.2.2.2.2.2.2.1,y.2.2.2.2.2.2.2.2.2.2.2.2.2.2.2.1,y.2.2.2.2.2.2.2.2.2.2.2.2.2.2.2.2.1,())⟩,⟨y.2.2.2.2.2.2.2.2.2.2.2.2.2.2.2.2.2.1,y.2.2.2.2.2.2.2.2.2.2.2.2.2.2.2.2.2.2.1,y.2.2.2.2.2.2.2.2.2.2.2.2.2.2.2.2.2.2.2.1⟩,(y.2.2.2.2.2.2.2.2.2.2.2.2.2.2.2.2.2.2.2.2.1,y.2.2.2.2.2.2.2.2.2.2.2.2.2.2.2.2.2.2.2.2.2.1,y.2.2.2.2.2.2.2.2.2.2.2.2.2.2.2.2.2.2.2.2.2.2.1,y.2.2.2.2.2.2.2.2.2.2.2.2.2.2.2.2.2.2.2.2.2.2.2.1,y.2.2.2.2.2.2.2.2.2.2.2.2.2.2.2.2.2.2.2.2.2.2.2.2.1,y.2.2.2.2.2.2.2.2.2.2.2.2.2.2.2.2.2.2.2.2.2.2.2.2.2.1,y.2.2.2.2.2.2.2.2.2.2.2.2.2.2.2.2.2.2.2.2.2.2.2.2.2.2.1,y.2.2.2.2.2.2.2.2.2.2.2.2.2.2.2.2.2.2.2.2.2.2.2.2.2.2.2.1,y.2.2.2.2.2.2.2.2.2.2.2.2.2.2.2.2.2.2.2.2.2.2.2.2.2.2.2.2.1,y.2.2.2.2.2.2.2.2.2.2.2.2.2.2.2.2.2.2.2.2.2.2.2.2.2.2.2.2.2.1,y.2.2.2.2.2.2.2.2.2.2.2.2.2.2.2.2.2.2.2.2.2.2.2.2.2.2.2.2.2.2.1,()),y.2.2.2.2.2.2.2.2.2.2.2.2.2.2.2.2.2.2.2.2.2.2.2.2.2.2.2.2.2.2.2.1⟩,y.2.2.2.2.2.2.2.2.2.2.2.2.2.2.2.2.2.2.2.2.2.2.2.2.2.2.2.2.2.2.2.2.1,y.2.2.2.2.2.2.2.2.2.2.2.2.2.2.2.2.2.2.2.2.2.2.2.2.2.2.2.2.2.2.2.2.2.1,y.2.2.2.2.2.2.2.2.2.2.2.2.2.2.2.2.2.2.2.2.2.2.2.2.2.2.2.2.2.2.2.2.2.2.1,y.2.2.2.2.2.2.2.2.2.2.2.2.2.2.2.2.2.2.2.2.2.2.2.2.2.2.2.2.2.2.2.2.2.2.2.1⟩,(y.2.2.2.2.2.2.2.2.2.2.2.2.2.2.2.2.2.2.2.2.2.2.2.2.2.2.2.2.2.2.2.2.2.2.2.2.1,y.2.2.2.2.2.2.2.2.2.2.2.2.2.2.2.2.2.2.2.2.2.2.2.2.2.2.2.2.2.2.2.2.2.2.2.2.2.1,y.2.2.2.2.2.2.2.2.2.2.2.2.2.2.2.2.2.2.2.2.2.2.2.2.2.2.2.2.2.2.2.2.2.2.2.2.2.2.1,y.2.2.2.2.2.2.2.2.2.2.2.2.2.2.2.2.2.2.2.2.2.2.2.2.2.2.2.2.2.2.2.2.2.2.2.2.2.2.2.1,y.2.2.2.2.2.2.2.2.2.2.2.2.2.2.2.2.2.2.2.2.2.2.2.2.2.2.2.2.2.2.2.2.2.2.2.2.2.2.2.2.1,y.2.2.2.2.2.2.2.2.2.2.2.2.2.2.2.2.2.2.2.2.2.2.2.2.2.2.2.2.2.2.2.2.2.2.2.2.2.2.2.2.2.1,y.2.2.2.2.2.2.2.2.2.2.2.2.2.2.2.2.2.2.2.2.2.2.2.2.2.2.2.2.2.2.2.2.2.2.2.2.2.2.2.2.2.2.1),y.2.2.2.2.2.2.2.2.2.2.2.2.2.2.2.2.2.2.2.2.2.2.2.2.2.2.2.2.2.2.2.2.2.2.2.2.2.2.2.2.2.2.2.1,y.2.2.2.2.2.2.2.2.2.2.2.2.2.2.2.2.2.2.2.2.2.2.2.2.2.2.2.2.2.2.2.2.2.2.2.2.2.2.2.2.2.2.2.2.1,y.2.2.2.2.2.2.2.2.2.2.2.2.2.2.2.2.2.2.2.2.2.2.2.2.2.2.2.2.2.2.2.2.2.2.2.2.2.2.2.2.2.2.2.2.2.1⟩
end Go.Proofs.Vq

noncomputable section
namespace Go.Proofs.Vq
open Go.Ab Go.Ab.Lf
set_option maxRecDepth 100000
abbrev Tw:List Ty:=[i64,u64,u64]
abbrev cT:List Ty:=[u64,i64]
def e12:List (Nat×nK):=[(11,s11)]
theorem aeA{cr:cu}(W:WQ cr):n9 cr e12:=(.cons (GX W) .nil)
def t12(x:cf Tw):Lf.T (List Pl):=q9 (Ps [.n .i64,.n .u64,.n .u64]) [] (Ps [.tu (Ps [.n .u64,.n .i64])]) (fun _=>none) Tryz.Kh 3 (qh e12 3) (cp Tw x)
def G2(x:cf Tw):Bool:=cO (oy cT (t12 x))
def m12(x:cf Tw):cf cT:=cO (nA cT (t12 x))
def s12:nK:=pL (Ps [.n .i64,.n .u64,.n .u64]) [] (Ps [.tu (Ps [.n .u64,.n .i64])]) Tw cT fun x=>.ck (G2 x) (.ok (m12 x))
theorem aeB{cr:cu}(W:WQ cr):s12.Ok 12 cr:=
 cZ (W.in (aeA W) 3) (W.st 12 _ rfl) rfl (cF _) (m:=3) rfl (fun _=>ca _) (fun _=>ca _)
abbrev Tx:List Ty:=[u32]
abbrev Tz:List Ty:=[i64]
def e51:List (Nat×nK):=[]
theorem aeC{cr:cu}(W:WQ cr):n9 cr e51:=.nil
def t51(x:cf Tx):Lf.T (List Pl):=q9 (Ps [.n .u32]) [] (Ps [.n .i64]) (fun _=>none) Tryz.x51 3 (qh e51 3) (cp Tx x)
def k51(x:cf Tx):Bool:=cO (oy Tz (t51 x))
def m51(x:cf Tx):cf Tz:=cO (nA Tz (t51 x))
def s51:nK:=pL (Ps [.n .u32]) [] (Ps [.n .i64]) Tx Tz fun x=>.ck (k51 x) (.ok (m51 x))
theorem aeD{cr:cu}(W:WQ cr):s51.Ok 51 cr:=
 cZ (W.in (aeC W) 3) (W.st 51 _ rfl) rfl (cF _) (m:=3) rfl (fun _=>ca _) (fun _=>ca _)
abbrev TA:List Ty:=[u64]
abbrev Lz:List Ty:=[i64]
def e54:List (Nat×nK):=[]
theorem aeE{cr:cu}(W:WQ cr):n9 cr e54:=.nil
def t54(x:cf TA):Lf.T (List Pl):=q9 (Ps [.n .u64]) [] (Ps [.n .i64]) (fun _=>none) Tryz.x54 3 (qh e54 3) (cp TA x)
def k54(x:cf TA):Bool:=cO (oy Lz (t54 x))
def m54(x:cf TA):cf Lz:=cO (nA Lz (t54 x))
def s54:nK:=pL (Ps [.n .u64]) [] (Ps [.n .i64]) TA Lz fun x=>.ck (k54 x) (.ok (m54 x))
theorem TB{cr:cu}(W:WQ cr):s54.Ok 54 cr:=
 cZ (W.in (aeE W) 3) (W.st 54 _ rfl) rfl (cF _) (m:=3) rfl (fun _=>ca _) (fun _=>ca _)
abbrev TC:List Ty:=[i64,u64]
abbrev qS:List Ty:=[u64,i64]
def e13:List (Nat×nK):=[(49,s49),(50,s50),(52,s52),(53,s53),(11,s11),(51,s51),(54,s54)]
theorem aeF{cr:cu}(W:WQ cr):n9 cr e13:=(.cons W.b49 (.cons W.b50 (.cons W.b52 (.cons W.b53 (.cons (GX W) (.cons (aeD W) (.cons (TB W) .nil)))))))
def t13(x:cf TC):Lf.T (List Pl):=q9 (Ps [.n .i64,.n .u64]) [] (Ps [.tu (Ps [.n .u64,.n .i64])]) (fun _=>none) Tryz.M5 3 (qh e13 3) (cp TC x)
def VV(x:cf TC):Bool:=cO (oy qS (t13 x))
def m13(x:cf TC):cf qS:=cO (nA qS (t13 x))
def s13:nK:=pL (Ps [.n .i64,.n .u64]) [] (Ps [.tu (Ps [.n .u64,.n .i64])]) TC qS fun x=>.ck (VV x) (.ok (m13 x))
theorem aeG{cr:cu}(W:WQ cr):s13.Ok 13 cr:=
 cZ (W.in (aeF W) 3) (W.st 13 _ rfl) rfl (cF _) (m:=3) rfl (fun _=>ca _) (fun _=>ca _)
abbrev Jp:List Ty:=G1 [i64,i64]
abbrev Dw:List Ty:=.bool::G1 []
def ai7:List (Nat×nK):=[]
theorem YT{cr:cu}(W:WQ cr):n9 cr ai7:=.nil
def t232(x:cf Jp):Lf.T (List Pl):=q9 (Ps [qF 0 0 0 0 0,.n .i64,.n .i64]) [37] (Ps [.bo,qF 17 20 31 32 37]) (fun _=>none) Tryz.aii 3 (qh ai7 3) (cp Jp x)
def th(x:cf Jp):Bool:=cO (oy Dw (t232 x))
def ct(x:cf Jp):cf Dw:=cO (nA Dw (t232 x))
def LA:nK:=pL (Ps [qF 0 0 0 0 0,.n .i64,.n .i64]) [37] (Ps [.bo,qF 17 20 31 32 37]) Jp Dw fun x=>.ck (th x) (.ok (ct x))
theorem xB{cr:cu}(W:WQ cr):LA.Ok 232 cr:=
 cZ (W.in (YT W) 3) (W.st 232 _ rfl) rfl (cF _) (m:=3) rfl (fun _=>ca _) (fun _=>ca _)
abbrev Jq:List Ty:=G1 [i64,i64,u64]
abbrev qH:List Ty:=G1 []
def ai8:List (Nat×nK):=[(232,LA)]
theorem YU{cr:cu}(W:WQ cr):n9 cr ai8:=(.cons (xB W) .nil)
def t307(x:cf Jq):Lf.T (List Pl):=q9 (Ps [qF 0 0 0 0 0,.ag (Ps [.n .i64,.n .i64,.n .u64])]) [37] (Ps [.tu .nil,qF 17 20 31 32 37]) (fun _=>none) Tryz.aiu 3 (qh ai8 3) (cp Jq x)
def aeH(x:cf Jq):Bool:=cO (oy qH (t307 x))
def aeI(x:cf Jq):cf qH:=cO (nA qH (t307 x))
def ai9:nK:=pL (Ps [qF 0 0 0 0 0,.ag (Ps [.n .i64,.n .i64,.n .u64])]) [37] (Ps [.tu .nil,qF 17 20 31 32 37]) Jq qH fun x=>.ck (aeH x) (.ok (aeI x))
theorem YV{cr:cu}(W:WQ cr):ai9.Ok 307 cr:=
 cZ (W.in (YU W) 3) (W.st 307 _ rfl) rfl (cF _) (m:=3) rfl (fun _=>ca _) (fun _=>ca _)
abbrev Jr:List Ty:=G1 [i64,i64,u64]
abbrev M8:List Ty:=G1 []
def ai':List (Nat×nK):=[(232,LA),(353,sP),(354,sP),(355,sP)]
theorem YW{cr:cu}(W:WQ cr):n9 cr ai':=(.cons (xB W) (.cons nR (.cons nR (.cons nR .nil))))
def t308(x:cf Jr):Lf.T (List Pl):=q9 (Ps [qF 0 0 0 0 0,.ag (Ps [.n .i64,.n .i64,.n .u64])]) [37] (Ps [.tu .nil,qF 17 20 31 32 37]) (fun _=>none) Tryz.aiv 3 (qh ai' 3) (cp Jr x)
def aja(x:cf Jr):Bool:=cO (oy M8 (t308 x))
def ajb(x:cf Jr):cf M8:=cO (nA M8 (t308 x))
def ajc:nK:=pL (Ps [qF 0 0 0 0 0,.ag (Ps [.n .i64,.n .i64,.n .u64])]) [37] (Ps [.tu .nil,qF 17 20 31 32 37]) Jr M8 fun x=>.ck (aja x) (.ok (ajb x))
theorem YX{cr:cu}(W:WQ cr):ajc.Ok 308 cr:=
 cZ (W.in (YW W) 3) (W.st 308 _ rfl) rfl (cF _) (m:=3) rfl (fun _=>ca _) (fun _=>ca _)
abbrev Js:List Ty:=G1 [i64]
abbrev M9:List Ty:=G1 []
def ajd:List (Nat×nK):=[]
theorem YY{cr:cu}(W:WQ cr):n9 cr ajd:=.nil
def t231(x:cf Js):Lf.T (List Pl):=q9 (Ps [qF 0 0 0 0 0,.n .i64]) [37] (Ps [.tu .nil,qF 17 20 31 32 37]) (fun _=>none) Tryz.aih 3 (qh ajd 3) (cp Js x)
def aeJ(x:cf Js):Bool:=cO (oy M9 (t231 x))
def aeK(x:cf Js):cf M9:=cO (nA M9 (t231 x))
def aje:nK:=pL (Ps [qF 0 0 0 0 0,.n .i64]) [37] (Ps [.tu .nil,qF 17 20 31 32 37]) Js M9 fun x=>.ck (aeJ x) (.ok (aeK x))
theorem YZ{cr:cu}(W:WQ cr):aje.Ok 231 cr:=
 cZ (W.in (YY W) 3) (W.st 231 _ rfl) rfl (cF _) (m:=3) rfl (fun _=>ca _) (fun _=>ca _)
abbrev Jt:List Ty:=G1 [i64,i64,u64]
abbrev pH:List Ty:=G1 []
def ajf:List (Nat×nK):=[(232,LA),(307,ai9),(308,ajc),(305,sP),(11,s11),(12,s12),(13,s13)]
theorem Y0{cr:cu}(W:WQ cr):n9 cr ajf:=(.cons (xB W) (.cons (YV W) (.cons (YX W) (.cons nR (.cons (GX W) (.cons (aeB W) (.cons (aeG W) .nil)))))))
def t236(x:cf Jt):Lf.T (List Pl):=q9 (Ps [qF 0 0 0 0 0,.ag (Ps [.n .i64,.n .i64,.n .u64])]) [37] (Ps [.tu .nil,qF 17 20 31 32 37]) (fun _=>none) Tryz.ail 3 (qh ajf 3) (cp Jt x)
def Ej(x:cf Jt):Bool:=cO (oy pH (t236 x))
def Dx(x:cf Jt):cf pH:=cO (nA pH (t236 x))
def ajg:nK:=pL (Ps [qF 0 0 0 0 0,.ag (Ps [.n .i64,.n .i64,.n .u64])]) [37] (Ps [.tu .nil,qF 17 20 31 32 37]) Jt pH fun x=>.ck (Ej x) (.ok (Dx x))
theorem Y1{cr:cu}(W:WQ cr):ajg.Ok 236 cr:=
 cZ (W.in (Y0 W) 3) (W.st 236 _ rfl) rfl (cF _) (m:=3) rfl (fun _=>ca _) (fun _=>ca _)
abbrev Cg:=(cf (AY [i64,.cq u64])->Bool)×(cf (AY [i64,.cq u64])->cf (.cq u64::AY []))
def sG(g:Cg):nK:=pL (Ps [GY 0 0 0 0,.n .i64,.im u64]) [32] (Ps [.ow u64,GY 17 20 31 32]) (AY [i64,.cq u64]) (.cq u64::AY []) fun x=>.ck (g.1 x) (.ok (g.2 x))
abbrev Ju:List Ty:=G1 [i64]
abbrev Na:List Ty:=G1 []
def ajh(g:Cg):List (Nat×nK):=[(232,LA),(67,tX u64),(73,sG g)]
theorem Y2{g:Cg}{cr:cu}(W:WQ cr)(hg:(sG g).Ok 73 cr):n9 cr (ajh g):=(.cons (xB W) (.cons W.c67 (.cons hg .nil)))
def t234(g:Cg)(x:cf Ju):Lf.T (List Pl):=q9 (Ps [qF 0 0 0 0 0,.n .i64]) [37] (Ps [.tu .nil,qF 17 20 31 32 37]) (fun _=>none) Tryz.aij 3 (qh (ajh g) 3) (cp Ju x)
def aji(g:Cg)(x:cf Ju):Bool:=cO (oy Na (t234 g x))
def ajj(g:Cg)(x:cf Ju):cf Na:=cO (nA Na (t234 g x))
def aeL(g:Cg):nK:=pL (Ps [qF 0 0 0 0 0,.n .i64]) [37] (Ps [.tu .nil,qF 17 20 31 32 37]) Ju Na fun x=>.ck (aji g x) (.ok (ajj g x))
theorem Nb{g:Cg}{cr:cu}(W:WQ cr)(hg:(sG g).Ok 73 cr):(aeL g).Ok 234 cr:=
 cZ (W.in (Y2 W hg) 3) (W.st 234 _ rfl) rfl (cF _) (m:=3) rfl (fun _=>ca _) (fun _=>ca _)
abbrev Jv:List Ty:=G1 [i64]
abbrev Nc:List Ty:=G1 []
def ajk(g:Cg):List (Nat×nK):=[(232,LA),(234,aeL g)]
theorem Y3{g:Cg}{cr:cu}(W:WQ cr)(hg:(sG g).Ok 73 cr):n9 cr (ajk g):=(.cons (xB W) (.cons (Nb W hg) .nil))
def t235(g:Cg)(x:cf Jv):Lf.T (List Pl):=q9 (Ps [qF 0 0 0 0 0,.n .i64]) [37] (Ps [.tu .nil,qF 17 20 31 32 37]) (fun _=>none) Tryz.aik 3 (qh (ajk g) 3) (cp Jv x)
def ajl(g:Cg)(x:cf Jv):Bool:=cO (oy Nc (t235 g x))
def ajm(g:Cg)(x:cf Jv):cf Nc:=cO (nA Nc (t235 g x))
def ajn(g:Cg):nK:=pL (Ps [qF 0 0 0 0 0,.n .i64]) [37] (Ps [.tu .nil,qF 17 20 31 32 37]) Jv Nc fun x=>.ck (ajl g x) (.ok (ajm g x))
theorem Y4{g:Cg}{cr:cu}(W:WQ cr)(hg:(sG g).Ok 73 cr):(ajn g).Ok 235 cr:=
 cZ (W.in (Y3 W hg) 3) (W.st 235 _ rfl) rfl (cF _) (m:=3) rfl (fun _=>ca _) (fun _=>ca _)
abbrev Fl:List Ty:=G1 [i64,i64,u64]
abbrev sj:List Ty:=G1 []
def ajo(g:Cg):List (Nat×nK):=[(232,LA),(231,aje),(234,aeL g),(235,ajn g),(236,ajg)]
theorem Y5{g:Cg}{cr:cu}(W:WQ cr)(hg:(sG g).Ok 73 cr):n9 cr (ajo g):=(.cons (xB W) (.cons (YZ W) (.cons (Nb W hg) (.cons (Y4 W hg) (.cons (Y1 W) .nil)))))
def t134(g:Cg)(x:cf Fl):Lf.T (List Pl):=q9 (Ps [qF 0 0 0 0 0,.ag (Ps [.n .i64,.n .i64,.n .u64])]) [37] (Ps [.tu .nil,qF 17 20 31 32 37]) (fun _=>none) Tryz.aic 3 (qh (ajo g) 3) (cp Fl x)
def Px(g:Cg)(x:cf Fl):Bool:=cO (oy sj (t134 g x))
def Py(g:Cg)(x:cf Fl):cf sj:=cO (nA sj (t134 g x))
def ajp(g:Cg):nK:=pL (Ps [qF 0 0 0 0 0,.ag (Ps [.n .i64,.n .i64,.n .u64])]) [37] (Ps [.tu .nil,qF 17 20 31 32 37]) Fl sj fun x=>.ck (Px g x) (.ok (Py g x))
theorem Y6{g:Cg}{cr:cu}(W:WQ cr)(hg:(sG g).Ok 73 cr):(ajp g).Ok 134 cr:=
 cZ (W.in (Y5 W hg) 3) (W.st 134 _ rfl) rfl (cF _) (m:=3) rfl (fun _=>ca _) (fun _=>ca _)
end Go.Proofs.Vq

noncomputable section
namespace Go.Proofs.Vq
open Go.Ab Go.Ab.Lf
set_option maxRecDepth 100000
abbrev rF:List Ty:=AY (GZ (GZ [i64,.cq u64,.cq u64]))
abbrev qo:List Ty:=AY (GZ [i64,.cq u64,.cq u64])
def Y7:Am:=⟨0,xN Tryz.x73.code 0,[0,7,8],(Ps [GY 17 20 31 32,pFn,.pt 0 (Ps [.rp 32 0,pFn,.n .i64,.ow u64,.ow u64])]),[⟨.Ef,[0,8],Ps [GY 17 20 31 32,.pt 0 (Ps [.rp 32 0,pFn,.n .i64,.ow u64,.ow u64])]⟩]⟩
def ajq(g:Cg):List (Nat×nK):=[(134,ajp g)]
theorem Y8{g:Cg}{cr:cu}(W:WQ cr)(hg:(sG g).Ok 73 cr):n9 cr (ajq g):=(.cons (Y6 W hg) .nil)
def BN(g:Cg):List Pl->Lf.T Rs:=Y7.step (fun _=>none) (qh (ajq g) 3) 3
def ajr(g:Cg):qV:=Eg Y7 (BN g) rF qo
theorem Y9{g:Cg}{cr:cu}(W:WQ cr)(hg:(sG g).Ok 73 cr):rQ Rx.w (ajr g) (fun n d=>sF (cr n d) n (.bl 0 (.lp Y7.body))):=tf (W.in (Y8 W hg) 3) (cF _) (m:=3) rF qo
def L73(g:Cg):Nat->Option qV:=Je [(0,ajr g)]
abbrev TD:List Ty:=AY [i64,.cq u64]
abbrev Jw:List Ty:=(.cq u64)::AY []
def e73(g:Cg):List (Nat×nK):=[(67,tX u64),(132,sP)]
theorem aeM{g:Cg}{cr:cu}(W:WQ cr)(hg:(sG g).Ok 73 cr):n9 cr (e73 g):=(.cons W.c67 (.cons nR .nil))
def t73(g:Cg)(x:cf TD):Lf.T (List Pl):=q9 (Ps [GY 0 0 0 0,.n .i64,.im u64]) [32] (Ps [.ow u64,GY 17 20 31 32]) (L73 g) Tryz.x73 3 (qh (e73 g) 3) (cp TD x)
def k73(g:Cg)(x:cf TD):Bool:=cO (oy Jw (t73 g x))
def m73(g:Cg)(x:cf TD):cf Jw:=cO (nA Jw (t73 g x))
def s73(g:Cg):nK:=pL (Ps [GY 0 0 0 0,.n .i64,.im u64]) [32] (Ps [.ow u64,GY 17 20 31 32]) TD Jw fun x=>.ck (k73 g x) (.ok (m73 g x))
theorem aeN{g:Cg}{cr:cu}(W:WQ cr)(hg:(sG g).Ok 73 cr):(s73 g).Ok 73 cr:=
 cZ (W.in (aeM W hg) 3) (W.st 73 _ rfl) rfl (vD.xx (.cons (b:=Y7.body) (by kernel_rfl) (Y9 W hg) .nil)) (m:=3) rfl (fun _=>ca _) (fun _=>ca _)
abbrev sR:List Ty:=Ei [i64,i64,.cq u64,.cq i64,i64,i64]
abbrev so:List Ty:=Ei [i64,i64,.cq u64]
def Nd:Am:=⟨1,xN Tryz.x23.code 1,[0,1,3,8,9,77,78,79],(Ps [Ly 17 20 31,.n .i64,.n .i64,.pt 0 (Ps [.li .i64 0,.li .u32 0,.av (.sc (.slice none 0 0)),.li .i64 0]),.ow u64,.im i64,.n .i64,.n .i64]),[⟨.Ef,[0,1,3,8,9],Ps [Ly 17 20 31,.n .i64,.n .i64,.pt 0 (Ps [.li .i64 0,.li .u32 0,.av (.sc (.slice none 0 0)),.li .i64 0]),.ow u64]⟩]⟩
def abv:List (Nat×nK):=[]
theorem TE{cr:cu}(W:WQ cr):n9 cr abv:=.nil
def Fm:List Pl->Lf.T Rs:=Nd.step (fun _=>none) (qh abv 3) 3
def abw:qV:=Eg Nd Fm sR so
theorem TF{cr:cu}(W:WQ cr):rQ Rx.w abw (fun n d=>sF (cr n d) n (.bl 1 (.lp Nd.body))):=tf (W.in (TE W) 3) (cF _) (m:=3) sR so
def L23:Nat->Option qV:=Je [(1,abw)]
abbrev Pz:List Ty:=Ei [i64,.cq u64,i64]
abbrev G3:List Ty:=i64::u32::(.cq u64)::i64::Ei []
def e23(g:Cg):List (Nat×nK):=[(67,tX u64),(73,sG g)]
theorem aeO{g:Cg}{cr:cu}(W:WQ cr)(hg:(sG g).Ok 73 cr):n9 cr (e23 g):=(.cons W.c67 (.cons hg .nil))
def t23(g:Cg)(x:cf Pz):Lf.T (List Pl):=q9 (Ps [Ly 0 0 0,.n .i64,.im u64,.n .i64]) [31] (Ps [.ag (Ps [.n .i64,.n .u32,.ow u64,.n .i64]),Ly 17 20 31]) L23 Tryz.x23 3 (qh (e23 g) 3) (cp Pz x)
def k23(g:Cg)(x:cf Pz):Bool:=cO (oy G3 (t23 g x))
def m23(g:Cg)(x:cf Pz):cf G3:=cO (nA G3 (t23 g x))
def s23(g:Cg):nK:=pL (Ps [Ly 0 0 0,.n .i64,.im u64,.n .i64]) [31] (Ps [.ag (Ps [.n .i64,.n .u32,.ow u64,.n .i64]),Ly 17 20 31]) Pz G3 fun x=>.ck (k23 g x) (.ok (m23 g x))
theorem aeQ{g:Cg}{cr:cu}(W:WQ cr)(hg:(sG g).Ok 73 cr):(s23 g).Ok 23 cr:=
 cZ (W.in (aeO W hg) 3) (W.st 23 _ rfl) rfl (vD.xx (.cons (b:=Nd.body) (by kernel_rfl) (TF W) .nil)) (m:=3) rfl (fun _=>ca _) (fun _=>ca _)
end Go.Proofs.Vq

noncomputable section
namespace Go.Proofs.Vq
open Go.Ab Go.Ab.Lf
set_option maxRecDepth 100000
def ng:cf tM:=([],[],[],[],[],[],[],(-1:Int),[],[],[],())
abbrev pMF(f:Ty->rI):rI:=.ag (Ps [f nd,f BC,f i64,f uJ,f uJ,f BD,f BE,.n .i64,f BG,f BH,f BI])
def Ki(y:cf tM):Bool:= @decide (y=ng) (Classical.propDecidable _)
theorem vH:Ki ng=true:=by unfold Ki;exact @decide_eq_true _ (Classical.propDecidable _) rfl
theorem LC{y:cf tM}(h:Ki y=true):y=ng:=by unfold Ki at h;exact @of_decide_eq_true _ (Classical.propDecidable _) h
def eCl:List (Nat×nK):=[(67,tX u64),(69,tX nd),(70,tX i64),(71,Yx),(72,tX oi),(116,tX BC),(117,tX uJ),(118,tX BD),(120,tX BE),(121,tX BG),(122,tX BH),(123,tX BI),(124,tX u8),(221,tX tI)]
theorem TG{cr:cu}(W:WQ cr):n9 cr eCl:=.cons W.c67 (.cons W.c69 (.cons W.c70 (.cons W.c71 (.cons W.c72 (.cons W.aiK (.cons W.aiL (.cons W.aiM (.cons W.aiN (.cons W.aiO (.cons W.aiP (.cons W.aiQ (.cons W.aiR (.cons W.aiS .nil)))))))))))))
def TH(p:cf tM->Bool):nK:=pL (Ps [pMF .im]) [] (Ps [.n .i64]) tM [i64] fun x=>.ck (p x) (.ok (0,()))
def LD:Sto:=⟨[],[],[],[],ng⟩
abbrev ajs:List Ty:=BL [i64]
def t18(p:cf tM->Bool):Lf.T (List Pl):=q9 (Ps [pMF .im]) [] (Ps [.tu (Ps [Eh 0,.n .i64])]) (fun _=>none) Tryz.x18 12 (qh ((56,TH p)::eCl) 12) (cp tM ng)
theorem arM(p:cf tM->Bool):(t18 p).val=cA (p ng) (some (cp ajs (uL [i64] LD (0,())))):=by kernel_rfl
def s18:nK:=pL (Ps [pMF .im]) [] (Ps [.tu (Ps [Eh 0,.n .i64])]) tM ajs fun x=>.ck (Ki x) (.ok (uL [i64] LD (0,())))
theorem aeR{cr:cu}(W:WQ cr)(hc:(TH Ki).Ok 56 cr):s18.Ok 18 cr:=by
 refine tU (W.in (.cons hc (TG W)) 12) (W.st 18 _ rfl) rfl (cF _) (m:=12) rfl ?_
 intro x q h
 obtain⟨h1,h2⟩:=Lf.T.cG h
 cases h2
 obtain rfl:=LC h1
 have e:=arM Ki
 rw[vH]at e
 exact e
def s68:nK:=pL (Ps [Eh 0]) [15] (Ps [pMF .im,Eh 15]) (BL []) (sQ (BL [])) fun x=>.ck (Ki (x.2.2.2.2.1,x.2.2.2.2.2.1,x.2.2.2.2.2.2.1,x.2.2.2.2.2.2.2.1,x.2.2.2.2.2.2.2.2.1,x.2.2.2.2.2.2.2.2.2.1,x.2.2.2.2.2.2.2.2.2.2.1,x.2.2.2.2.2.2.2.2.2.2.2.1,x.2.2.2.2.2.2.2.2.2.2.2.2.1,x.2.2.2.2.2.2.2.2.2.2.2.2.2.1,x.2.2.2.2.2.2.2.2.2.2.2.2.2.2.1,())) (.ok (BM (BL []) ng x))
theorem arO(v sm fi tb:List Int):(q9 (Ps [Eh 0]) [15] (Ps [pMF .im,Eh 15]) (fun _=>none) Tryz.x68 12 (qh eCl 12) (cp (BL []) (uL [] ⟨v,sm,fi,tb,ng⟩ ()))).val=some (cp (sQ (BL [])) (BM (BL []) ng (uL [] ⟨v,sm,fi,tb,ng⟩ ()))):=by kernel_rfl
theorem aeS{cr:cu}(W:WQ cr):s68.Ok 68 cr:=by
 refine tU (W.in (TG W) 12) (W.st 68 _ rfl) rfl (cF _) (m:=12) rfl ?_
 rintro⟨v,sm,fi,tb,m1,m2,m3,m4,m5,m6,m7,m8,m9,m10,m11,⟨⟩⟩ q h
 obtain⟨h1,h2⟩:=Lf.T.cG h
 cases h2
 have h1:=LC h1
 have e1:m1=ng.1:=congrArg Prod.fst h1
 have e2:m2=ng.2.1:=congrArg (fun y:cf tM=>y.2.1) h1
 have e3:m3=ng.2.2.1:=congrArg (fun y:cf tM=>y.2.2.1) h1
 have e4:m4=ng.2.2.2.1:=congrArg (fun y:cf tM=>y.2.2.2.1) h1
 have e5:m5=ng.2.2.2.2.1:=congrArg (fun y:cf tM=>y.2.2.2.2.1) h1
 have e6:m6=ng.2.2.2.2.2.1:=congrArg (fun y:cf tM=>y.2.2.2.2.2.1) h1
 have e7:m7=ng.2.2.2.2.2.2.1:=congrArg (fun y:cf tM=>y.2.2.2.2.2.2.1) h1
 have e8:m8=ng.2.2.2.2.2.2.2.1:=congrArg (fun y:cf tM=>y.2.2.2.2.2.2.2.1) h1
 have e9:m9=ng.2.2.2.2.2.2.2.2.1:=congrArg (fun y:cf tM=>y.2.2.2.2.2.2.2.2.1) h1
 have e10:m10=ng.2.2.2.2.2.2.2.2.2.1:=congrArg (fun y:cf tM=>y.2.2.2.2.2.2.2.2.2.1) h1
 have e11:m11=ng.2.2.2.2.2.2.2.2.2.2.1:=congrArg (fun y:cf tM=>y.2.2.2.2.2.2.2.2.2.2.1) h1
 subst e1 e2 e3 e4 e5 e6 e7 e8 e9 e10 e11
 exact arO v sm fi tb
end Go.Proofs.Vq

noncomputable section
namespace Go.Proofs.Vq
open Go.Ab Go.Ab.Lf
set_option maxRecDepth 100000
abbrev Fo(a b:rI)(x y z:Nat):rI:=.pt z (Ps [a,b,Eh x,YS y,.im nd,.im BC,.im i64,.im uJ,.im uJ,.im BD,.im BE,.n .i64,.im BG,.im BH,.im BI,.bo])
abbrev uM:List Ty:=.cq nd::.cq pn::.cq nd::BL (ug (sQ [.bool,i64,i64]))
abbrev sr:List Ty:=.cq nd::.cq pn::.cq nd::BL (ug (sQ [.bool]))
def Nf:Am:=⟨0,xN Tryz.x22.code 0,[3,7,31,32,33],(Ps [.pt 0 (Ps [.im nd,.im pn]),Fo (.ow nd) (.av (.sc (.slice none 0 0))) 17 20 0,.oo 4 2,.n .i64,.n .i64]),[⟨.Ef,[3,7],Ps [.pt 0 (Ps [.im nd,.im pn]),Fo (.ow nd) (.av (.sc (.slice none 0 0))) 17 20 0]⟩]⟩
def abx:List (Nat×nK):=[(70,tX i64)]
theorem TI{cr:cu}(W:WQ cr):n9 cr abx:=(.cons W.c70 .nil)
def Fp:List Pl->Lf.T Rs:=Nf.step (fun _=>none) (qh abx 3) 3
def aby:qV:=Eg Nf Fp uM sr
theorem TJ{cr:cu}(W:WQ cr):rQ Rx.w aby (fun n d=>sF (cr n d) n (.bl 0 (.lp Nf.body))):=tf (W.in (TI W) 3) (cF _) (m:=3) uM sr
abbrev tY:List Ty:=Ei [i64,i64]
abbrev su:List Ty:=Ei []
def Ng:Am:=⟨2,xN Tryz.x22.code 2,[7,65,66],(Ps [Fo (.im nd) (.ow pn) 17 20 0,.n .i64,.n .i64]),[⟨.Ef,[7],Ps [Fo (.im nd) (.ow pn) 17 20 0]⟩]⟩
def abz:List (Nat×nK):=[(72,tX oi)]
theorem TK{cr:cu}(W:WQ cr):n9 cr abz:=(.cons W.c72 .nil)
def Dy:List Pl->Lf.T Rs:=Ng.step (fun _=>none) (qh abz 3) 3
def abA:qV:=Eg Ng Dy tY su
theorem TL{cr:cu}(W:WQ cr):rQ Rx.w abA (fun n d=>sF (cr n d) n (.bl 2 (.lp Ng.body))):=tf (W.in (TK W) 3) (cF _) (m:=3) tY su
def L22:Nat->Option qV:=Je [(0,aby),(2,abA)]
abbrev Jx:List Ty:=.cq nd::.cq pn::BL (ug [])
abbrev LF:List Ty:=Ei []
def e22:List (Nat×nK):=[(68,s68),(34,s34),(69,tX nd),(70,tX i64),(71,Yx),(72,tX oi)]
theorem aeT{cr:cu}(W:WQ cr):n9 cr e22:=(.cons (aeS W) (.cons (aez W) (.cons W.c69 (.cons W.c70 (.cons W.c71 (.cons W.c72 .nil))))))
def t22(x:cf Jx):Lf.T (List Pl):=q9 (Ps [.ag (Ps [.im nd,.im pn]),Eh 0,YS 0]) [] (Ps [Fo (.im nd) (.im pn) 17 20 0]) L22 Tryz.x22 3 (qh e22 3) (cp Jx x)
def k22(x:cf Jx):Bool:=cO (oy LF (t22 x))
def m22(x:cf Jx):cf LF:=cO (nA LF (t22 x))
def s22:nK:=pL (Ps [.ag (Ps [.im nd,.im pn]),Eh 0,YS 0]) [] (Ps [Fo (.im nd) (.im pn) 17 20 0]) Jx LF fun x=>.ck (k22 x) (.ok (m22 x))
theorem aeU{cr:cu}(W:WQ cr):s22.Ok 22 cr:=
 cZ (W.in (aeT W) 3) (W.st 22 _ rfl) rfl (vD.xx (.cons (b:=Nf.body) (by kernel_rfl) (TJ W) (.cons (b:=Ng.body) (by kernel_rfl) (TL W) .nil))) (m:=3) rfl (fun _=>ca _) (fun _=>ca _)
abbrev wV:List Ty:=[.cq u64,.cq u64,i64]
abbrev vf:List Ty:=[]
abbrev wW:List Ty:=[.bool]
def Nh:Am:=⟨0,xN Tryz.x25.code 0,[0,1,5],(Ps [.im u64,.im u64,.n .i64]),[⟨.Ef,[],(Ps [])⟩,⟨.rt,[4],(Ps [.bo])⟩]⟩
def abB:List (Nat×nK):=[]
theorem TM{cr:cu}(W:WQ cr):n9 cr abB:=.nil
def zV:List Pl->Lf.T Rs:=Nh.step (fun _=>none) (qh abB 3) 3
def abC:qV:=Pu Nh zV wV vf wW
theorem TN{cr:cu}(W:WQ cr):rQ Rx.w abC (fun n d=>sF (cr n d) n (.bl 0 (.lp Nh.body))):=zS (W.in (TM W) 3) (cF _) (m:=3) wV vf wW
def L25:Nat->Option qV:=Je [(0,abC)]
abbrev TO:List Ty:=[.cq u64,.cq u64]
abbrev LG:List Ty:=[.bool]
def e25:List (Nat×nK):=[]
theorem aeV{cr:cu}(W:WQ cr):n9 cr e25:=.nil
def t25(x:cf TO):Lf.T (List Pl):=q9 (Ps [.im u64,.im u64]) [] (Ps [.bo]) L25 Tryz.x25 3 (qh e25 3) (cp TO x)
def k25(x:cf TO):Bool:=cO (oy LG (t25 x))
def m25(x:cf TO):cf LG:=cO (nA LG (t25 x))
def s25:nK:=pL (Ps [.im u64,.im u64]) [] (Ps [.bo]) TO LG fun x=>.ck (k25 x) (.ok (m25 x))
theorem aeW{cr:cu}(W:WQ cr):s25.Ok 25 cr:=
 cZ (W.in (aeV W) 3) (W.st 25 _ rfl) rfl (vD.xx (.cons (b:=Nh.body) (by kernel_rfl) (TN W) .nil)) (m:=3) rfl (fun _=>ca _) (fun _=>ca _)
end Go.Proofs.Vq

noncomputable section
namespace Go.Ab
open Go.Ab.Lf
def Kj(lk:FuncId->List AV->Option AV)(c:nv):nv:=fun f args h=>match lk f args with
 |some v=>.ok v h
 |none=>c f args h
theorem Dz[Io]{P:Program}{lk:FuncId->List AV->Option AV}(ht: ∀ f args v,lk f args=some v->oL P f args v){call:nv}(hc:nP P call):nP P (Kj lk call):=by
 intro f args h v h' e
 unfold Kj at e
 cases ht1:lk f args with
 |none=>rw[ht1]at e;exact hc f args h v h' e
 |some v1=>
  rw[ht1]at e
  cases e
  obtain⟨k1,k2⟩:=ht f args v ht1
  refine⟨k1,fun g w vs H hv=>?_⟩
  refine(k2 g w vs H.oz H.tb hv).mono ?_
  rintro e w' ⟨x,rfl,K,hx⟩
  obtain⟨g',Gr⟩: ∃ g':G,g'=⟨g.m,fun b=>g.oz b∨(w.heap.size<=b/\b<w'.heap.size)⟩:=⟨_,rfl⟩
  have hO: ∀ b,qt g' h b->qt g h b:=by
   rintro b ⟨id,cs,s,e,m⟩
   rw[Gr]at m
   exact⟨id,cs,s,e,m⟩
  have M:xK g w g' w':=⟨fun _ _ e=>by rw[Gr];exact e,fun b i=>by rw[Gr];exact .inl i,fun b i=>K.wh b (H.oz b i),K.rows⟩
  refine⟨x,g',rfl,⟨K.os,K.tape,K.output,K.size,Nat.le_refl _,M.m,fun b hb _=>K.wh b hb,K.rows,M.oz,fun b i=>?_,fun b o=>.inl (hO b o)⟩,⟨fun id qu=>?_,fun id cs e=>?_,fun id Bu b s s' cs cs' e1 e2 m1 m2=>?_,fun b i=>?_,tF.mono M H.tb⟩,?_⟩
  ·rw[Gr]at i
   rcases i with i|i
   ·exact .inl i
   ·exact .inr (.inr i.1)
  ·rw[Gr];exact H.fresh id qu
  ·obtain⟨b,s,C,el,us,h1,h2,h3,h4,h5⟩:=H.cw id cs e
   have hb:=(Array.getElem?_eq_some_iff.1 h2).1
   refine⟨b,s,C,el,us,M.m _ _ h1,by rw[K.wh b hb];exact h2,?_,cJ.o8 M _ _ h4,h5⟩
   rw[Gr]
   rintro(i|i)
   ·exact h3 i
   ·omega
  ·rw[Gr]at m1 m2
   exact H.inj id Bu b s s' cs cs' e1 e2 m1 m2
  ·rw[Gr]at i
   rcases i with i|i
   ·exact Nat.lt_of_lt_of_le (H.oz b i) K.size
   ·exact i.2
  ·refine VR.o8 (⟨(fun _ _ e=>by cases e),(fun b i=>by rw[Gr];exact .inr i),fun _ _=>rfl,fun _=>Nat.le_refl _⟩:xK _ _ g' w') _ _ hx
end Go.Ab
namespace Go.Ab.Lf
open Go.Ab
def canon:(t:Ty)->den t->List AV
 | .int k,x=>[.int k x]
 | .bool,x=>[.bool x]
 | .str,x=>[.sc (.string x)]
 | .cq t,x=>[.sU (List.length x) (List.foldr (fun y r=>canon t y++r) [] x)]
 | .pair a b,x=>canon a x.1++canon b x.2
theorem zW[Io]{g:G}{w:Go.World}: ∀ (t:Ty) (x:den t) (cs:List AV) (vs:List Value),EV (fun _=>none) t x cs->cJ g w cs vs->cJ g w (canon t x) vs
 | .int _,x,_,vs,e,h=>by have e:_=_:=e;subst e;exact h
 | .bool,x,_,vs,e,h=>by have e:_=_:=e;subst e;exact h
 | .str,x,_,vs,e,h=>by have e:_=_:=e;subst e;exact h
 | .pair a b,x,_,vs,⟨c,d,e,h1,h2⟩,h=>by
  subst e
  obtain⟨us,ts,rfl,k1,k2⟩:=cJ.split h
  exact cJ.append (zW a _ _ _ h1 k1) (zW b _ _ _ h2 k2)
 | .cq t,x,_,vs,⟨a,e,k⟩,h=>by
  subst e
  have els: ∀ (l:List (den t)) (ls:List AV) (vs:List Value),rP (EV (fun _=>none) t) l ls->cJ g w ls vs->cJ g w (List.foldr (fun y r=>canon t y++r) [] l) vs:=by
   intro l
   induction l with
   |nil=>intro ls vs h k;have h:_=_:=h;subst h;exact k
   |cons x l ih=>
    rintro ls vs ⟨c,r,rfl,h1,h2⟩ k
    obtain⟨us,ts,rfl,k1,k2⟩:=cJ.split k
    exact cJ.append (zW t _ _ _ h1 k1) (ih _ _ h2 k2)
  have h':cJ g w [a] vs:=h
  show cJ g w [.sU (List.length x) (List.foldr (fun y r=>canon t y++r) [] x)] vs
  simp only[cJ]at h' ⊢
  obtain⟨v,l,rfl,hv,rfl⟩:=h'
  refine⟨v,_,rfl,?_,rfl⟩
  rcases k with⟨k1,rfl⟩|⟨ls,k1,k2⟩
  ·have e0: ∃ ad c,v=.slice ad 0 c:=by
    cases a with
    |qi=>simp only[VR]at hv;obtain⟨ad,rfl⟩:=hv;exact⟨_,_,rfl⟩
    |uR=>simp only[VR]at hv;obtain⟨ad,rfl⟩:=hv;exact⟨_,_,rfl⟩
    |sc z=>
     obtain rfl:z=.slice none 0 0:=by
      have k:isNil (.sc z)=true:=k1
      unfold isNil at k
      split at k
      ·rename_i n c e
       injection e with e
       subst e
       have k:(Nat.beq n 0&&Nat.beq c 0)=true:=by assumption
       rw[Bool.and_eq_true]at k
       obtain rfl:=Nat.eq_of_beq_eq_true k.1
       obtain rfl:=Nat.eq_of_beq_eq_true k.2
       rfl
      ·cases k
     simp only[VR]at hv
     exact⟨_,_,hv.1⟩
    | _=>cases k1
   obtain⟨ad,c,rfl⟩:=e0
   simp only[VR]
   exact⟨ad,c,rfl,Nat.zero_le _,.inl ⟨rfl,rfl⟩⟩
  ·rcases k2 with k2|⟨_,_,_,_,g,_⟩
   ·subst k2
    simp only[VR]at hv ⊢
    obtain⟨ad,cap,rfl,hc,q⟩:=hv
    refine⟨ad,cap,rfl,hc,?_⟩
    rcases q with⟨q1,q2⟩|⟨b,o,us,q1,q2,q3,q4⟩
    ·left
     obtain rfl:x=[]:=List.eq_nil_of_length_eq_zero q1
     exact⟨rfl,rfl⟩
    ·exact .inr ⟨b,o,us,q1,q2,q3,els x ls us k1 q4⟩
   ·cases g
end Go.Ab.Lf

noncomputable section
namespace Go.Ab.Lf
open Go.Ab
abbrev N0:Nat->Option Rw:=fun _=>none
theorem DA{f:AV->Option AV}: ∀ {l m l' m':List AV},mapA f l=some l'->mapA f m=some m'->mapA f (l++m)=some (l'++m')
 | [],_,_,_,h,k=>by cases h;exact k
 |a::l,m,l',m',h,k=>by
  change (match f a with|some b=>(match mapA f l with|some r=>some (b::r)|none=>none)|none=>none)=some l' at h
  cases h1:f a with
  |none=>rw[h1]at h;cases h
  |some b=>
   cases h2:mapA f l with
   |none=>rw[h1,h2]at h;cases h
   |some r=>
    rw[h1,h2]at h
    cases h
    show(match f a with|some b=>(match mapA f (l++m)with|some r=>some (b::r)|none=>none)|none=>none)=_
    rw[h1,DA h2 k]
    rfl
def dep:Ty->Nat
 | .cq t=>dep t+1
 | .pair a b=>max (dep a) (dep b)
 | _=>0
theorem PA{a:AV}(h:nN a=true)(n:Nat)(p:Hp):yp (n+1) p a=some a:=by
 cases a with
 |sc v=>rfl
 |qi=>rfl
 |uR=>rfl
 | _=>cases h
theorem G4{G:Nat->Option Rw}{p:Hp}(hG: ∀ id row,G id=some row->p.cw.get id=some row): ∀ (t:Ty) (n:Nat) (x:den t) (cs:List AV),dep t<n->EV G t x cs-> ∃ cs',mapA (yp n p) cs=some cs'/\EV N0 t x cs'
 | .int _,n+1,x,_,_,h=>by have h:_=_:=h;subst h;exact⟨_,rfl,rfl⟩
 | .bool,n+1,x,_,_,h=>by have h:_=_:=h;subst h;exact⟨_,rfl,rfl⟩
 | .str,n+1,x,_,_,h=>by have h:_=_:=h;subst h;exact⟨_,rfl,rfl⟩
 | .pair a b,n,x,_,hn,⟨c,d,e,h1,h2⟩=>by
  have hn:max (dep a) (dep b)<n:=hn
  obtain⟨c',e1,k1⟩:=G4 hG a n _ _ (by omega) h1
  obtain⟨d',e2,k2⟩:=G4 hG b n _ _ (by omega) h2
  subst e
  exact⟨_,DA e1 e2,_,_,rfl,k1,k2⟩
 | .cq t,n+1,x,_,hn,⟨a,e,k⟩=>by
  have hn:dep t+1<n+1:=hn
  have els: ∀ (l:List (den t)) (ls:List AV),rP (EV G t) l ls-> ∃ ls',mapA (yp n p) ls=some ls'/\rP (EV N0 t) l ls':=by
   intro l
   induction l with
   |nil=>intro ls h;have h:_=_:=h;subst h;exact⟨_,rfl,rfl⟩
   |cons x l ih=>
    rintro ls ⟨c,r,rfl,h1,h2⟩
    obtain⟨c',e1,k1⟩:=G4 hG t n _ _ (by omega) h1
    obtain⟨r',e2,k2⟩:=ih _ h2
    exact⟨_,DA e1 e2,_,_,rfl,k1,k2⟩
  have one: ∀ a',yp (n+1) p a=some a'->MO N0 t (EV N0 t) x a'-> ∃ cs',mapA (yp (n+1) p) [a]=some cs'/\EV N0 (.cq t) x cs':=by
   intro a' h1 h2
   refine⟨[a'],?_,a',rfl,h2⟩
   show(match yp (n+1) p a with|some b=>some [b]|none=>none)=_
   rw[h1]
  subst e
  rcases k with⟨k1,k2⟩|⟨ls,k1,k2⟩
  ·exact one a (PA k1 n p) (.inl ⟨k1,k2⟩)
  ·obtain⟨ls',e1,q1⟩:=els x ls k1
   rcases k2 with k2|⟨id,base,row,k2,g,sg⟩
   ·refine one (.sU x.length ls') ?_ (.inr ⟨ls',q1,.inl rfl⟩)
    subst k2
    show(match mapA (yp n p) ls with|some l=>some (AV.sU x.length l)|none=>none)=_
    rw[e1]
   ·refine one (.sU x.length ls') ?_ (.inr ⟨ls',q1,.inl rfl⟩)
    subst k2
    show(match p.cw.get id with|some cs=>(match cs.rH base (Nat.mul x.length (size t))with|some l=>(match mapA (yp n p) l with|some l=>some (AV.sU x.length l)|none=>none)|none=>none)|none=>none)=_
    rw[hG _ _ g]
    have sg:row.rH base (Nat.mul x.length (size t))=some ls:=sg
    dsimp only
    rw[sg]
    dsimp only
    rw[e1]
end Go.Ab.Lf
