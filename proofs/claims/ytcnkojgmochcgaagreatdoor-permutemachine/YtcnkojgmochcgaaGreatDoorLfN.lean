import Derived.Test.YtcnkojgmochcgaaGreatDoorLfK
import Derived.Test.YtcnkojgmochcgaaGreatDoorVbQ
import Derived.KernelRfl
import Derived.Shelf.Small.Bits
import Derived.Shelf.Spec.TrailingZeros
import Derived.Test.YtcnkojgmochcgaaGreatDoorVrA
import Derived.Test.YtcnkojgmochcgaaGreatDoorVrS
noncomputable section
namespace Go.Ab.Lf
def F4(t:Ty):ny:=pW (.cons (.im t) .nil) [] (.cons (.ow t) .nil) [.cp t] [.cp t] fun x=>.ck (decide (List.length x.1<=1099511627776)) (.ok (x.1,()))
def flat(t:Ty):Bool:=Ty.rec (motive:=fun _=>Bool) (fun _=>true) true true (fun _ _=>false) (fun _ _ a b=>bif a then b else false) t
theorem Bo{G G':Nat->Option Rw}: ∀ (t:Ty) (x:den t) (cs:List AV),flat t=true->EV G t x cs->EV G' t x cs
 | .int _,_,_,_,e=>e
 | .bool,_,_,_,e=>e
 | .str,_,_,_,e=>e
 | .cp _,_,_,h,_=>by cases h
 | .pair a b,x,cs,h,⟨c,d,e,k1,k2⟩=>by
  have h:(bif flat a then flat b else false)=true:=h
  cases ha:flat a with
  |false=>rw[ha]at h;cases h
  |true=>rw[ha]at h;exact⟨c,d,e,Bo a _ _ ha k1,Bo b _ _ h k2⟩
def ZH:Sv->Bool
 | .os _ _| .ss _ _ _ _=>true
 | _=>false
theorem ajH{t:Ty}{v:Sv}{a:AV}{x:List (den t)}{E:En}{H H1:Hq}{h:Hp}(S:SR E H h)(ho:ZH v=true)(hv:V E H.next v a)(e:HG t v H=some (x,H1)): ∀ id,r9 a=some id->id<h.next:=by
 intro id hi
 cases v with
 |os r s=>
  change (match H.cw.get r with|some (.l t' x)=>(match zk t' t with|some ⟨e⟩=>some ((e▸x:List (den t)),H)|none=>none)| _=>none)=some (x,H1)at e
  split at e
  ·rename_i t' y hr
   cases hv with
   |os _ _=>exact S.lt r id ⟨_,hr,rfl⟩ hi
  ·cases e
 |ss r s off n=>
  change (match H.cw.get r with|some (.l t' x)=>(match zk t' t with|some ⟨e⟩=>some (((e▸x:List (den t)).drop off).take n,H)|none=>none)| _=>none)=some (x,H1)at e
  split at e
  ·rename_i t' y hr
   cases hv with
   |se _ h1 _ _=>exact S.lt r id ⟨_,hr,rfl⟩ hi
   |ss _ h1 _=>exact S.lt r id ⟨_,hr,rfl⟩ (by rw[h1];exact hi)
  ·cases e
 | _=>cases ho
theorem Ii{t:Ty}{x:List (den t)}{r:List Pl}{H:Hq}:oi (.im t) (⟨.cp t,x⟩::r) H=some ([.c H.next (.cp t) x],r,⟨Nat.add H.next 1,H.cw⟩):=by
 unfold oi;simp only[rR]
theorem Ue{t:Ty}{x:List (den t)}{r:List Pl}{H:Hq}:oi (.ow t) (⟨.cp t,x⟩::r) H=some ([.os H.next (size t)],r,nG H (.l t x)):=by
 unfold oi;simp only[rR]
theorem Aa{p:qH}{pl:List Pl}{H H':Hq}{v:List Sv}(h:oi p pl H=some (v,[],H')):oi (.cons p .nil) pl H=some (v,[],H'):=by
 show(match oi p pl H with|some (v,r,H)=>(match oi .nil r H with|some (w,r,H)=>some (app v w,r,H)|none=>none)|none=>none)=_
 rw[h]
 show some (app v [],([]:List Pl),H')=_
 rw[mP,List.append_nil]
theorem Uf{t:Ty}(ft:flat t=true){f:FuncId}{cr:cx}(k:(F4 t).Ok f cr){E:En}{H H1:Hq}{h:Hp}{v:Sv}{a:AV}{x:List (den t)}(S:SR E H h)(ho:ZH v=true)(hv:V E H.next v a)(hp:HG t v H=some (x,H1))(hl:x.length<=1099511627776):
 ∃ c h' E',Ev (fun n d=>cr n d f [a] h) (.ok c h')/\Nx E E' H (nG H (.l t x)) h h'/\SR E' (nG H (.l t x)) h'/\V E' (nG H (.l t x)).next (.os H.next (size t)) c:=by
 have qd:=ajH S ho hv hp
 obtain⟨E1,F,D⟩:=Bk S hv hp
 obtain⟨G0,hG,hE⟩: ∃ G0:Nat->Option Rw,(∀ id row,G0 id=some row->id<h.next/\h.cw.get id=some row)/\EV G0 (.cp t) x [a]:=by
  rcases D with⟨d1,d2⟩|⟨id,base,row,ls,d1,d2,d3,d4⟩
  ·exact⟨fun _=>none,fun _ _ e=>(by cases e),a,rfl,.inl ⟨d1,d2⟩⟩
  ·refine⟨fun i=>if i=id then some row else none,fun i r e=>?_,a,rfl,.inr ⟨ls,d4.mono fun y c e=>Bo t y c ft e,.inr ⟨id,base,row,d1,if_pos rfl,d3⟩⟩⟩
   dsimp only at e
   split at e
   ·rename_i q
    cases e
    subst q
    exact⟨qd i (by rw[d1];rfl),d2⟩
   ·cases e
 obtain⟨E0,hE0⟩: ∃ E0:En,E0=⟨fun _=>⟨.any,0⟩,fun _=>a,G0,fun _=>.any⟩:=⟨_,rfl⟩
 have no: ∀ r R,¬ (Tr.nil:Tr Row).get r=some R:=fun r R h=>by
  have h:(none:Option Row)=some R:=h
  cases h
 have hf:oi (F4 t).P (cq [.cp t] (x,())) e1=some ([.c 1 (.cp t) x],[],⟨2,.nil⟩):=by
  exact Aa Ii
 have hs:((F4 t).f (cq [.cp t] (x,()))).val=some (cq [.cp t] (x,())):=by
  unfold F4 pW
  simp only[tx]
  show(bif decide (x.length<=1099511627776)then some (cq [.cp t] (x,()))else none)=_
  rw[decide_eq_true hl]
  rfl
 have hS0:SR E0 (oK ⟨2,.nil⟩) h:=by
  have et:oK ⟨2,.nil⟩=(⟨2,.nil⟩:Hq):=rfl
  rw[et]
  refine⟨fun r R h=>(no r R h).elim,?_,?_,fun id row e=>?_⟩
  ·rintro r r' id ⟨R,h,_⟩;exact(no r R h).elim
  ·rintro r id ⟨R,h,_⟩;exact(no r R h).elim
  ·subst hE0
   obtain⟨g1,g2⟩:=hG id row e
   refine⟨g1,g2,?_⟩
   rintro r ⟨R,h,_⟩;exact(no r R h).elim
 obtain⟨c,h',E2,ws,H2,hev,X,S2,hq,hV⟩:=k _ _ _ _ E0 h [a] hs hf (.cons (.c (by subst hE0;exact hE) fun _=>⟨by decide,by subst hE0;rfl⟩) .nil) hS0
 have hq2:oi (F4 t).Q (cq [.cp t] (x,())) e1=some ([.os 1 (size t)],[],nG e1 (.l t x)):=by
  exact Aa Ue
 rw[hq2]at hq
 cases hq
 have h1:(nG e1 (.l t x)).cw.get 1=some (.l t x):=by rw[qV];exact if_pos rfl
 have R1:=(S2.row 1 _ h1).2
 have ajI:own (nG e1 (.l t x)) 1:=⟨_,h1,rfl⟩
 have hc:c=(E2.K 1).av:=by
  cases hV with
  |cons hc _=>cases hc with
   |os _ _=>rfl
 have noO: ∀ r,¬ own (oK ⟨2,.nil⟩) r:=by
  have et:oK ⟨2,.nil⟩=(⟨2,.nil⟩:Hq):=rfl
  rw[et]
  rintro r ⟨R,h,_⟩;exact no r R h
 have R3:RV E H.next h' (E2.K 1) (.l t x):=by
  obtain⟨q1,q2⟩:=R1
  refine⟨q1,?_⟩
  rcases q2 with q2|⟨id,base,row,ls,k1,k2,k3,k4⟩
  ·exact .inl q2
  ·exact .inr ⟨id,base,row,ls,k1,k2,k3,k4.mono fun y c e=>Bo t y c ft e⟩
 obtain⟨S3,X3⟩:=qW S rfl (fun _ _ e=>e) X.FJ (fun id hi _=>X.fr id hi fun r o _=>noO r o) (fun id e=>⟨S2.lt 1 id ajI e,.inl (by
  rcases X.ow 1 id ajI e with⟨r,o,_⟩|q
  ·exact(noO r o).elim
  ·exact q)⟩) R3 rfl
 refine⟨c,h',_,hev,X3,S3,?_⟩
 have K0:(E.row H.next (E2.K 1)).K H.next=E2.K 1:=if_pos rfl
 have vA:=V.os (E:=E.row H.next (E2.K 1)) (N:=(nG H (.l t x)).next) (r:=H.next) (sz:=size t) (Nat.lt_succ_self _) (by
  rw[K0]
  obtain⟨q1,q2⟩:=R3
  rcases q2 with⟨k1,k2⟩|⟨id,base,row,ls,k1,_⟩
  ·exact .inl ⟨k1,by rw[<-q1,k2];rfl⟩
  ·exact .inr ⟨id,base,k1⟩)
 rw[K0,<-hc]at vA
 exact vA
def clW(cl:FuncId->Option Ty)(base:o7):o7:=fun f args H=>match cl f with
 |some t=>(match args with
  | [v]=>bif ZH v then(match HG t v H with
   |some (x,_)=>.ck (decide (x.length<=1099511627776)) (.ok (.os H.next (size t),nG H (.l t x)))
   |none=>base f args H)else base f args H
  | _=>base f args H)
 |none=>base f args H
theorem afl{cl:FuncId->Option Ty}{base:o7}{cr:cx}(hc: ∀ f t,cl f=some t->flat t=true/\(F4 t).Ok f cr)(C:w8 base cr):w8 (clW cl base) cr:=by
 intro E f args az H h v H' hv hS e
 unfold clW at e
 split at e
 ·rename_i t ht
  obtain⟨ft,k⟩:=hc f t ht
  split at e
  ·rename_i w
   cases ho:ZH w with
   |false=>rw[ho]at e;exact C E f _ _ H h v H' hv hS e
   |true=>
    rw[ho,cond_true]at e
    split at e
    ·rename_i x H1 hp
     obtain⟨h1,h2⟩:=T.cP e
     cases h2
     cases hv with
     |cons ha hr=>
      cases hr
      exact Uf ft k hS ho ha hp (of_decide_eq_true h1)
    ·exact C E f _ _ H h v H' hv hS e
  ·exact C E f _ _ H h v H' hv hS e
 ·exact C E f _ _ H h v H' hv hS e
def afm(cl:FuncId->Option Ty)(bk:FuncId->Option Dj)(ent:FuncId->Option ny)(m d:Nat):o7:=Nat.rec (fun _ _ _=>.bad) (fun _ ih=>clW cl fun f args h=>match ent f with
 |some s=>s.call args h
 |none=>(match bk f with
  |some b=>bif Nat.ble b.ntmps 512 then HJ (fun _=>none) b m ih args h else .bad
  |none=>.bad)) d
theorem NG{cl:FuncId->Option Ty}{bk:FuncId->Option Dj}{ent:FuncId->Option ny}{m:Nat}{cr:cx}(hc: ∀ f t,cl f=some t->flat t=true/\(F4 t).Ok f cr)(hb: ∀ f b,bk f=some b->u9 cr f b)(he: ∀ f s,ent f=some s->s.Ok f cr): ∀ d,w8 (afm cl bk ent m d) cr
 |0=>by intro E f args az H h v H' _ _ e;cases e
 |d+1=>afl hc (by
  intro E f args az H h v H' hv hH e
  change (match ent f with|some s=>s.call args H|none=>(match bk f with|some b=>bif Nat.ble b.ntmps 512 then HJ (fun _=>none) b m (afm cl bk ent m d) args H else .bad|none=>.bad)).val=some (v,H')at e
  split at e
  ·rename_i s hs
   exact ZA (he f s hs) hv hH e
  ·split at e
   ·rename_i b D4
    obtain⟨h5,e⟩:=nL e
    exact HZ (NG hc hb he d) (R:=Rx.s) (hb f b D4) (Nat.le_of_ble_eq_true h5) (cD _) hv hH e
   ·cases e)
def cO{α:Type}(a:α):α:=Classical.choose (⟨a,rfl⟩: ∃ x,x=a)
theorem ca{α:Type}(a:α):cO a=a:=Classical.choose_spec (⟨a,rfl⟩: ∃ x,x=a)
theorem mO{to:List Ty}{t:T (List Pl)}{y:cf to}{k:Bool}{m:cf to}(hk:k=oy to t)(hm:m=nq to t)(h:t.val=some (cq to y)):k=true/\m=y:=by
 rw[hk,hm]
 exact afg h
end Go.Ab.Lf

noncomputable section
namespace Go.Proofs
open Go.Ab Go.Ab.Lf
def exQ(f:Nat):Bool:=Nat.beq f 36||(Nat.beq f 56||(Nat.beq f 305||(Nat.beq f 132||(Nat.beq f 49||(Nat.beq f 50||(Nat.beq f 52||Nat.beq f 53))))))
def bkQ:FuncId->Option Dj:=fun f=>bif exQ f then none else Tryz.xs.get f
end Go.Proofs
namespace Go.Proofs.Vq
open Go.Ab Go.Ab.Lf
set_option maxRecDepth 100000
abbrev i64:Ty:=.int .i64
abbrev u64:Ty:=.int .u64
abbrev u32:Ty:=.int .u32
abbrev u8:Ty:=.int .u8
abbrev tI:Ty:=.pair i64 (.pair i64 (.pair i64 (.pair u64 (.pair u64 (.cp i64)))))
abbrev mc:Ty:=.pair (.cp i64) (.cp i64)
abbrev AP:Ty:=.pair .str (.pair .str i64)
abbrev uj:Ty:=.pair i64 i64
abbrev AQ:Ty:=.pair i64 (.pair .bool (.cp tI))
abbrev AR:Ty:=.pair .str (.pair i64 i64)
abbrev AU:Ty:=.pair (.cp tI) (.cp i64)
abbrev AW:Ty:=.pair (.cp i64) (.cp tI)
abbrev AX:Ty:=.pair (.cp tI) (.cp u8)
abbrev nd:Ty:=.pair i64 (.pair i64 u64)
abbrev oW:Ty:=.pair i64 (.pair i64 (.pair i64 (.pair i64 (.pair i64 (.pair (.cp nd) (.cp i64))))))
abbrev tEv:Ty:=.pair i64 (.cp u64)
abbrev tM:List Ty:=[.cp mc,.cp AP,.cp i64,.cp uj,.cp uj,.cp AQ,.cp AR,i64,.cp AU,.cp AW,.cp AX]
abbrev Ps(l:List qH):qH:=l.foldr .cons .nil
def clQ:FuncId->Option Ty:=fun f=>bif Nat.beq f 67 then some u64 else bif Nat.beq f 70 then some i64 else none
def pY(l:List (Nat×ny))(m:Nat):o7:=afm clQ bkQ (aeT l) m 12
def cF{α:Type}(c:Bool)(x:Option α):Option α:=bif c then x else none
theorem rS{b n:Nat}(hb:b<=64)(h:n<=1099511627776):roomy b n=true:=by
 rw[wK]
 refine⟨?_,by omega⟩
 calc n*b<=1099511627776*64:=Nat.mul_le_mul h hb
  _<=70368744177664:=by decide
def Qd:ny:=⟨.nil,[],.nil,fun _=>.bad⟩
theorem yZ{f:Nat}{cr:cx}:Qd.Ok f cr:=fun _ _ _ _ _ _ _ e=>by cases e
abbrev tA(t:Ty):ny:=F4 t
def ZI:ny:=pW (.cons (.im oW) .nil) [] (.cons (.ow oW) .nil) [.cp oW] [.cp oW] fun x=>.ck (decide (List.length x.1<=549755813888)) (.ok (x.1,()))
def lz(b:Nat)(x:Int):Int:=(b:Int) - (Go.Lib.bitLen x.toNat:Int)
def tz(b:Nat)(x:Int):Int:=(Go.Lib.ctz b x.toNat:Nat)
def sBt(k:IntKind)(F:Int->Int)(b:Int):ny:=pW (Ps [.n k]) [] (Ps [.n .i64]) [.int k] [i64] fun x=>.ck (decide (0<=(x.1:Int))&&decide ((x.1:Int)<=b)) (.ok (F x.1,()))
def s49:ny:=sBt .u32 (lz 32) 4294967295
def s50:ny:=sBt .u32 (tz 32) 4294967295
def s52:ny:=sBt .u64 (lz 64) 18446744073709551615
def s53:ny:=sBt .u64 (tz 64) 18446744073709551615
structure WQ(cr:cx):Prop where
 st: ∀ f b,bkQ f=some b->u9 cr f b
 c67:(tA u64).Ok 67 cr
 c69:(tA mc).Ok 69 cr
 c70:(tA i64).Ok 70 cr
 c71:ZI.Ok 71 cr
 c72:(tA nd).Ok 72 cr
 ajK:(tA AP).Ok 116 cr
 ajL:(tA uj).Ok 117 cr
 ajM:(tA AQ).Ok 118 cr
 ajN:(tA AR).Ok 120 cr
 ajO:(tA AU).Ok 121 cr
 ajP:(tA AW).Ok 122 cr
 ajQ:(tA AX).Ok 123 cr
 ajR:(tA u8).Ok 124 cr
 ajS:(tA tI).Ok 221 cr
 b49:s49.Ok 49 cr
 b50:s50.Ok 50 cr
 b52:s52.Ok 52 cr
 b53:s53.Ok 53 cr
theorem WQ.cl{cr:cx}(W:WQ cr): ∀ f t,clQ f=some t->flat t=true/\(F4 t).Ok f cr:=by
 intro f t h
 unfold clQ at h
 cases h1:Nat.beq f 67 with
 |true=>
  rw[h1]at h
  cases h
  obtain rfl:=Nat.eq_of_beq_eq_true h1
  exact⟨rfl,W.c67⟩
 |false=>
  rw[h1,cond_false]at h
  cases h2:Nat.beq f 70 with
  |true=>
   rw[h2]at h
   cases h
   obtain rfl:=Nat.eq_of_beq_eq_true h2
   exact⟨rfl,W.c70⟩
  |false=>rw[h2]at h;cases h
theorem WQ.in{cr:cx}(W:WQ cr){l:List (Nat×ny)}(h:nZ cr l)(m:Nat):w8 (pY l m) cr:=NG W.cl W.st h.ok 12
end Go.Proofs.Vq

noncomputable section
namespace Go.Proofs.Vq
open Go.Ab Go.Ab.Lf
set_option maxRecDepth 100000
abbrev Ug:List Ty:=[i64]
abbrev vb:List Ty:=[i64]
def e11:List (Nat×ny):=[]
theorem afn{cr:cx}(W:WQ cr):nZ cr e11:=.nil
def t11(x:cf Ug):Lf.T (List Pl):=qA (Ps [.n .i64]) [] (Ps [.n .i64]) (fun _=>none) Tryz.Dl 3 (pY e11 3) (cq Ug x)
def wP(x:cf Ug):Bool:=cO (oy vb (t11 x))
def m11(x:cf Ug):cf vb:=cO (nq vb (t11 x))
def s11:ny:=pW (Ps [.n .i64]) [] (Ps [.n .i64]) Ug vb fun x=>.ck (wP x) (.ok (m11 x))
theorem F5{cr:cx}(W:WQ cr):s11.Ok 11 cr:=
 mC (W.in (afn W) 3) (W.st 11 _ rfl) rfl (cD _) (m:=3) rfl (fun _=>ca _) (fun _=>ca _)
abbrev xn:List Ty:=[.cp i64,i64,i64]
abbrev vc:List Ty:=[]
abbrev tR:List Ty:=[.bool]
def ZJ:AN:=⟨0,zZ Tryz.x83.code 0,[5,6,7],(Ps [.im i64,.n .i64,.n .i64]),[⟨.GG,[],(Ps [])⟩,⟨.rt,[2],(Ps [.bo])⟩]⟩
def ajU:List (Nat×ny):=[]
theorem ZK{cr:cx}(W:WQ cr):nZ cr ajU:=.nil
def CQ:List Pl->Lf.T Rs:=ZJ.step (fun _=>none) (pY ajU 3) 3
def ajV:rk:=KN ZJ CQ xn vc tR
theorem ZL{cr:cx}(W:WQ cr):rQ Rx.w ajV (fun n d=>su (cr n d) n (.bl 0 (.lp ZJ.body))):=wN (W.in (ZK W) 3) (cD _) (m:=3) xn vc tR
def L83:Nat->Option rk:=JB [(0,ajV)]
abbrev Uh:List Ty:=[.cp i64]
abbrev Ij:List Ty:=[.bool]
def e83:List (Nat×ny):=[]
theorem afo{cr:cx}(W:WQ cr):nZ cr e83:=.nil
def t83(x:cf Uh):Lf.T (List Pl):=qA (Ps [.im i64]) [] (Ps [.bo]) L83 Tryz.x83 3 (pY e83 3) (cq Uh x)
def k83(x:cf Uh):Bool:=cO (oy Ij (t83 x))
def m83(x:cf Uh):cf Ij:=cO (nq Ij (t83 x))
def s83:ny:=pW (Ps [.im i64]) [] (Ps [.bo]) Uh Ij fun x=>.ck (k83 x) (.ok (m83 x))
theorem afp{cr:cx}(W:WQ cr):s83.Ok 83 cr:=
 mC (W.in (afo W) 3) (W.st 83 _ rfl) rfl (vD.wL (.cons (b:=ZJ.body) (by kernel_rfl) (ZL W) .nil)) (m:=3) rfl (fun _=>ca _) (fun _=>ca _)
abbrev Ik:List Ty:=[i64]
abbrev nN:List Ty:=[.bool]
def ajW:List (Nat×ny):=[(11,s11)]
theorem ZM{cr:cx}(W:WQ cr):nZ cr ajW:=(.cons (F5 W) .nil)
def t245(x:cf Ik):Lf.T (List Pl):=qA (Ps [.n .i64]) [] (Ps [.bo]) (fun _=>none) Tryz.ajp 3 (pY ajW 3) (cq Ik x)
def ZN(x:cf Ik):Bool:=cO (oy nN (t245 x))
def ZO(x:cf Ik):cf nN:=cO (nq nN (t245 x))
def ajX:ny:=pW (Ps [.n .i64]) [] (Ps [.bo]) Ik nN fun x=>.ck (ZN x) (.ok (ZO x))
theorem ZP{cr:cx}(W:WQ cr):ajX.Ok 245 cr:=
 mC (W.in (ZM W) 3) (W.st 245 _ rfl) rfl (cD _) (m:=3) rfl (fun _=>ca _) (fun _=>ca _)
abbrev Il:List Ty:=[.cp mc,.cp oW,i64,i64,i64,i64,i64,.cp nd,.cp i64,i64,i64,i64,u64]
abbrev sH:List Ty:=[.bool]
def ajY:List (Nat×ny):=[(245,ajX)]
theorem ZQ{cr:cx}(W:WQ cr):nZ cr ajY:=(.cons (ZP W) .nil)
def t141(x:cf Il):Lf.T (List Pl):=qA (Ps [.ag (Ps [.im mc,.im oW]),.zp (Ps [.n .i64,.n .i64,.n .i64,.n .i64,.n .i64,.im nd,.im i64]),.n .i64,.ag (Ps [.n .i64,.n .i64,.n .u64])]) [] (Ps [.bo]) (fun _=>none) Tryz.ajf 3 (pY ajY 3) (cq Il x)
def ZR(x:cf Il):Bool:=cO (oy sH (t141 x))
def ZS(x:cf Il):cf sH:=cO (nq sH (t141 x))
def ajZ:ny:=pW (Ps [.ag (Ps [.im mc,.im oW]),.zp (Ps [.n .i64,.n .i64,.n .i64,.n .i64,.n .i64,.im nd,.im i64]),.n .i64,.ag (Ps [.n .i64,.n .i64,.n .u64])]) [] (Ps [.bo]) Il sH fun x=>.ck (ZR x) (.ok (ZS x))
theorem ZT{cr:cx}(W:WQ cr):ajZ.Ok 141 cr:=
 mC (W.in (ZQ W) 3) (W.st 141 _ rfl) rfl (cD _) (m:=3) rfl (fun _=>ca _) (fun _=>ca _)
abbrev xp:List Ty:=[i64,i64,i64,i64,i64,.cp nd,.cp i64,.cp mc,.cp oW,.cp nd,i64,i64]
abbrev ve:List Ty:=[]
abbrev tT:List Ty:=[.bool]
def ZU:AN:=⟨0,zZ Tryz.x84.code 0,[1,2,87,88,89],(Ps [.zp (Ps [.n .i64,.n .i64,.n .i64,.n .i64,.n .i64,.im nd,.im i64]),.pt 0 (Ps [.im mc,.im oW]),.im nd,.n .i64,.n .i64]),[⟨.GG,[],(Ps [])⟩,⟨.rt,[4],(Ps [.bo])⟩]⟩
def aj0:List (Nat×ny):=[(141,ajZ)]
theorem ZV{cr:cx}(W:WQ cr):nZ cr aj0:=(.cons (ZT W) .nil)
def CR:List Pl->Lf.T Rs:=ZU.step (fun _=>none) (pY aj0 3) 3
def aj1:rk:=KN ZU CR xp ve tT
theorem ZW{cr:cx}(W:WQ cr):rQ Rx.w aj1 (fun n d=>su (cr n d) n (.bl 0 (.lp ZU.body))):=wN (W.in (ZV W) 3) (cD _) (m:=3) xp ve tT
def L84:Nat->Option rk:=JB [(0,aj1)]
abbrev Ui:List Ty:=[.cp mc,.cp oW,i64,i64,i64,i64,i64,.cp nd,.cp i64]
abbrev AY:List Ty:=[.bool]
def e84:List (Nat×ny):=[]
theorem afq{cr:cx}(W:WQ cr):nZ cr e84:=.nil
def t84(x:cf Ui):Lf.T (List Pl):=qA (Ps [.ag (Ps [.im mc,.im oW]),.zp (Ps [.n .i64,.n .i64,.n .i64,.n .i64,.n .i64,.im nd,.im i64])]) [] (Ps [.bo]) L84 Tryz.x84 3 (pY e84 3) (cq Ui x)
def k84(x:cf Ui):Bool:=cO (oy AY (t84 x))
def m84(x:cf Ui):cf AY:=cO (nq AY (t84 x))
def s84:ny:=pW (Ps [.ag (Ps [.im mc,.im oW]),.zp (Ps [.n .i64,.n .i64,.n .i64,.n .i64,.n .i64,.im nd,.im i64])]) [] (Ps [.bo]) Ui AY fun x=>.ck (k84 x) (.ok (m84 x))
theorem afr{cr:cx}(W:WQ cr):s84.Ok 84 cr:=
 mC (W.in (afq W) 3) (W.st 84 _ rfl) rfl (vD.wL (.cons (b:=ZU.body) (by kernel_rfl) (ZW W) .nil)) (m:=3) rfl (fun _=>ca _) (fun _=>ca _)
abbrev qI:List Ty:=[.cp mc,.cp oW,.cp mc,i64,i64]
abbrev oY:List Ty:=[.cp mc,.cp oW]
abbrev q7:List Ty:=[i64]
def ZX:AN:=⟨0,zZ Tryz.x34.code 0,[1,7,8,9],(Ps [.pt 0 (Ps [.im mc,.im oW]),.im mc,.n .i64,.n .i64]),[⟨.GG,[1],(Ps [.pt 0 (Ps [.im mc,.im oW])])⟩,⟨.rt,[2],(Ps [.n .i64])⟩]⟩
def aj2:List (Nat×ny):=[(83,s83)]
theorem ZY{cr:cx}(W:WQ cr):nZ cr aj2:=(.cons (afp W) .nil)
def f340:List Pl->Lf.T Rs:=ZX.step (fun _=>none) (pY aj2 3) 3
def aj3:rk:=KN ZX f340 qI oY q7
theorem ZZ{cr:cx}(W:WQ cr):rQ Rx.w aj3 (fun n d=>su (cr n d) n (.bl 0 (.lp ZX.body))):=wN (W.in (ZY W) 3) (cD _) (m:=3) qI oY q7
abbrev uJ:List Ty:=[.cp mc,.cp oW,i64,i64]
abbrev tU:List Ty:=[]
abbrev rI:List Ty:=[i64]
def Z0:AN:=⟨2,zZ Tryz.x34.code 2,[1,26,27],(Ps [.pt 0 (Ps [.im mc,.im oW]),.n .i64,.n .i64]),[⟨.GG,[],(Ps [])⟩,⟨.rt,[2],(Ps [.n .i64])⟩]⟩
def aj4:List (Nat×ny):=[(84,s84)]
theorem Z1{cr:cx}(W:WQ cr):nZ cr aj4:=(.cons (afr W) .nil)
def f342:List Pl->Lf.T Rs:=Z0.step (fun _=>none) (pY aj4 3) 3
def aj5:rk:=KN Z0 f342 uJ tU rI
theorem Z2{cr:cx}(W:WQ cr):rQ Rx.w aj5 (fun n d=>su (cr n d) n (.bl 2 (.lp Z0.body))):=wN (W.in (Z1 W) 3) (cD _) (m:=3) uJ tU rI
def L34:Nat->Option rk:=JB [(0,aj3),(2,aj5)]
abbrev Uj:List Ty:=[.cp mc,.cp oW]
abbrev AZ:List Ty:=[i64]
def e34:List (Nat×ny):=[]
theorem afs{cr:cx}(W:WQ cr):nZ cr e34:=.nil
def t34(x:cf Uj):Lf.T (List Pl):=qA (Ps [.ag (Ps [.im mc,.im oW])]) [] (Ps [.n .i64]) L34 Tryz.x34 3 (pY e34 3) (cq Uj x)
def k34(x:cf Uj):Bool:=cO (oy AZ (t34 x))
def m34(x:cf Uj):cf AZ:=cO (nq AZ (t34 x))
def s34:ny:=pW (Ps [.ag (Ps [.im mc,.im oW])]) [] (Ps [.n .i64]) Uj AZ fun x=>.ck (k34 x) (.ok (m34 x))
theorem aft{cr:cx}(W:WQ cr):s34.Ok 34 cr:=
 mC (W.in (afs W) 3) (W.st 34 _ rfl) rfl (vD.wL (.cons (b:=ZX.body) (by kernel_rfl) (ZZ W) (.cons (b:=Z0.body) (by kernel_rfl) (Z2 W) .nil))) (m:=3) rfl (fun _=>ca _) (fun _=>ca _)
end Go.Proofs.Vq

noncomputable section
namespace Go.Proofs.Vq
open Go.Ab Go.Ab.Lf
set_option maxRecDepth 100000
abbrev DI(b:Nat):qH:=.pt b (Ps [.ow u64,.im i64,.im i64,.im i64,.im mc,.im AP,.im i64,.im uj,.im uj,.im AQ,.im AR,.n .i64,.im AU,.im AW,.im AX,.av (.sc (.pointer none))])
abbrev Z3(c:Nat):qH:=.pt c (Ps [.ow u64,.ow tEv,.n .u32])
abbrev KQ(b c d:Nat):qH:=.pt d (Ps [.im mc,.im oW,DI b,Z3 c,.im mc,.im AP,.im i64,.im uj,.im uj,.im AQ,.im AR,.n .i64,.im AU,.im AW,.im AX,.bo])
abbrev F6(b c d e:Nat):qH:=.pt e (Ps [KQ b c d,.n .i64,.n .i64,.n .i64,.n .i64])
abbrev pFn:qH:=.zp (Ps [.n .i64,.n .i64,.n .i64,.n .i64,.n .i64,.im nd,.im i64])
abbrev qm(b c d e f:Nat):qH:=.pt f (Ps [F6 b c d e,pFn,.n .i64,.ow u64,.ow u64])
abbrev sx(l:List Ty):List Ty:=.cp mc::.cp AP::.cp i64::.cp uj::.cp uj::.cp AQ::.cp AR::i64::.cp AU::.cp AW::.cp AX::l
abbrev A0(l:List Ty):List Ty:=.cp u64::.cp i64::.cp i64::.cp i64::sx l
abbrev tB(l:List Ty):List Ty:=.cp u64::.cp tEv::u32::l
abbrev DJ(l:List Ty):List Ty:=.cp mc::.cp oW::A0 (tB (sx (.bool::l)))
abbrev Ac(l:List Ty):List Ty:=DJ (i64::i64::i64::i64::l)
abbrev F7(l:List Ty):List Ty:=i64::i64::i64::i64::i64::.cp nd::.cp i64::l
abbrev F9(l:List Ty):List Ty:=Ac (F7 (i64::.cp u64::.cp u64::l))
structure Sto where
 Im:List Int
 small:List Int
 first:List Int
 tab:List Int
 mod:cf tM
structure Hos where
 rep:List Int
 log:List (den tEv)
 code:Int
structure Qe where
 sigs:List (den mc)
 fns:List (den oW)
 s:Sto
 h:Hos
 mod:cf tM
 bad:Bool
structure Rn where
 m:Qe
 fuel:Int
 ar9:Int
 depth:Int
 err:Int
structure wQ where
 r:Rn
 f:den oW
 pc:Int
 st:List Int
 lo:List Int
abbrev A1(l:List Ty)(y:cf tM)(r:cf l):cf (sx l):=(y.1,y.2.1,y.2.2.1,y.2.2.2.1,y.2.2.2.2.1,y.2.2.2.2.2.1,y.2.2.2.2.2.2.1,y.2.2.2.2.2.2.2.1,y.2.2.2.2.2.2.2.2.1,y.2.2.2.2.2.2.2.2.2.1,y.2.2.2.2.2.2.2.2.2.2.1,r)
abbrev tF(l:List Ty)(s:Sto)(r:cf l):cf (A0 l):=(s.Im,s.small,s.first,s.tab,A1 l s.mod r)
abbrev vE(l:List Ty)(s:Hos)(r:cf l):cf (tB l):=(s.rep,s.log,s.code,r)
abbrev qn(l:List Ty)(s:Qe)(r:cf l):cf (DJ l):=(s.sigs,s.fns,tF (tB (sx (.bool::l))) s.s (vE (sx (.bool::l)) s.h (A1 (.bool::l) s.mod (s.bad,r))))
abbrev y5(l:List Ty)(s:Rn)(r:cf l):cf (Ac l):=qn (i64::i64::i64::i64::l) s.m (s.fuel,s.ar9,s.depth,s.err,r)
abbrev cFn(l:List Ty)(f:den oW)(r:cf l):cf (F7 l):=(f.1,f.2.1,f.2.2.1,f.2.2.2.1,f.2.2.2.2.1,f.2.2.2.2.2.1,f.2.2.2.2.2.2,r)
abbrev cz(l:List Ty)(x:wQ)(r:cf l):cf (F9 l):=y5 (F7 (i64::.cp u64::.cp u64::l)) x.r (cFn (i64::.cp u64::.cp u64::l) x.f (x.pc,x.st,x.lo,r))
def rnO(y:cf (Ac [])):Rn:=⟨⟨y.1,y.2.1,⟨y.2.2.1,y.2.2.2.1,y.2.2.2.2.1,y.2.2.2.2.2.1,(y.2.2.2.2.2.2.1,y.2.2.2.2.2.2.2.1,y.2.2.2.2.2.2.2.2.1,y.2.2.2.2.2.2.2.2.2.1,y.2.2.2.2.2.2.2.2.2.2.1,y.2.2.2.2.2.2.2.2.2.2.2.1,y.2.2.2.2.2.2.2.2.2.2.2.2.1,y.2.2.2.2.2.2.2.2.2.2.2.2.2.1,y.2.2.2.2.2.2.2.2.2.2.2.2.2.2.1,y.2.2.2.2.2.2.2.2.2.2.2.2.2.2.2.1,y.2.2.2.2.2.2.2.2.2.2.2.2.2.2.2.2.1,())⟩,⟨y.2.2.2.2.2.2.2.2.2.2.2.2.2.2.2.2.2.1,y.2.2.2.2.2.2.2.2.2.2.2.2.2.2.2.2.2.2.1,y.2.2.2.2.2.2.2.2.2.2.2.2.2.2.2.2.2.2.2.1⟩,(y.2.2.2.2.2.2.2.2.2.2.2.2.2.2.2.2.2.2.2.2.1,y.2.2.2.2.2.2.2.2.2.2.2.2.2.2.2.2.2.2.2.2.2.1,y.2.2.2.2.2.2.2.2.2.2.2.2.2.2.2.2.2.2.2.2.2.2.1,y.2.2.2.2.2.2.2.2.2.2.2.2.2.2.2.2.2.2.2.2.2.2.2.1,y.2.2.2.2.2.2.2.2.2.2.2.2.2.2.2.2.2.2.2.2.2.2.2.2.1,y.2.2.2.2.2.2.2.2.2.2.2.2.2.2.2.2.2.2.2.2.2.2.2.2.2.1,y.2.2.2.2.2.2.2.2.2.2.2.2.2.2.2.2.2.2.2.2.2.2.2.2.2.2.1,y.2.2.2.2.2.2.2.2.2.2.2.2.2.2.2.2.2.2.2.2.2.2.2.2.2.2.2.1,y.2.2.2.2.2.2.2.2.2.2.2.2.2.2.2.2.2.2.2.2.2.2.2.2.2.2.2.2.1,y.2.2.2.2.2.2.2.2.2.2.2.2.2.2.2.2.2.2.2.2.2.2.2.2.2.2.2.2.2.1,y.2.2.2.2.2.2.2.2.2.2.2.2.2.2.2.2.2.2.2.2.2.2.2.2.2.2.2.2.2.2.1,()),y.2.2.2.2.2.2.2.2.2.2.2.2.2.2.2.2.2.2.2.2.2.2.2.2.2.2.2.2.2.2.2.1⟩,y.2.2.2.2.2.2.2.2.2.2.2.2.2.2.2.2.2.2.2.2.2.2.2.2.2.2.2.2.2.2.2.2.1,y.2.2.2.2.2.2.2.2.2.2.2.2.2.2.2.2.2.2.2.2.2.2.2.2.2.2.2.2.2.2.2.2.2.1,y.2.2.2.2.2.2.2.2.2.2.2.2.2.2.2.2.2.2.2.2.2.2.2.2.2.2.2.2.2.2.2.2.2.2.1,y.2.2.2.2.2.2.2.2.2.2.2.2.2.2.2.2.2.2.2.2.2.2.2.2.2.2.2.2.2.2.2.2.2.2.2.1⟩
def cJ(y:cf (F9 [])):wQ:=⟨⟨⟨y.1,y.2.1,⟨y.2.2.1,y.2.2.2.1,y.2.2.2.2.1,y.2.2.2.2.2.1,(y.2.2.2.2.2.2.1,y.2.2.2.2.2.2.2.1,y.2.2.2.2.2.2.2.2.1,y.2.2.2.2.2.2.2.2.2.1,y.2.2.2.2.2.2.2.2.2.2.1,y.2.2.2.2.2.2.2.2.2.2.2.1,y.2.2.2.2.2.2.2.2.2.2.2.2.1,y.2.2.2.2.2.2.2.2.2.2.2.2.2.1,y.2.2.2.2.2.2.2.2.2.2.2.2.2.2.1,y.2.2.2.2.2.2.2.2.2.2.2.2.2.2.2.1,y.2.2.2.2.2.2.2.2.2.2.2.2.2.2.2.2.1,())⟩,⟨y.2.2.2.2.2.2.2.2.2.2.2.2.2.2.2.2.2.1,y.2.2.2.2.2.2.2.2.2.2.2.2.2.2.2.2.2.2.1,y.2.2.2.2.2.2.2.2.2.2.2.2.2.2.2.2.2.2.2.1⟩,(y.2.2.2.2.2.2.2.2.2.2.2.2.2.2.2.2.2.2.2.2.1,y.2.2.2.2.2.2.2.2.2.2.2.2.2.2.2.2.2.2.2.2.2.1,y.2.2.2.2.2.2.2.2.2.2.2.2.2.2.2.2.2.2.2.2.2.2.1,y.2.2.2.2.2.2.2.2.2.2.2.2.2.2.2.2.2.2.2.2.2.2.2.1,y.2.2.2.2.2.2.2.2.2.2.2.2.2.2.2.2.2.2.2.2.2.2.2.2.1,y.2.2.2.2.2.2.2.2.2.2.2.2.2.2.2.2.2.2.2.2.2.2.2.2.2.1,y.2.2.2.2.2.2.2.2.2.2.2.2.2.2.2.2.2.2.2.2.2.2.2.2.2.2.1,y.2.2.2.2.2.2.2.2.2.2.2.2.2.2.2.2.2.2.2.2.2.2.2.2.2.2.2.1,y.2.2.2.2.2.2.2.2.2.2.2.2.2.2.2.2.2.2.2.2.2.2.2.2.2.2.2.2.1,y.2.2.2.2.2.2.2.2.2.2.2.2.2.2.2.2.2.2.2.2.2.2.2.2.2.2.2.2.2.1,y.2.2.2.2.2.2.2.2.2.2.2.2.2.2.2.2.2.2.2.2.2.2.2.2.2.2.2.2.2.2.1,()),y.2.2.2.2.2.2.2.2.2.2.2.2.2.2.2.2.2.2.2.2.2.2.2.2.2.2.2.2.2.2.2.1⟩,y.2.2.2.2.2.2.2.2.2.2.2.2.2.2.2.2.2.2.2.2.2.2.2.2.2.2.2.2.2.2.2.2.1,y.2.2.2.2.2.2.2.2.2.2.2.2.2.2.2.2.2.2.2.2.2.2.2.2.2.2.2.2.2.2.2.2.2.1,y.2.2.2.2.2.2.2.2.2.2.2.2.2.2.2.2.2.2.2.2.2.2.2.2.2.2.2.2.2.2.2.2.2.2.1,y.2.2.2.2.2.2.2.2.2.2.2.2.2.2.2.2.2.2.2.2.2.2.2.2.2.2.2.2.2.2.2.2.2.2.2.1⟩,(y.2.2.2.2.2.2.2.2.2.2.2.2.2.2.2.2.2.2.2.2.2.2.2.2.2.2.2.2.2.2.2.2.2.2.2.2.1,y.2.2.2.2.2.2.2.2.2.2.2.2.2.2.2.2.2.2.2.2.2.2.2.2.2.2.2.2.2.2.2.2.2.2.2.2.2.1,y.2.2.2.2.2.2.2.2.2.2.2.2.2.2.2.2.2.2.2.2.2.2.2.2.2.2.2.2.2.2.2.2.2.2.2.2.2.2.1,y.2.2.2.2.2.2.2.2.2.2.2.2.2.2.2.2.2.2.2.2.2.2.2.2.2.2.2.2.2.2.2.2.2.2.2.2.2.2.2.1,y.2.2.2.2.2.2.2.2.2.2.2.2.2.2.2.2.2.2.2.2.2.2.2.2.2.2.2.2.2.2.2.2.2.2.2.2.2.2.2.2.1,y.2.2.2.2.2.2.2.2.2.2.2.2.2.2.2.2.2.2.2.2.2.2.2.2.2.2.2.2.2.2.2.2.2.2.2.2.2.2.2.2.2.1,y.2.2.2.2.2.2.2.2.2.2.2.2.2.2.2.2.2.2.2.2.2.2.2.2.2.2.2.2.2.2.2.2.2.2.2.2.2.2.2.2.2.2.1),y.2.2.2.2.2.2.2.2.2.2.2.2.2.2.2.2.2.2.2.2.2.2.2.2.2.2.2.2.2.2.2.2.2.2.2.2.2.2.2.2.2.2.2.1,y.2.2.2.2.2.2.2.2.2.2.2.2.2.2.2.2.2.2.2.2.2.2.2.2.2.2.2.2.2.2.2.2.2.2.2.2.2.2.2.2.2.2.2.2.1,y.2.2.2.2.2.2.2.2.2.2.2.2.2.2.2.2.2.2.2.2.2.2.2.2.2.2.2.2.2.2.2.2.2.2.2.2.2.2.2.2.2.2.2.2.2.1⟩
end Go.Proofs.Vq

noncomputable section
namespace Go.Proofs.Vq
open Go.Ab Go.Ab.Lf
set_option maxRecDepth 100000
abbrev Uk:List Ty:=[i64,u64,u64]
abbrev cT:List Ty:=[u64,i64]
def e12:List (Nat×ny):=[(11,s11)]
theorem afu{cr:cx}(W:WQ cr):nZ cr e12:=(.cons (F5 W) .nil)
def t12(x:cf Uk):Lf.T (List Pl):=qA (Ps [.n .i64,.n .u64,.n .u64]) [] (Ps [.tu (Ps [.n .u64,.n .i64])]) (fun _=>none) Tryz.NC 3 (pY e12 3) (cq Uk x)
def F'(x:cf Uk):Bool:=cO (oy cT (t12 x))
def m12(x:cf Uk):cf cT:=cO (nq cT (t12 x))
def s12:ny:=pW (Ps [.n .i64,.n .u64,.n .u64]) [] (Ps [.tu (Ps [.n .u64,.n .i64])]) Uk cT fun x=>.ck (F' x) (.ok (m12 x))
theorem afv{cr:cx}(W:WQ cr):s12.Ok 12 cr:=
 mC (W.in (afu W) 3) (W.st 12 _ rfl) rfl (cD _) (m:=3) rfl (fun _=>ca _) (fun _=>ca _)
abbrev Ul:List Ty:=[u32]
abbrev Um:List Ty:=[i64]
def e51:List (Nat×ny):=[]
theorem afw{cr:cx}(W:WQ cr):nZ cr e51:=.nil
def t51(x:cf Ul):Lf.T (List Pl):=qA (Ps [.n .u32]) [] (Ps [.n .i64]) (fun _=>none) Tryz.x51 3 (pY e51 3) (cq Ul x)
def k51(x:cf Ul):Bool:=cO (oy Um (t51 x))
def m51(x:cf Ul):cf Um:=cO (nq Um (t51 x))
def s51:ny:=pW (Ps [.n .u32]) [] (Ps [.n .i64]) Ul Um fun x=>.ck (k51 x) (.ok (m51 x))
theorem afx{cr:cx}(W:WQ cr):s51.Ok 51 cr:=
 mC (W.in (afw W) 3) (W.st 51 _ rfl) rfl (cD _) (m:=3) rfl (fun _=>ca _) (fun _=>ca _)
abbrev Un:List Ty:=[u64]
abbrev Uo:List Ty:=[i64]
def e54:List (Nat×ny):=[]
theorem afy{cr:cx}(W:WQ cr):nZ cr e54:=.nil
def t54(x:cf Un):Lf.T (List Pl):=qA (Ps [.n .u64]) [] (Ps [.n .i64]) (fun _=>none) Tryz.x54 3 (pY e54 3) (cq Un x)
def k54(x:cf Un):Bool:=cO (oy Uo (t54 x))
def m54(x:cf Un):cf Uo:=cO (nq Uo (t54 x))
def s54:ny:=pW (Ps [.n .u64]) [] (Ps [.n .i64]) Un Uo fun x=>.ck (k54 x) (.ok (m54 x))
theorem afz{cr:cx}(W:WQ cr):s54.Ok 54 cr:=
 mC (W.in (afy W) 3) (W.st 54 _ rfl) rfl (cD _) (m:=3) rfl (fun _=>ca _) (fun _=>ca _)
abbrev Up:List Ty:=[i64,u64]
abbrev qB:List Ty:=[u64,i64]
def e13:List (Nat×ny):=[(49,s49),(50,s50),(52,s52),(53,s53),(11,s11),(51,s51),(54,s54)]
theorem afA{cr:cx}(W:WQ cr):nZ cr e13:=(.cons W.b49 (.cons W.b50 (.cons W.b52 (.cons W.b53 (.cons (F5 W) (.cons (afx W) (.cons (afz W) .nil)))))))
def t13(x:cf Up):Lf.T (List Pl):=qA (Ps [.n .i64,.n .u64]) [] (Ps [.tu (Ps [.n .u64,.n .i64])]) (fun _=>none) Tryz.Q0 3 (pY e13 3) (cq Up x)
def Xe(x:cf Up):Bool:=cO (oy qB (t13 x))
def m13(x:cf Up):cf qB:=cO (nq qB (t13 x))
def s13:ny:=pW (Ps [.n .i64,.n .u64]) [] (Ps [.tu (Ps [.n .u64,.n .i64])]) Up qB fun x=>.ck (Xe x) (.ok (m13 x))
theorem afB{cr:cx}(W:WQ cr):s13.Ok 13 cr:=
 mC (W.in (afA W) 3) (W.st 13 _ rfl) rfl (cD _) (m:=3) rfl (fun _=>ca _) (fun _=>ca _)
abbrev Ip:List Ty:=F9 [i64,i64]
abbrev CS:List Ty:=.bool::F9 []
def aj7:List (Nat×ny):=[]
theorem Z4{cr:cx}(W:WQ cr):nZ cr aj7:=.nil
def t232(x:cf Ip):Lf.T (List Pl):=qA (Ps [qm 0 0 0 0 0,.n .i64,.n .i64]) [37] (Ps [.bo,qm 17 20 31 32 37]) (fun _=>none) Tryz.ajl 3 (pY aj7 3) (cq Ip x)
def sO(x:cf Ip):Bool:=cO (oy CS (t232 x))
def cu(x:cf Ip):cf CS:=cO (nq CS (t232 x))
def KR:ny:=pW (Ps [qm 0 0 0 0 0,.n .i64,.n .i64]) [37] (Ps [.bo,qm 17 20 31 32 37]) Ip CS fun x=>.ck (sO x) (.ok (cu x))
theorem wR{cr:cx}(W:WQ cr):KR.Ok 232 cr:=
 mC (W.in (Z4 W) 3) (W.st 232 _ rfl) rfl (cD _) (m:=3) rfl (fun _=>ca _) (fun _=>ca _)
abbrev Iq:List Ty:=F9 [i64,i64,u64]
abbrev qo:List Ty:=F9 []
def aj8:List (Nat×ny):=[(232,KR)]
theorem Z5{cr:cx}(W:WQ cr):nZ cr aj8:=(.cons (wR W) .nil)
def t307(x:cf Iq):Lf.T (List Pl):=qA (Ps [qm 0 0 0 0 0,.ag (Ps [.n .i64,.n .i64,.n .u64])]) [37] (Ps [.tu .nil,qm 17 20 31 32 37]) (fun _=>none) Tryz.aju 3 (pY aj8 3) (cq Iq x)
def afC(x:cf Iq):Bool:=cO (oy qo (t307 x))
def afD(x:cf Iq):cf qo:=cO (nq qo (t307 x))
def aj9:ny:=pW (Ps [qm 0 0 0 0 0,.ag (Ps [.n .i64,.n .i64,.n .u64])]) [37] (Ps [.tu .nil,qm 17 20 31 32 37]) Iq qo fun x=>.ck (afC x) (.ok (afD x))
theorem Z6{cr:cx}(W:WQ cr):aj9.Ok 307 cr:=
 mC (W.in (Z5 W) 3) (W.st 307 _ rfl) rfl (cD _) (m:=3) rfl (fun _=>ca _) (fun _=>ca _)
abbrev Ir:List Ty:=F9 [i64,i64,u64]
abbrev NH:List Ty:=F9 []
def aj':List (Nat×ny):=[(232,KR),(353,Qd),(354,Qd),(355,Qd)]
theorem Z7{cr:cx}(W:WQ cr):nZ cr aj':=(.cons (wR W) (.cons yZ (.cons yZ (.cons yZ .nil))))
def t308(x:cf Ir):Lf.T (List Pl):=qA (Ps [qm 0 0 0 0 0,.ag (Ps [.n .i64,.n .i64,.n .u64])]) [37] (Ps [.tu .nil,qm 17 20 31 32 37]) (fun _=>none) Tryz.ajv 3 (pY aj' 3) (cq Ir x)
def aka(x:cf Ir):Bool:=cO (oy NH (t308 x))
def akb(x:cf Ir):cf NH:=cO (nq NH (t308 x))
def akc:ny:=pW (Ps [qm 0 0 0 0 0,.ag (Ps [.n .i64,.n .i64,.n .u64])]) [37] (Ps [.tu .nil,qm 17 20 31 32 37]) Ir NH fun x=>.ck (aka x) (.ok (akb x))
theorem Z8{cr:cx}(W:WQ cr):akc.Ok 308 cr:=
 mC (W.in (Z7 W) 3) (W.st 308 _ rfl) rfl (cD _) (m:=3) rfl (fun _=>ca _) (fun _=>ca _)
abbrev Is:List Ty:=F9 [i64]
abbrev NI:List Ty:=F9 []
def akd:List (Nat×ny):=[]
theorem Z9{cr:cx}(W:WQ cr):nZ cr akd:=.nil
def t231(x:cf Is):Lf.T (List Pl):=qA (Ps [qm 0 0 0 0 0,.n .i64]) [37] (Ps [.tu .nil,qm 17 20 31 32 37]) (fun _=>none) Tryz.ajk 3 (pY akd 3) (cq Is x)
def afE(x:cf Is):Bool:=cO (oy NI (t231 x))
def afF(x:cf Is):cf NI:=cO (nq NI (t231 x))
def ake:ny:=pW (Ps [qm 0 0 0 0 0,.n .i64]) [37] (Ps [.tu .nil,qm 17 20 31 32 37]) Is NI fun x=>.ck (afE x) (.ok (afF x))
theorem Z'{cr:cx}(W:WQ cr):ake.Ok 231 cr:=
 mC (W.in (Z9 W) 3) (W.st 231 _ rfl) rfl (cD _) (m:=3) rfl (fun _=>ca _) (fun _=>ca _)
abbrev It:List Ty:=F9 [i64,i64,u64]
abbrev pj:List Ty:=F9 []
def akf:List (Nat×ny):=[(232,KR),(307,aj9),(308,akc),(305,Qd),(11,s11),(12,s12),(13,s13)]
theorem aaa{cr:cx}(W:WQ cr):nZ cr akf:=(.cons (wR W) (.cons (Z6 W) (.cons (Z8 W) (.cons yZ (.cons (F5 W) (.cons (afv W) (.cons (afB W) .nil)))))))
def t236(x:cf It):Lf.T (List Pl):=qA (Ps [qm 0 0 0 0 0,.ag (Ps [.n .i64,.n .i64,.n .u64])]) [37] (Ps [.tu .nil,qm 17 20 31 32 37]) (fun _=>none) Tryz.ajo 3 (pY akf 3) (cq It x)
def DK(x:cf It):Bool:=cO (oy pj (t236 x))
def CT(x:cf It):cf pj:=cO (nq pj (t236 x))
def akg:ny:=pW (Ps [qm 0 0 0 0 0,.ag (Ps [.n .i64,.n .i64,.n .u64])]) [37] (Ps [.tu .nil,qm 17 20 31 32 37]) It pj fun x=>.ck (DK x) (.ok (CT x))
theorem aab{cr:cx}(W:WQ cr):akg.Ok 236 cr:=
 mC (W.in (aaa W) 3) (W.st 236 _ rfl) rfl (cD _) (m:=3) rfl (fun _=>ca _) (fun _=>ca _)
abbrev Cg:=(cf (Ac [i64,.cp u64])->Bool)×(cf (Ac [i64,.cp u64])->cf (.cp u64::Ac []))
def sG(g:Cg):ny:=pW (Ps [F6 0 0 0 0,.n .i64,.im u64]) [32] (Ps [.ow u64,F6 17 20 31 32]) (Ac [i64,.cp u64]) (.cp u64::Ac []) fun x=>.ck (g.1 x) (.ok (g.2 x))
abbrev Iu:List Ty:=F9 [i64]
abbrev NJ:List Ty:=F9 []
def akh(g:Cg):List (Nat×ny):=[(232,KR),(67,tA u64),(73,sG g)]
theorem aac{g:Cg}{cr:cx}(W:WQ cr)(hg:(sG g).Ok 73 cr):nZ cr (akh g):=(.cons (wR W) (.cons W.c67 (.cons hg .nil)))
def t234(g:Cg)(x:cf Iu):Lf.T (List Pl):=qA (Ps [qm 0 0 0 0 0,.n .i64]) [37] (Ps [.tu .nil,qm 17 20 31 32 37]) (fun _=>none) Tryz.ajm 3 (pY (akh g) 3) (cq Iu x)
def aki(g:Cg)(x:cf Iu):Bool:=cO (oy NJ (t234 g x))
def akj(g:Cg)(x:cf Iu):cf NJ:=cO (nq NJ (t234 g x))
def afG(g:Cg):ny:=pW (Ps [qm 0 0 0 0 0,.n .i64]) [37] (Ps [.tu .nil,qm 17 20 31 32 37]) Iu NJ fun x=>.ck (aki g x) (.ok (akj g x))
theorem NK{g:Cg}{cr:cx}(W:WQ cr)(hg:(sG g).Ok 73 cr):(afG g).Ok 234 cr:=
 mC (W.in (aac W hg) 3) (W.st 234 _ rfl) rfl (cD _) (m:=3) rfl (fun _=>ca _) (fun _=>ca _)
abbrev Iv:List Ty:=F9 [i64]
abbrev NL:List Ty:=F9 []
def akk(g:Cg):List (Nat×ny):=[(232,KR),(234,afG g)]
theorem aad{g:Cg}{cr:cx}(W:WQ cr)(hg:(sG g).Ok 73 cr):nZ cr (akk g):=(.cons (wR W) (.cons (NK W hg) .nil))
def t235(g:Cg)(x:cf Iv):Lf.T (List Pl):=qA (Ps [qm 0 0 0 0 0,.n .i64]) [37] (Ps [.tu .nil,qm 17 20 31 32 37]) (fun _=>none) Tryz.ajn 3 (pY (akk g) 3) (cq Iv x)
def akl(g:Cg)(x:cf Iv):Bool:=cO (oy NL (t235 g x))
def akm(g:Cg)(x:cf Iv):cf NL:=cO (nq NL (t235 g x))
def akn(g:Cg):ny:=pW (Ps [qm 0 0 0 0 0,.n .i64]) [37] (Ps [.tu .nil,qm 17 20 31 32 37]) Iv NL fun x=>.ck (akl g x) (.ok (akm g x))
theorem aae{g:Cg}{cr:cx}(W:WQ cr)(hg:(sG g).Ok 73 cr):(akn g).Ok 235 cr:=
 mC (W.in (aad W hg) 3) (W.st 235 _ rfl) rfl (cD _) (m:=3) rfl (fun _=>ca _) (fun _=>ca _)
abbrev Ez:List Ty:=F9 [i64,i64,u64]
abbrev rT:List Ty:=F9 []
def ako(g:Cg):List (Nat×ny):=[(232,KR),(231,ake),(234,afG g),(235,akn g),(236,akg)]
theorem aaf{g:Cg}{cr:cx}(W:WQ cr)(hg:(sG g).Ok 73 cr):nZ cr (ako g):=(.cons (wR W) (.cons (Z' W) (.cons (NK W hg) (.cons (aae W hg) (.cons (aab W) .nil)))))
def t134(g:Cg)(x:cf Ez):Lf.T (List Pl):=qA (Ps [qm 0 0 0 0 0,.ag (Ps [.n .i64,.n .i64,.n .u64])]) [37] (Ps [.tu .nil,qm 17 20 31 32 37]) (fun _=>none) Tryz.aje 3 (pY (ako g) 3) (cq Ez x)
def Qf(g:Cg)(x:cf Ez):Bool:=cO (oy rT (t134 g x))
def Qg(g:Cg)(x:cf Ez):cf rT:=cO (nq rT (t134 g x))
def akp(g:Cg):ny:=pW (Ps [qm 0 0 0 0 0,.ag (Ps [.n .i64,.n .i64,.n .u64])]) [37] (Ps [.tu .nil,qm 17 20 31 32 37]) Ez rT fun x=>.ck (Qf g x) (.ok (Qg g x))
theorem aag{g:Cg}{cr:cx}(W:WQ cr)(hg:(sG g).Ok 73 cr):(akp g).Ok 134 cr:=
 mC (W.in (aaf W hg) 3) (W.st 134 _ rfl) rfl (cD _) (m:=3) rfl (fun _=>ca _) (fun _=>ca _)
end Go.Proofs.Vq

noncomputable section
namespace Go.Proofs.Vq
open Go.Ab Go.Ab.Lf
set_option maxRecDepth 100000
abbrev q8:List Ty:=Ac (F7 (F7 [i64,.cp u64,.cp u64]))
abbrev pZ:List Ty:=Ac (F7 [i64,.cp u64,.cp u64])
def aah:AN:=⟨0,zZ Tryz.x73.code 0,[0,7,8],(Ps [F6 17 20 31 32,pFn,.pt 0 (Ps [.rp 32 0,pFn,.n .i64,.ow u64,.ow u64])]),[⟨.GG,[0,8],Ps [F6 17 20 31 32,.pt 0 (Ps [.rp 32 0,pFn,.n .i64,.ow u64,.ow u64])]⟩]⟩
def akq(g:Cg):List (Nat×ny):=[(134,akp g)]
theorem aai{g:Cg}{cr:cx}(W:WQ cr)(hg:(sG g).Ok 73 cr):nZ cr (akq g):=(.cons (aag W hg) .nil)
def A2(g:Cg):List Pl->Lf.T Rs:=aah.step (fun _=>none) (pY (akq g) 3) 3
def akr(g:Cg):rk:=Qb aah (A2 g) q8 pZ
theorem aaj{g:Cg}{cr:cx}(W:WQ cr)(hg:(sG g).Ok 73 cr):rQ Rx.w (akr g) (fun n d=>su (cr n d) n (.bl 0 (.lp aah.body))):=yX (W.in (aai W hg) 3) (cD _) (m:=3) q8 pZ
def L73(g:Cg):Nat->Option rk:=JB [(0,akr g)]
abbrev Uq:List Ty:=Ac [i64,.cp u64]
abbrev Iw:List Ty:=(.cp u64)::Ac []
def e73(g:Cg):List (Nat×ny):=[(67,tA u64),(132,Qd)]
theorem afH{g:Cg}{cr:cx}(W:WQ cr)(hg:(sG g).Ok 73 cr):nZ cr (e73 g):=(.cons W.c67 (.cons yZ .nil))
def t73(g:Cg)(x:cf Uq):Lf.T (List Pl):=qA (Ps [F6 0 0 0 0,.n .i64,.im u64]) [32] (Ps [.ow u64,F6 17 20 31 32]) (L73 g) Tryz.x73 3 (pY (e73 g) 3) (cq Uq x)
def k73(g:Cg)(x:cf Uq):Bool:=cO (oy Iw (t73 g x))
def m73(g:Cg)(x:cf Uq):cf Iw:=cO (nq Iw (t73 g x))
def s73(g:Cg):ny:=pW (Ps [F6 0 0 0 0,.n .i64,.im u64]) [32] (Ps [.ow u64,F6 17 20 31 32]) Uq Iw fun x=>.ck (k73 g x) (.ok (m73 g x))
theorem afI{g:Cg}{cr:cx}(W:WQ cr)(hg:(sG g).Ok 73 cr):(s73 g).Ok 73 cr:=
 mC (W.in (afH W hg) 3) (W.st 73 _ rfl) rfl (vD.wL (.cons (b:=aah.body) (by kernel_rfl) (aaj W hg) .nil)) (m:=3) rfl (fun _=>ca _) (fun _=>ca _)
abbrev sy:List Ty:=DJ [i64,i64,.cp u64,.cp i64,i64,i64]
abbrev rU:List Ty:=DJ [i64,i64,.cp u64]
def NM:AN:=⟨1,zZ Tryz.x23.code 1,[0,1,3,8,9,77,78,79],(Ps [KQ 17 20 31,.n .i64,.n .i64,.pt 0 (Ps [.li .i64 0,.li .u32 0,.av (.sc (.slice none 0 0)),.li .i64 0]),.ow u64,.im i64,.n .i64,.n .i64]),[⟨.GG,[0,1,3,8,9],Ps [KQ 17 20 31,.n .i64,.n .i64,.pt 0 (Ps [.li .i64 0,.li .u32 0,.av (.sc (.slice none 0 0)),.li .i64 0]),.ow u64]⟩]⟩
def acz:List (Nat×ny):=[]
theorem Ur{cr:cx}(W:WQ cr):nZ cr acz:=.nil
def EA:List Pl->Lf.T Rs:=NM.step (fun _=>none) (pY acz 3) 3
def acA:rk:=Qb NM EA sy rU
theorem Us{cr:cx}(W:WQ cr):rQ Rx.w acA (fun n d=>su (cr n d) n (.bl 1 (.lp NM.body))):=yX (W.in (Ur W) 3) (cD _) (m:=3) sy rU
def L23:Nat->Option rk:=JB [(1,acA)]
abbrev Qh:List Ty:=DJ [i64,.cp u64,i64]
abbrev Ga:List Ty:=i64::u32::(.cp u64)::i64::DJ []
def e23(g:Cg):List (Nat×ny):=[(67,tA u64),(73,sG g)]
theorem afJ{g:Cg}{cr:cx}(W:WQ cr)(hg:(sG g).Ok 73 cr):nZ cr (e23 g):=(.cons W.c67 (.cons hg .nil))
def t23(g:Cg)(x:cf Qh):Lf.T (List Pl):=qA (Ps [KQ 0 0 0,.n .i64,.im u64,.n .i64]) [31] (Ps [.ag (Ps [.n .i64,.n .u32,.ow u64,.n .i64]),KQ 17 20 31]) L23 Tryz.x23 3 (pY (e23 g) 3) (cq Qh x)
def k23(g:Cg)(x:cf Qh):Bool:=cO (oy Ga (t23 g x))
def m23(g:Cg)(x:cf Qh):cf Ga:=cO (nq Ga (t23 g x))
def s23(g:Cg):ny:=pW (Ps [KQ 0 0 0,.n .i64,.im u64,.n .i64]) [31] (Ps [.ag (Ps [.n .i64,.n .u32,.ow u64,.n .i64]),KQ 17 20 31]) Qh Ga fun x=>.ck (k23 g x) (.ok (m23 g x))
theorem Ut{g:Cg}{cr:cx}(W:WQ cr)(hg:(sG g).Ok 73 cr):(s23 g).Ok 23 cr:=
 mC (W.in (afJ W hg) 3) (W.st 23 _ rfl) rfl (vD.wL (.cons (b:=NM.body) (by kernel_rfl) (Us W) .nil)) (m:=3) rfl (fun _=>ca _) (fun _=>ca _)
end Go.Proofs.Vq

noncomputable section
namespace Go.Proofs.Vq
open Go.Ab Go.Ab.Lf
set_option maxRecDepth 100000
def mM:cf tM:=([],[],[],[],[],[],[],(-1:Int),[],[],[],())
abbrev pMF(f:Ty->qH):qH:=.ag (Ps [f mc,f AP,f i64,f uj,f uj,f AQ,f AR,.n .i64,f AU,f AW,f AX])
def Qi(y:cf tM):Bool:= @decide (y=mM) (Classical.propDecidable _)
theorem Bp:Qi mM=true:=by unfold Qi;exact @decide_eq_true _ (Classical.propDecidable _) rfl
theorem KS{y:cf tM}(h:Qi y=true):y=mM:=by unfold Qi at h;exact @of_decide_eq_true _ (Classical.propDecidable _) h
def eCl:List (Nat×ny):=[(67,tA u64),(69,tA mc),(70,tA i64),(71,ZI),(72,tA nd),(116,tA AP),(117,tA uj),(118,tA AQ),(120,tA AR),(121,tA AU),(122,tA AW),(123,tA AX),(124,tA u8),(221,tA tI)]
theorem Uu{cr:cx}(W:WQ cr):nZ cr eCl:=.cons W.c67 (.cons W.c69 (.cons W.c70 (.cons W.c71 (.cons W.c72 (.cons W.ajK (.cons W.ajL (.cons W.ajM (.cons W.ajN (.cons W.ajO (.cons W.ajP (.cons W.ajQ (.cons W.ajR (.cons W.ajS .nil)))))))))))))
def Uv(p:cf tM->Bool):ny:=pW (Ps [pMF .im]) [] (Ps [.n .i64]) tM [i64] fun x=>.ck (p x) (.ok (0,()))
def Ix:Sto:=⟨[],[],[],[],mM⟩
abbrev aks:List Ty:=A0 [i64]
def t18(p:cf tM->Bool):Lf.T (List Pl):=qA (Ps [pMF .im]) [] (Ps [.tu (Ps [DI 0,.n .i64])]) (fun _=>none) Tryz.x18 12 (pY ((56,Uv p)::eCl) 12) (cq tM mM)
theorem asf(p:cf tM->Bool):(t18 p).val=cF (p mM) (some (cq aks (tF [i64] Ix (0,())))):=by kernel_rfl
def s18:ny:=pW (Ps [pMF .im]) [] (Ps [.tu (Ps [DI 0,.n .i64])]) tM aks fun x=>.ck (Qi x) (.ok (tF [i64] Ix (0,())))
theorem Uw{cr:cx}(W:WQ cr)(hc:(Uv Qi).Ok 56 cr):s18.Ok 18 cr:=by
 refine tw (W.in (.cons hc (Uu W)) 12) (W.st 18 _ rfl) rfl (cD _) (m:=12) rfl ?_
 intro x q h
 obtain⟨h1,h2⟩:=Lf.T.cP h
 cases h2
 obtain rfl:=KS h1
 have e:=asf Qi
 rw[Bp]at e
 exact e
def s68:ny:=pW (Ps [DI 0]) [15] (Ps [pMF .im,DI 15]) (A0 []) (sx (A0 [])) fun x=>.ck (Qi (x.2.2.2.2.1,x.2.2.2.2.2.1,x.2.2.2.2.2.2.1,x.2.2.2.2.2.2.2.1,x.2.2.2.2.2.2.2.2.1,x.2.2.2.2.2.2.2.2.2.1,x.2.2.2.2.2.2.2.2.2.2.1,x.2.2.2.2.2.2.2.2.2.2.2.1,x.2.2.2.2.2.2.2.2.2.2.2.2.1,x.2.2.2.2.2.2.2.2.2.2.2.2.2.1,x.2.2.2.2.2.2.2.2.2.2.2.2.2.2.1,())) (.ok (A1 (A0 []) mM x))
theorem asi(v sm fi tb:List Int):(qA (Ps [DI 0]) [15] (Ps [pMF .im,DI 15]) (fun _=>none) Tryz.x68 12 (pY eCl 12) (cq (A0 []) (tF [] ⟨v,sm,fi,tb,mM⟩ ()))).val=some (cq (sx (A0 [])) (A1 (A0 []) mM (tF [] ⟨v,sm,fi,tb,mM⟩ ()))):=by kernel_rfl
theorem afK{cr:cx}(W:WQ cr):s68.Ok 68 cr:=by
 refine tw (W.in (Uu W) 12) (W.st 68 _ rfl) rfl (cD _) (m:=12) rfl ?_
 rintro⟨v,sm,fi,tb,m1,m2,m3,m4,m5,m6,m7,m8,m9,m10,m11,⟨⟩⟩ q h
 obtain⟨h1,h2⟩:=Lf.T.cP h
 cases h2
 have h1:=KS h1
 have e1:m1=mM.1:=congrArg Prod.fst h1
 have e2:m2=mM.2.1:=congrArg (fun y:cf tM=>y.2.1) h1
 have e3:m3=mM.2.2.1:=congrArg (fun y:cf tM=>y.2.2.1) h1
 have e4:m4=mM.2.2.2.1:=congrArg (fun y:cf tM=>y.2.2.2.1) h1
 have e5:m5=mM.2.2.2.2.1:=congrArg (fun y:cf tM=>y.2.2.2.2.1) h1
 have e6:m6=mM.2.2.2.2.2.1:=congrArg (fun y:cf tM=>y.2.2.2.2.2.1) h1
 have e7:m7=mM.2.2.2.2.2.2.1:=congrArg (fun y:cf tM=>y.2.2.2.2.2.2.1) h1
 have e8:m8=mM.2.2.2.2.2.2.2.1:=congrArg (fun y:cf tM=>y.2.2.2.2.2.2.2.1) h1
 have e9:m9=mM.2.2.2.2.2.2.2.2.1:=congrArg (fun y:cf tM=>y.2.2.2.2.2.2.2.2.1) h1
 have e10:m10=mM.2.2.2.2.2.2.2.2.2.1:=congrArg (fun y:cf tM=>y.2.2.2.2.2.2.2.2.2.1) h1
 have e11:m11=mM.2.2.2.2.2.2.2.2.2.2.1:=congrArg (fun y:cf tM=>y.2.2.2.2.2.2.2.2.2.2.1) h1
 subst e1 e2 e3 e4 e5 e6 e7 e8 e9 e10 e11
 exact asi v sm fi tb
end Go.Proofs.Vq

noncomputable section
namespace Go.Proofs.Vq
open Go.Ab Go.Ab.Lf
set_option maxRecDepth 100000
abbrev EB(a b:qH)(x y z:Nat):qH:=.pt z (Ps [a,b,DI x,Z3 y,.im mc,.im AP,.im i64,.im uj,.im uj,.im AQ,.im AR,.n .i64,.im AU,.im AW,.im AX,.bo])
abbrev uk:List Ty:=.cp mc::.cp oW::.cp mc::A0 (tB (sx [.bool,i64,i64]))
abbrev rV:List Ty:=.cp mc::.cp oW::.cp mc::A0 (tB (sx [.bool]))
def NN:AN:=⟨0,zZ Tryz.x22.code 0,[3,7,31,32,33],(Ps [.pt 0 (Ps [.im mc,.im oW]),EB (.ow mc) (.av (.sc (.slice none 0 0))) 17 20 0,.oo 4 2,.n .i64,.n .i64]),[⟨.GG,[3,7],Ps [.pt 0 (Ps [.im mc,.im oW]),EB (.ow mc) (.av (.sc (.slice none 0 0))) 17 20 0]⟩]⟩
def acC:List (Nat×ny):=[(70,tA i64)]
theorem Ux{cr:cx}(W:WQ cr):nZ cr acC:=(.cons W.c70 .nil)
def EC:List Pl->Lf.T Rs:=NN.step (fun _=>none) (pY acC 3) 3
def acD:rk:=Qb NN EC uk rV
theorem Uy{cr:cx}(W:WQ cr):rQ Rx.w acD (fun n d=>su (cr n d) n (.bl 0 (.lp NN.body))):=yX (W.in (Ux W) 3) (cD _) (m:=3) uk rV
abbrev tC:List Ty:=DJ [i64,i64]
abbrev rW:List Ty:=DJ []
def NO:AN:=⟨2,zZ Tryz.x22.code 2,[7,65,66],(Ps [EB (.im mc) (.ow oW) 17 20 0,.n .i64,.n .i64]),[⟨.GG,[7],Ps [EB (.im mc) (.ow oW) 17 20 0]⟩]⟩
def acE:List (Nat×ny):=[(72,tA nd)]
theorem Uz{cr:cx}(W:WQ cr):nZ cr acE:=(.cons W.c72 .nil)
def CU:List Pl->Lf.T Rs:=NO.step (fun _=>none) (pY acE 3) 3
def acF:rk:=Qb NO CU tC rW
theorem UA{cr:cx}(W:WQ cr):rQ Rx.w acF (fun n d=>su (cr n d) n (.bl 2 (.lp NO.body))):=yX (W.in (Uz W) 3) (cD _) (m:=3) tC rW
def L22:Nat->Option rk:=JB [(0,acD),(2,acF)]
abbrev DL:List Ty:=.cp mc::.cp oW::A0 (tB [])
abbrev KT:List Ty:=DJ []
def e22:List (Nat×ny):=[(68,s68),(34,s34),(69,tA mc),(70,tA i64),(71,ZI),(72,tA nd)]
theorem afL{cr:cx}(W:WQ cr):nZ cr e22:=(.cons (afK W) (.cons (aft W) (.cons W.c69 (.cons W.c70 (.cons W.c71 (.cons W.c72 .nil))))))
def t22(x:cf DL):Lf.T (List Pl):=qA (Ps [.ag (Ps [.im mc,.im oW]),DI 0,Z3 0]) [] (Ps [EB (.im mc) (.im oW) 17 20 0]) L22 Tryz.x22 3 (pY e22 3) (cq DL x)
def k22(x:cf DL):Bool:=cO (oy KT (t22 x))
def m22(x:cf DL):cf KT:=cO (nq KT (t22 x))
def s22:ny:=pW (Ps [.ag (Ps [.im mc,.im oW]),DI 0,Z3 0]) [] (Ps [EB (.im mc) (.im oW) 17 20 0]) DL KT fun x=>.ck (k22 x) (.ok (m22 x))
theorem UB{cr:cx}(W:WQ cr):s22.Ok 22 cr:=
 mC (W.in (afL W) 3) (W.st 22 _ rfl) rfl (vD.wL (.cons (b:=NN.body) (by kernel_rfl) (Uy W) (.cons (b:=NO.body) (by kernel_rfl) (UA W) .nil))) (m:=3) rfl (fun _=>ca _) (fun _=>ca _)
abbrev wu:List Ty:=[.cp u64,.cp u64,i64]
abbrev uL:List Ty:=[]
abbrev wv:List Ty:=[.bool]
def NP:AN:=⟨0,zZ Tryz.x25.code 0,[0,1,5],(Ps [.im u64,.im u64,.n .i64]),[⟨.GG,[],(Ps [])⟩,⟨.rt,[4],(Ps [.bo])⟩]⟩
def acG:List (Nat×ny):=[]
theorem UC{cr:cx}(W:WQ cr):nZ cr acG:=.nil
def y7:List Pl->Lf.T Rs:=NP.step (fun _=>none) (pY acG 3) 3
def acH:rk:=KN NP y7 wu uL wv
theorem UD{cr:cx}(W:WQ cr):rQ Rx.w acH (fun n d=>su (cr n d) n (.bl 0 (.lp NP.body))):=wN (W.in (UC W) 3) (cD _) (m:=3) wu uL wv
def L25:Nat->Option rk:=JB [(0,acH)]
abbrev UE:List Ty:=[.cp u64,.cp u64]
abbrev KU:List Ty:=[.bool]
def e25:List (Nat×ny):=[]
theorem afN{cr:cx}(W:WQ cr):nZ cr e25:=.nil
def t25(x:cf UE):Lf.T (List Pl):=qA (Ps [.im u64,.im u64]) [] (Ps [.bo]) L25 Tryz.x25 3 (pY e25 3) (cq UE x)
def k25(x:cf UE):Bool:=cO (oy KU (t25 x))
def m25(x:cf UE):cf KU:=cO (nq KU (t25 x))
def s25:ny:=pW (Ps [.im u64,.im u64]) [] (Ps [.bo]) UE KU fun x=>.ck (k25 x) (.ok (m25 x))
theorem UG{cr:cx}(W:WQ cr):s25.Ok 25 cr:=
 mC (W.in (afN W) 3) (W.st 25 _ rfl) rfl (vD.wL (.cons (b:=NP.body) (by kernel_rfl) (UD W) .nil)) (m:=3) rfl (fun _=>ca _) (fun _=>ca _)
end Go.Proofs.Vq

noncomputable section
namespace Go.Ab
open Go.Ab.Lf
def JC(lk:FuncId->List AV->Option AV)(c:mS):mS:=fun f args h=>match lk f args with
 |some v=>.ok v h
 |none=>c f args h
theorem CV[Io]{P:Program}{lk:FuncId->List AV->Option AV}(ht: ∀ f args v,lk f args=some v->oe P f args v){call:mS}(hc:nv P call):nv P (JC lk call):=by
 intro f args h v h' e
 unfold JC at e
 cases ht1:lk f args with
 |none=>rw[ht1]at e;exact hc f args h v h' e
 |some v1=>
  rw[ht1]at e
  cases e
  obtain⟨k1,k2⟩:=ht f args v ht1
  refine⟨k1,fun g w vs H hv=>?_⟩
  refine(k2 g w vs H.nQ H.tb hv).mono ?_
  rintro e w' ⟨x,rfl,K,hx⟩
  obtain⟨g',Fx⟩: ∃ g':G,g'=⟨g.m,fun b=>g.nQ b∨(w.heap.size<=b/\b<w'.heap.size)⟩:=⟨_,rfl⟩
  have hO: ∀ b,qc g' h b->qc g h b:=by
   rintro b ⟨id,cs,s,e,m⟩
   rw[Fx]at m
   exact⟨id,cs,s,e,m⟩
  have M:w5 g w g' w':=⟨fun _ _ e=>by rw[Fx];exact e,fun b i=>by rw[Fx];exact .inl i,fun b i=>K.vG b (H.nQ b i),K.rows⟩
  refine⟨x,g',rfl,⟨K.os,K.tape,K.output,K.size,Nat.le_refl _,M.m,fun b hb _=>K.vG b hb,K.rows,M.nQ,fun b i=>?_,fun b o=>.inl (hO b o)⟩,⟨fun id qd=>?_,fun id cs e=>?_,fun id Am b s s' cs cs' e1 e2 m1 m2=>?_,fun b i=>?_,s7.mono M H.tb⟩,?_⟩
  ·rw[Fx]at i
   rcases i with i|i
   ·exact .inl i
   ·exact .inr (.inr i.1)
  ·rw[Fx];exact H.fresh id qd
  ·obtain⟨b,s,C,el,us,h1,h2,h3,h4,h5⟩:=H.cw id cs e
   have hb:=(Array.getElem?_eq_some_iff.1 h2).1
   refine⟨b,s,C,el,us,M.m _ _ h1,by rw[K.vG b hb];exact h2,?_,cH.oG M _ _ h4,h5⟩
   rw[Fx]
   rintro(i|i)
   ·exact h3 i
   ·omega
  ·rw[Fx]at m1 m2
   exact H.inj id Am b s s' cs cs' e1 e2 m1 m2
  ·rw[Fx]at i
   rcases i with i|i
   ·exact Nat.lt_of_lt_of_le (H.nQ b i) K.size
   ·exact i.2
  ·refine VR.oG (⟨(fun _ _ e=>by cases e),(fun b i=>by rw[Fx];exact .inr i),fun _ _=>rfl,fun _=>Nat.le_refl _⟩:w5 _ _ g' w') _ _ hx
end Go.Ab
namespace Go.Ab.Lf
open Go.Ab
def canon:(t:Ty)->den t->List AV
 | .int k,x=>[.int k x]
 | .bool,x=>[.bool x]
 | .str,x=>[.sc (.string x)]
 | .cp t,x=>[.rJ (List.length x) (List.foldr (fun y r=>canon t y++r) [] x)]
 | .pair a b,x=>canon a x.1++canon b x.2
theorem y8[Io]{g:G}{w:Go.World}: ∀ (t:Ty) (x:den t) (cs:List AV) (vs:List Value),EV (fun _=>none) t x cs->cH g w cs vs->cH g w (canon t x) vs
 | .int _,x,_,vs,e,h=>by have e:_=_:=e;subst e;exact h
 | .bool,x,_,vs,e,h=>by have e:_=_:=e;subst e;exact h
 | .str,x,_,vs,e,h=>by have e:_=_:=e;subst e;exact h
 | .pair a b,x,_,vs,⟨c,d,e,h1,h2⟩,h=>by
  subst e
  obtain⟨us,ts,rfl,k1,k2⟩:=cH.split h
  exact cH.append (y8 a _ _ _ h1 k1) (y8 b _ _ _ h2 k2)
 | .cp t,x,_,vs,⟨a,e,k⟩,h=>by
  subst e
  have els: ∀ (l:List (den t)) (ls:List AV) (vs:List Value),ru (EV (fun _=>none) t) l ls->cH g w ls vs->cH g w (List.foldr (fun y r=>canon t y++r) [] l) vs:=by
   intro l
   induction l with
   |nil=>intro ls vs h k;have h:_=_:=h;subst h;exact k
   |cons x l ih=>
    rintro ls vs ⟨c,r,rfl,h1,h2⟩ k
    obtain⟨us,ts,rfl,k1,k2⟩:=cH.split k
    exact cH.append (y8 t _ _ _ h1 k1) (ih _ _ h2 k2)
  have h':cH g w [a] vs:=h
  show cH g w [.rJ (List.length x) (List.foldr (fun y r=>canon t y++r) [] x)] vs
  simp only[cH]at h' ⊢
  obtain⟨v,l,rfl,hv,rfl⟩:=h'
  refine⟨v,_,rfl,?_,rfl⟩
  rcases k with⟨k1,rfl⟩|⟨ls,k1,k2⟩
  ·have e0: ∃ ad c,v=.slice ad 0 c:=by
    cases a with
    |pO=>simp only[VR]at hv;obtain⟨ad,rfl⟩:=hv;exact⟨_,_,rfl⟩
    |ur=>simp only[VR]at hv;obtain⟨ad,rfl⟩:=hv;exact⟨_,_,rfl⟩
    |sc z=>
     obtain rfl:z=.slice none 0 0:=by
      have k:isNil (.sc z)=true:=k1
      unfold isNil at k
      split at k
      ·rename_i n c e
       injection e with e
       subst e
       have k:(Nat.beq n 0&&Nat.beq c 0)=true:=by assumption
       rw[Bool.and_eq_true]at k
       obtain rfl:=Nat.eq_of_beq_eq_true k.1
       obtain rfl:=Nat.eq_of_beq_eq_true k.2
       rfl
      ·cases k
     simp only[VR]at hv
     exact⟨_,_,hv.1⟩
    | _=>cases k1
   obtain⟨ad,c,rfl⟩:=e0
   simp only[VR]
   exact⟨ad,c,rfl,Nat.zero_le _,.inl ⟨rfl,rfl⟩⟩
  ·rcases k2 with k2|⟨_,_,_,_,g,_⟩
   ·subst k2
    simp only[VR]at hv ⊢
    obtain⟨ad,cap,rfl,hc,q⟩:=hv
    refine⟨ad,cap,rfl,hc,?_⟩
    rcases q with⟨q1,q2⟩|⟨b,o,us,q1,q2,q3,q4⟩
    ·left
     obtain rfl:x=[]:=List.eq_nil_of_length_eq_zero q1
     exact⟨rfl,rfl⟩
    ·exact .inr ⟨b,o,us,q1,q2,q3,els x ls us k1 q4⟩
   ·cases g
end Go.Ab.Lf

noncomputable section
namespace Go.Ab.Lf
open Go.Ab
abbrev N0:Nat->Option Rw:=fun _=>none
theorem CW{f:AV->Option AV}: ∀ {l m l' m':List AV},mapA f l=some l'->mapA f m=some m'->mapA f (l++m)=some (l'++m')
 | [],_,_,_,h,k=>by cases h;exact k
 |a::l,m,l',m',h,k=>by
  change (match f a with|some b=>(match mapA f l with|some r=>some (b::r)|none=>none)|none=>none)=some l' at h
  cases h1:f a with
  |none=>rw[h1]at h;cases h
  |some b=>
   cases h2:mapA f l with
   |none=>rw[h1,h2]at h;cases h
   |some r=>
    rw[h1,h2]at h
    cases h
    show(match f a with|some b=>(match mapA f (l++m)with|some r=>some (b::r)|none=>none)|none=>none)=_
    rw[h1,CW h2 k]
    rfl
def dep:Ty->Nat
 | .cp t=>dep t+1
 | .pair a b=>max (dep a) (dep b)
 | _=>0
theorem Qj{a:AV}(h:nr a=true)(n:Nat)(p:Hp):xD (n+1) p a=some a:=by
 cases a with
 |sc v=>rfl
 |pO=>rfl
 |ur=>rfl
 | _=>cases h
theorem Gb{G:Nat->Option Rw}{p:Hp}(hG: ∀ id row,G id=some row->p.cw.get id=some row): ∀ (t:Ty) (n:Nat) (x:den t) (cs:List AV),dep t<n->EV G t x cs-> ∃ cs',mapA (xD n p) cs=some cs'/\EV N0 t x cs'
 | .int _,n+1,x,_,_,h=>by have h:_=_:=h;subst h;exact⟨_,rfl,rfl⟩
 | .bool,n+1,x,_,_,h=>by have h:_=_:=h;subst h;exact⟨_,rfl,rfl⟩
 | .str,n+1,x,_,_,h=>by have h:_=_:=h;subst h;exact⟨_,rfl,rfl⟩
 | .pair a b,n,x,_,hn,⟨c,d,e,h1,h2⟩=>by
  have hn:max (dep a) (dep b)<n:=hn
  obtain⟨c',e1,k1⟩:=Gb hG a n _ _ (by omega) h1
  obtain⟨d',e2,k2⟩:=Gb hG b n _ _ (by omega) h2
  subst e
  exact⟨_,CW e1 e2,_,_,rfl,k1,k2⟩
 | .cp t,n+1,x,_,hn,⟨a,e,k⟩=>by
  have hn:dep t+1<n+1:=hn
  have els: ∀ (l:List (den t)) (ls:List AV),ru (EV G t) l ls-> ∃ ls',mapA (xD n p) ls=some ls'/\ru (EV N0 t) l ls':=by
   intro l
   induction l with
   |nil=>intro ls h;have h:_=_:=h;subst h;exact⟨_,rfl,rfl⟩
   |cons x l ih=>
    rintro ls ⟨c,r,rfl,h1,h2⟩
    obtain⟨c',e1,k1⟩:=Gb hG t n _ _ (by omega) h1
    obtain⟨r',e2,k2⟩:=ih _ h2
    exact⟨_,CW e1 e2,_,_,rfl,k1,k2⟩
  have one: ∀ a',xD (n+1) p a=some a'->Nn N0 t (EV N0 t) x a'-> ∃ cs',mapA (xD (n+1) p) [a]=some cs'/\EV N0 (.cp t) x cs':=by
   intro a' h1 h2
   refine⟨[a'],?_,a',rfl,h2⟩
   show(match xD (n+1) p a with|some b=>some [b]|none=>none)=_
   rw[h1]
  subst e
  rcases k with⟨k1,k2⟩|⟨ls,k1,k2⟩
  ·exact one a (Qj k1 n p) (.inl ⟨k1,k2⟩)
  ·obtain⟨ls',e1,q1⟩:=els x ls k1
   rcases k2 with k2|⟨id,base,row,k2,g,sg⟩
   ·refine one (.rJ x.length ls') ?_ (.inr ⟨ls',q1,.inl rfl⟩)
    subst k2
    show(match mapA (xD n p) ls with|some l=>some (AV.rJ x.length l)|none=>none)=_
    rw[e1]
   ·refine one (.rJ x.length ls') ?_ (.inr ⟨ls',q1,.inl rfl⟩)
    subst k2
    show(match p.cw.get id with|some cs=>(match cs.ri base (Nat.mul x.length (size t))with|some l=>(match mapA (xD n p) l with|some l=>some (AV.rJ x.length l)|none=>none)|none=>none)|none=>none)=_
    rw[hG _ _ g]
    have sg:row.ri base (Nat.mul x.length (size t))=some ls:=sg
    dsimp only
    rw[sg]
    dsimp only
    rw[e1]
end Go.Ab.Lf
