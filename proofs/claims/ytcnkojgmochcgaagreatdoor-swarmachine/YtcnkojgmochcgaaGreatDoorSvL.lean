import Derived.Test.YtcnkojgmochcgaaGreatDoorSvD
import Derived.Test.YtcnkojgmochcgaaGreatDoorVrD
import Derived.Test.YtcnkojgmochcgaaGreatDoorVtB
noncomputable section
namespace Go.Proofs.Vq
open Go.Ab Go.Ab.Lf Go.Proofs.Sw
set_option maxRecDepth 100000
def s41:nK:=pL (Ps []) [] (Ps [.bo]) [] [.bool] fun _=>.ok (true,())
structure WS(cr:cu):Prop extends WQ cr where
 aw:s41.Ok 41 cr
 chk:(TH Ki).Ok 56 cr
abbrev P3:List Ty:=[i64]
abbrev Hx:List Ty:=[.bool]
def e42:List (Nat×nK):=[(88,afv)]
theorem afE{cr:cu}(W:WQ cr):n9 cr e42:=.cons (Hw W) .nil
def t42(x:cf P3):Lf.T (List Pl):=q9 (Ps [.n .i64]) [] (Ps [.bo]) (fun _=>none) Tryz.x42 80 (qh e42 80) (cp P3 x)
def L8(x:cf P3):Bool:=cO (oy Hx (t42 x))
def Kn(x:cf P3):cf Hx:=cO (nA Hx (t42 x))
def s42:nK:=pL (Ps [.n .i64]) [] (Ps [.bo]) P3 Hx fun x=>.ck (L8 x) (.ok (Kn x))
theorem afF{cr:cu}(W:WQ cr):s42.Ok 42 cr:=
 cZ (W.in (afE W) 80) (W.st 42 _ rfl) rfl (cF _) (m:=80) rfl (fun _=>ca _) (fun _=>ca _)
def akU(cl:Cl)(N L:Nat):nK:=pL (Ps [.ag (Ps [.n .i64,.n .i64,.n .i64,.n .u64,.n .u64,.im i64]),.im u64]) [] (Ps [.tu (Ps [.ow u64,.n .i64])]) L6 pY fun x=>.ck (k38 cl x) (bif Nat.beq (len x.2.2.2.2.2.2.1) N then
 .ck (decide ((xg cl x).2.1=0)&&decide ((xg cl x).1.length=L)) (.ok (bif Nat.beq L 2 then [(xg cl x).1.getD 0 0,(xg cl x).1.getD 1 0]else bif Nat.beq L 1 then [(xg cl x).1.getD 0 0]else(xg cl x).1,(0,())))
 else .ck (decide ((xg cl x).1.length=0)&&decide ((xg cl x).2.1=1)) (.ok ([],(1,()))))
theorem afG{l:List Int}(h:l.length=2):l=[l.getD 0 0,l.getD 1 0]:=by
 match l,h with
 | [a,b],_=>rfl
theorem afH{l:List Int}(h:l.length=1):l=[l.getD 0 0]:=by
 match l,h with
 | [a],_=>rfl
theorem aap{cr:cu}(W:WQ cr)(cl:Cl)(N L:Nat):(akU cl N L).Ok 38 cr:=by
 refine tl (afB W cl) fun x y h=>?_
 obtain⟨hk,h⟩:=Lf.T.cG h
 obtain⟨l,e,u⟩: ∃ l e,xg cl x=(l,(e,())):=⟨_,_,rfl⟩
 have key:y=xg cl x:=by
  rw[u]at h ⊢
  simp only at h
  cases hb:Nat.beq (len x.2.2.2.2.2.2.1) N with
  |true=>
   rw[hb]at h
   obtain⟨h1,h⟩:=Lf.T.cG h
   rw[Bool.and_eq_true]at h1
   have e0:e=0:=of_decide_eq_true h1.1
   have hL:l.length=L:=of_decide_eq_true h1.2
   cases h
   subst e0
   cases h2:Nat.beq L 2 with
   |true=>rw[cond_true,<-afG (hL.trans (Nat.eq_of_beq_eq_true h2))]
   |false=>
    rw[cond_false]
    cases h3:Nat.beq L 1 with
    |true=>rw[cond_true,<-afH (hL.trans (Nat.eq_of_beq_eq_true h3))]
    |false=>rfl
  |false=>
   rw[hb]at h
   obtain⟨h1,h⟩:=Lf.T.cG h
   rw[Bool.and_eq_true]at h1
   cases h
   rw[List.length_eq_zero_iff.1 (of_decide_eq_true h1.1),show e=1 from of_decide_eq_true h1.2]
 subst key
 show(Lf.T.ck (k38 cl x) (.ok (xg cl x))).val=_
 rw[hk];rfl
def akV(b:Bool):nK:=pL (Ps [.n .i64]) [] (Ps [.bo]) P3 Hx fun x=>.ck (L8 x) (.ck (!(xor b (Kn x).1)) (.ok (b,())))
theorem aaq{cr:cu}(W:WQ cr)(b:Bool):(akV b).Ok 42 cr:=by
 refine tl (afF W) fun x y h=>?_
 obtain⟨hk,h⟩:=Lf.T.cG h
 obtain⟨h1,h⟩:=Lf.T.cG h
 cases h
 obtain⟨c,u⟩: ∃ c,Kn x=(c,()):=⟨_,rfl⟩
 rw[u]at h1
 show(Lf.T.ck (L8 x) (.ok (Kn x))).val=_
 rw[hk,u]
 cases b<;>cases c<;>first|rfl|cases h1
abbrev ti9:List Ty:=[i64,u64,u64,u64,u64,u64,u64,i64]
abbrev Ew:List Ty:=[.bool]
def e9(g:Cg)(b:Bool)(cl:Cl)(N L:Nat):List (Nat×nK):=[(18,s18),(22,s22),(23,s23 g),(25,s25),(38,akU cl N L),(41,s41),(42,akV b),(43,s43)]
theorem akW{g:Cg}{cr:cu}(W:WS cr)(hg:(sG g).Ok 73 cr)(b:Bool)(cl:Cl)(N L:Nat):n9 cr (e9 g b cl N L):=(.cons (aeR W.toWQ W.chk) (.cons (aeU W.toWQ) (.cons (aeQ W.toWQ hg) (.cons (aeW W.toWQ) (.cons (aap W.toWQ cl N L) (.cons W.aw (.cons (aaq W.toWQ b) (.cons (afD W.toWQ) .nil))))))))
def t9(g:Cg)(b:Bool)(cl:Cl)(N L:Nat)(x:cf ti9):Lf.T (List Pl):=q9 (Ps [.n .i64,.ag (Ps [.n .u64,.n .u64,.n .u64,.n .u64,.n .u64,.n .u64]),.n .i64]) [] (Ps [.bo]) (fun _=>none) Tryz.x9 12 (qh (e9 g b cl N L) 12) (cp ti9 x)
def k9(g:Cg)(b:Bool)(cl:Cl)(N L:Nat)(x:cf ti9):Bool:=cO (oy Ew (t9 g b cl N L x))
def m9(g:Cg)(b:Bool)(cl:Cl)(N L:Nat)(x:cf ti9):cf Ew:=cO (nA Ew (t9 g b cl N L x))
def s9(g:Cg)(b:Bool)(cl:Cl)(N L:Nat):nK:=pL (Ps [.n .i64,.ag (Ps [.n .u64,.n .u64,.n .u64,.n .u64,.n .u64,.n .u64]),.n .i64]) [] (Ps [.bo]) ti9 Ew fun x=>.ck (k9 g b cl N L x) (.ok (m9 g b cl N L x))
theorem akX{g:Cg}{cr:cu}(W:WS cr)(hg:(sG g).Ok 73 cr)(b:Bool)(cl:Cl)(N L:Nat):(s9 g b cl N L).Ok 9 cr:=
 cZ (W.toWQ.in (akW W hg b cl N L) 12) (W.toWQ.st 9 _ rfl) rfl (cF _) (m:=12) rfl (fun _=>ca _) (fun _=>ca _)
end Go.Proofs.Vq

noncomputable section
namespace Go.Proofs.Vq
open Go.Ab Go.Ab.Lf Go.RowKit
set_option maxRecDepth 100000
theorem Hy{k:IntKind}{F:Int->Int}{b:Int}{f:FuncId}(hf: ∀ x:Int,oO (Ps [.n k]) (cp [.int k] (x,())) Lf.e1=some ([.c 0 (.int k) x],[],Lf.e1))(hr: ∀ z x:Int,(q9 (Ps [.n k]) [] (Ps [.n .i64]) (fun _=>none) (rC (.int .i64 z)) 3 (fun _ _ _=>.bad) (cp [.int k] (x,()))).val=some (cp [i64] (z,())))(hh:G6 f=false)(hl: ∀ x:Int,0<=x->x<=b->Bh f [.int k x]=some (.int .i64 (F x))):(sBt k F b).Ok f pe:=by
 unfold sBt
 refine TX ?_
 rintro⟨x,⟨⟩⟩ y args H0 E0 h az h1 hP hv hS
 obtain⟨h2,h3⟩:=Lf.T.cG h1
 simp only[Bool.and_eq_true,decide_eq_true_eq]at h2
 have hP2:some (([.c 0 (.int k) x]:List Sv),([]:List Pl),Lf.e1)=some (args,[],H0):=(hf x).symm.trans hP
 cases hP2
 have ha:az=[.int k x]:=by
  cases hv with
  |cons ha hr=>
   cases hr
   cases ha with
   |c kx _=>exact kx
 subst ha
 refine⟨.int .i64 (F x),fun _=>.ok (F x,()),h3,Nj ?_,fun n d=>Cf hh (hl x h2.1 h2.2) n (d+1)⟩
 rintro⟨x',⟨⟩⟩ y' h'
 cases h'
 exact hr (F x) x'
theorem Hz{k:IntKind}{b:Int}{F:Int->Int}{x:Int}(h0:0<=x)(h1:x<=b):lkN k b F [.int k x]=some (.int .i64 (F x)):=by
 show(bif decide (k=k)&&(decide (0<=x)&&decide (x<=b))then some (AV.int .i64 (F x))else none)=_
 rw[decide_eq_true rfl,decide_eq_true h0,decide_eq_true h1]
 rfl
theorem aas:s49.Ok 49 pe:=Hy (fun x=>by kernel_rfl) (fun z x=>by kernel_rfl) rfl fun x h0 h1=>Hz h0 h1
theorem aau:s50.Ok 50 pe:=Hy (fun x=>by kernel_rfl) (fun z x=>by kernel_rfl) rfl fun x h0 h1=>Hz h0 h1
theorem aav:s52.Ok 52 pe:=Hy (fun x=>by kernel_rfl) (fun z x=>by kernel_rfl) rfl fun x h0 h1=>Hz h0 h1
theorem aaw:s53.Ok 53 pe:=Hy (fun x=>by kernel_rfl) (fun z x=>by kernel_rfl) rfl fun x h0 h1=>Hz h0 h1
theorem aax:s41.Ok 41 pe:=by
 unfold s41
 refine TX ?_
 rintro⟨⟩ y args H0 E0 h az h1 hP hv hS
 have hP2:some (([]:List Sv),([]:List Pl),Lf.e1)=some (args,[],H0):=hP
 cases hP2
 cases hv
 refine⟨.bool true,fun _=>.ok (true,()),h1,Nj ?_,fun n d=>Cf rfl rfl n (d+1)⟩
 rintro⟨⟩ y' h'
 cases h'
 kernel_rfl
theorem akY(x:cf tM):(q9 (Ps [pMF .im]) [] (Ps [.n .i64]) (fun _=>none) (rC (.int .i64 0)) 3 (fun _ _ _=>.bad) (cp tM x)).val=some (cp [i64] (0,())):=by kernel_rfl
theorem aay:(TH Ki).Ok 56 pe:=by
 unfold TH
 refine TX ?_
 intro X y args H0 E0 h az h1 hP hv hS
 obtain⟨h2,h3⟩:=Lf.T.cG h1
 obtain rfl:=LC h2
 refine⟨.int .i64 0,fun _=>.ok (0,()),h3,Nj ?_,?_⟩
 ·intro x' y' h'
  cases h'
  exact akY x'
 have hP2:some (([.ag [.c 1 (.cq nd) ng.1,.c 2 (.cq BC) ng.2.1,.c 3 (.cq i64) ng.2.2.1,.c 4 (.cq uJ) ng.2.2.2.1,.c 5 (.cq uJ) ng.2.2.2.2.1,.c 6 (.cq BD) ng.2.2.2.2.2.1,.c 7 (.cq BE) ng.2.2.2.2.2.2.1,.c 0 i64 ng.2.2.2.2.2.2.2.1,.c 8 (.cq BG) ng.2.2.2.2.2.2.2.2.1,.c 9 (.cq BH) ng.2.2.2.2.2.2.2.2.2.1,.c 10 (.cq BI) ng.2.2.2.2.2.2.2.2.2.2.1]]:List Sv),([]:List Pl),(⟨11,.nil⟩:Hq))=some (args,[],H0):=by
  rw[<-hP]
  kernel_rfl
 cases hP2
 have hG: ∀ id row,E0.G id=some row->h.cw.get id=some row:=fun id row g=>(hS.g id row g).2.1
 have Qi: ∀ {a:Sv} {l:List Sv} {m:List AV},Vs E0 11 (a::l) m-> ∃ c r,m=c::r/\V E0 11 a c/\Vs E0 11 l r:=by
  intro a l m hm
  cases hm with
  |cons p q=>exact⟨_,_,rfl,p,q⟩
 have akZ: ∀ {m:List AV},Vs E0 11 [] m->m=[]:=by
  intro m hm
  cases hm
  rfl
 have ev: ∀ {m:Nat} {t:Ty} {x:den t} {a:AV},V E0 11 (.c m t x) a->EV E0.G t x [a]:=by
  intro m t x a ha
  cases ha with
  |c kx _=>exact kx
 obtain⟨c0,r0,rfl,hag,hr0⟩:=Qi hv
 obtain rfl:=akZ hr0
 obtain⟨m,rfl,hm⟩: ∃ m,c0=.agg m/\Vs E0 11 [.c 1 (.cq nd) ng.1,.c 2 (.cq BC) ng.2.1,.c 3 (.cq i64) ng.2.2.1,.c 4 (.cq uJ) ng.2.2.2.1,.c 5 (.cq uJ) ng.2.2.2.2.1,.c 6 (.cq BD) ng.2.2.2.2.2.1,.c 7 (.cq BE) ng.2.2.2.2.2.2.1,.c 0 i64 ng.2.2.2.2.2.2.2.1,.c 8 (.cq BG) ng.2.2.2.2.2.2.2.2.1,.c 9 (.cq BH) ng.2.2.2.2.2.2.2.2.2.1,.c 10 (.cq BI) ng.2.2.2.2.2.2.2.2.2.2.1] m:=by
  cases hag with
  |ag q=>exact⟨_,rfl,q⟩
 obtain⟨b1,m1,rfl,v1,h1z⟩:=Qi hm
 obtain⟨b2,m2,rfl,v2,h2z⟩:=Qi h1z
 obtain⟨b3,m3,rfl,v3,h3z⟩:=Qi h2z
 obtain⟨b4,m4,rfl,v4,h4⟩:=Qi h3z
 obtain⟨b5,m5,rfl,v5,h5⟩:=Qi h4
 obtain⟨b6,m6,rfl,v6,h6⟩:=Qi h5
 obtain⟨b7,m7,rfl,v7,h7⟩:=Qi h6
 obtain⟨b8,m8,rfl,v8,h8⟩:=Qi h7
 obtain⟨b9,m9,rfl,v9,h9⟩:=Qi h8
 obtain⟨b10,m10,rfl,v10,h10⟩:=Qi h9
 obtain⟨b11,m11,rfl,v11,h11⟩:=Qi h10
 obtain rfl:=akZ h11
 have hE:EV E0.G Zb Jy [b1,b2,b3,b4,b5,b6,b7,b8,b9,b10,b11]:=⟨[b1],_,rfl,ev v1,⟨[b2],_,rfl,ev v2,⟨[b3],_,rfl,ev v3,⟨[b4],_,rfl,ev v4,⟨[b5],_,rfl,ev v5,⟨[b6],_,rfl,ev v6,⟨[b7],_,rfl,ev v7,⟨[b8],_,rfl,ev v8,⟨[b9],_,rfl,ev v9,⟨[b10],_,rfl,ev v10,ev v11⟩⟩⟩⟩⟩⟩⟩⟩⟩⟩
 obtain⟨cs',k1,k2⟩:=G4 hG Zb 7 Jy _ (by decide) hE
 refine fun n d=>TW rfl (az':=[.agg cs']) ?_ ?_ n (d+1)
 ·show(match(match mapA (yp 7 h) _ with|some l=>some (AV.agg l)|none=>none)with|some b=>some [b]|none=>none)=_
  rw[k1]
 ·show(bif @decide (56=56/\EV N0 Zb Jy cs') (Classical.propDecidable _)then some (AV.int .i64 0)else none)=_
  rw[@decide_eq_true _ (Classical.propDecidable _) ⟨rfl,k2⟩]
  rfl
theorem Ve:WS pe where
 st:=Fw
 c67:=Zg
 c69:=Zh
 c70:=Zi
 c71:=Zj
 c72:=Zk
 aiK:=TY
 aiL:=TZ
 aiM:=T3
 aiN:=T4
 aiO:=T5
 aiP:=T6
 aiQ:=T7
 aiR:=T8
 aiS:=T9
 b49:=aas
 b50:=aau
 b52:=aav
 b53:=aaw
 aw:=aax
 chk:=aay
end Go.Proofs.Vq

noncomputable section
namespace Go.Proofs.Vq
open Go.Ab Go.Ab.Lf Go.Proofs.Sw
set_option maxRecDepth 1000000
abbrev pN(I O:List Int)(op:Int)(r:Option (List Pl)):Option (List Pl):=cA (NZ (op,())) (cA (Qh I O op) (bif !(bif decide (64768<=op)then true else false)then xH else cA (NZ (op,())) (cA (Qh I O op) r)))
abbrev HA(op:Int)(r:Option (List Pl)):Option (List Pl):=bif decide (op=64782)then none else cA (N3.contains op) r
theorem ak0(op a b c:Int):(t38 ([123,123],[123],0,false) (op,0,0,0,0,[],[a],())).val=pN [123,123] [123] op xH:=by kernel_rfl
theorem ak1(op a b c:Int):(t38 ([123,123],[123],1,false) (op,0,0,0,0,[],[a],())).val=pN [123,123] [123] op xH:=by kernel_rfl
theorem ak2(op a b c:Int):(t38 ([123,123],[123],0,false) (op,0,0,0,0,[],[a,b],())).val=pN [123,123] [123] op xH:=by kernel_rfl
theorem ak3(op a b c:Int):(t38 ([123,123],[123],1,false) (op,0,0,0,0,[],[a,b],())).val=pN [123,123] [123] op xH:=by kernel_rfl
theorem ak4(op a b c:Int):(t38 ([123,123],[123],0,false) (op,0,0,0,0,[],[a,b,c],())).val=pN [123,123] [123] op xH:=by kernel_rfl
theorem ak5(op a b c:Int):(t38 ([123,123],[123],1,false) (op,0,0,0,0,[],[a,b,c],())).val=pN [123,123] [123] op xH:=by kernel_rfl
theorem ak6(op a b c:Int):(t38 ([123],[123],0,false) (op,0,0,0,0,[],[a],())).val=pN [123] [123] op xH:=by kernel_rfl
theorem ak7(op a b c:Int):(t38 ([123,127],[123],0,false) (op,0,0,0,0,[],[a],())).val=pN [123,127] [123] op xH:=by kernel_rfl
theorem ak8(op a b c:Int):(t38 ([123,127],[123],0,false) (op,0,0,0,0,[],[a,b],())).val=pN [123,127] [123] op xH:=by kernel_rfl
theorem acm(op a b c:Int):(t38 ([123],[127],0,false) (op,0,0,0,0,[],[a],())).val=pN [123] [127] op xH:=by kernel_rfl
theorem b1(op a b c d:Int):(t38 ([123,123],[123],0,false) (op,0,0,0,0,[],[a,b,c,d],())).val=pN [123,123] [123] op (HA op (
 cA (DM (op,cV (tV []) (nL a b) (cV [] (nL c d) ()))) (cA (decide (Hv (Ad (op,cV (tV []) (nL a b) (cV [] (nL c d) ())))=0)) (Km (vO (PX (Ad (op,cV (tV []) (nL a b) (cV [] (nL c d) ()))))))))):=by kernel_rfl
theorem b2(op a b c d:Int):(t38 ([123,123],[123],1,false) (op,0,0,0,0,[],[a,b,c,d],())).val=pN [123,123] [123] op (HA op (
 cA (DM (op,cV (tV []) (nL a b) (cV [] (nL c d) ()))) (cA (decide (Hv (Ad (op,cV (tV []) (nL a b) (cV [] (nL c d) ())))=1)) (
 cA (L3 (op,cV (tV []) (nL a b) (cV [] (nL c d) ()))) (cA (decide (Hv (Er (op,cV (tV []) (nL a b) (cV [] (nL c d) ())))=0)) (Km (vO (PX (Er (op,cV (tV []) (nL a b) (cV [] (nL c d) ()))))))))))):=by kernel_rfl
theorem b3(op a b c d:Int):(t38 ([123],[123],0,false) (op,0,0,0,0,[],[a,b],())).val=pN [123] [123] op (HA op (
 cA (L2 (op,cV [] (nL a b) ())) (cA (decide (Hv (Ep (op,cV [] (nL a b) ()))=0)) (Km (vO (PX (Ep (op,cV [] (nL a b) ())))))))):=by kernel_rfl
abbrev shN(c:Int):Int:=cb .u32 (qI (nL (np .u64 c 4294967295) 0) 0 4)
theorem b4(op a b c d:Int):(t38 ([123,127],[123],0,false) (op,0,0,0,0,[],[a,b,c],())).val=pN [123,127] [123] op (HA op (cA (decide (op=op)) (cA (rG (nL a b)) (
 cA (L1 (op,cV [u32] (nL a b) (shN c,()))) (cA (decide (Hv (Eo (op,cV [u32] (nL a b) (shN c,())))=0)) (Km (vO (PX (Eo (op,cV [u32] (nL a b) (shN c,()))))))))))):=by kernel_rfl
theorem b5(op a b c d:Int):(t38 ([123],[127],0,false) (op,0,0,0,0,[],[a,b],())).val=pN [123] [127] op (
 cA (Es (op,cV [] (nL a b) ())) (cA (decide ((Ae (op,cV [] (nL a b) ())).2.1=0)) (some (cp pY ([cb .u64 (Ae (op,cV [] (nL a b) ())).1],0,()))))):=by kernel_rfl
end Go.Proofs.Vq

noncomputable section
namespace Go.Proofs.Vq
open Go.Ab Go.Ab.Lf Go.Proofs.Sw
set_option maxRecDepth 1000000
abbrev preB(I O:List Int)(op:Int)(r:Option (List Pl)):Option (List Pl):=cA (NZ (op,())) (cA (Qh I O op) (cA (NZ (op,())) (cA (Qh I O op) r)))
theorem ak9(op a b c d e:Int):(t38 ([123],[123],0,true) (op,0,0,0,0,[],[a],())).val=pN [123] [123] op xH:=by kernel_rfl
theorem N5(op a b c d e:Int):(t38 ([123,123],[123],0,true) (op,0,0,0,0,[],[a],())).val=pN [123,123] [123] op xH:=by kernel_rfl
theorem N6(op a b c d e:Int):(t38 ([123,123],[123],0,true) (op,0,0,0,0,[],[a,b],())).val=pN [123,123] [123] op xH:=by kernel_rfl
theorem N7(op a b c d e:Int):(t38 ([123,123],[123],0,true) (op,0,0,0,0,[],[a,b,c],())).val=pN [123,123] [123] op xH:=by kernel_rfl
theorem ak'(op a b c d e:Int):(t38 ([123,123,123],[123],0,true) (op,0,0,0,0,[],[a],())).val=pN [123,123,123] [123] op xH:=by kernel_rfl
theorem ala(op a b c d e:Int):(t38 ([123,123,123],[123],0,true) (op,0,0,0,0,[],[a,b],())).val=pN [123,123,123] [123] op xH:=by kernel_rfl
theorem alb(op a b c d e:Int):(t38 ([123,123,123],[123],0,true) (op,0,0,0,0,[],[a,b,c],())).val=pN [123,123,123] [123] op xH:=by kernel_rfl
theorem ald(op a b c d e:Int):(t38 ([123,123,123],[123],0,true) (op,0,0,0,0,[],[a,b,c,d],())).val=pN [123,123,123] [123] op xH:=by kernel_rfl
theorem ale(op a b c d e:Int):(t38 ([123,123,123],[123],0,true) (op,0,0,0,0,[],[a,b,c,d,e],())).val=pN [123,123,123] [123] op xH:=by kernel_rfl
theorem bt0(a b:Int):(t38 ([123],[123],0,true) (64845,0,0,0,0,[],[a,b],())).val=preB [123] [123] 64845 (cA (rG (nL a b)) (Km (fun m=>O6 .u8 (nL a b m)))):=by kernel_rfl
theorem bt1(a b c d:Int):(t38 ([123,123],[123],0,true) (64846,0,0,0,0,[],[a,b,c,d],())).val=preB [123,123] [123] 64846 (cA (rG (nL c d)) (Km (fun m=>np .u8 (nL a b m) (nL c d m)))):=by kernel_rfl
theorem bt2(a b c d:Int):(t38 ([123,123],[123],0,true) (64847,0,0,0,0,[],[a,b,c,d],())).val=preB [123,123] [123] 64847 (cA (rG (nL c d)) (Km (fun m=>xq .u8 (nL a b m) (nL c d m)))):=by kernel_rfl
theorem bt3(a b c d:Int):(t38 ([123,123],[123],0,true) (64848,0,0,0,0,[],[a,b,c,d],())).val=preB [123,123] [123] 64848 (cA (rG (nL c d)) (Km (fun m=>C3 .u8 (nL a b m) (nL c d m)))):=by kernel_rfl
theorem bt4(a b c d:Int):(t38 ([123,123],[123],0,true) (64849,0,0,0,0,[],[a,b,c,d],())).val=preB [123,123] [123] 64849 (cA (rG (nL c d)) (Km (fun m=>Eb .u8 (nL a b m) (nL c d m)))):=by kernel_rfl
theorem bt5(a b c d e f:Int):(t38 ([123,123,123],[123],0,true) (64850,0,0,0,0,[],[a,b,c,d,e,f],())).val=preB [123,123,123] [123] 64850 (cA (rG (nL e f)) (Km (fun m=>C3 .u8 (np .u8 (nL a b m) (nL e f m)) (xq .u8 (nL c d m) (nL e f m))))):=by kernel_rfl
end Go.Proofs.Vq

noncomputable section
namespace Go.Proofs.Vq
open Go.Ab Go.Ab.Lf Go.Proofs.Sw
set_option maxRecDepth 1000000
abbrev yzM(z:cf LF)(l:List Int):cf Pz:=(z.1,z.2.1,z.2.2.1,z.2.2.2.1,z.2.2.2.2.1,z.2.2.2.2.2.1,z.2.2.2.2.2.2.1,z.2.2.2.2.2.2.2.1,z.2.2.2.2.2.2.2.2.1,z.2.2.2.2.2.2.2.2.2.1,z.2.2.2.2.2.2.2.2.2.2.1,z.2.2.2.2.2.2.2.2.2.2.2.1,z.2.2.2.2.2.2.2.2.2.2.2.2.1,z.2.2.2.2.2.2.2.2.2.2.2.2.2.1,z.2.2.2.2.2.2.2.2.2.2.2.2.2.2.1,z.2.2.2.2.2.2.2.2.2.2.2.2.2.2.2.1,z.2.2.2.2.2.2.2.2.2.2.2.2.2.2.2.2.1,z.2.2.2.2.2.2.2.2.2.2.2.2.2.2.2.2.2.1,z.2.2.2.2.2.2.2.2.2.2.2.2.2.2.2.2.2.2.1,z.2.2.2.2.2.2.2.2.2.2.2.2.2.2.2.2.2.2.2.1,z.2.2.2.2.2.2.2.2.2.2.2.2.2.2.2.2.2.2.2.2.1,z.2.2.2.2.2.2.2.2.2.2.2.2.2.2.2.2.2.2.2.2.2.1,z.2.2.2.2.2.2.2.2.2.2.2.2.2.2.2.2.2.2.2.2.2.2.1,z.2.2.2.2.2.2.2.2.2.2.2.2.2.2.2.2.2.2.2.2.2.2.2.1,z.2.2.2.2.2.2.2.2.2.2.2.2.2.2.2.2.2.2.2.2.2.2.2.2.1,z.2.2.2.2.2.2.2.2.2.2.2.2.2.2.2.2.2.2.2.2.2.2.2.2.2.1,z.2.2.2.2.2.2.2.2.2.2.2.2.2.2.2.2.2.2.2.2.2.2.2.2.2.2.1,z.2.2.2.2.2.2.2.2.2.2.2.2.2.2.2.2.2.2.2.2.2.2.2.2.2.2.2.1,z.2.2.2.2.2.2.2.2.2.2.2.2.2.2.2.2.2.2.2.2.2.2.2.2.2.2.2.2.1,z.2.2.2.2.2.2.2.2.2.2.2.2.2.2.2.2.2.2.2.2.2.2.2.2.2.2.2.2.2.1,z.2.2.2.2.2.2.2.2.2.2.2.2.2.2.2.2.2.2.2.2.2.2.2.2.2.2.2.2.2.2.1,z.2.2.2.2.2.2.2.2.2.2.2.2.2.2.2.2.2.2.2.2.2.2.2.2.2.2.2.2.2.2.2.1,0,l,0,())
abbrev Ex(op:Int):Int:=nz .i64 64768 (cb .i64 (we .u64 (cb .u64 op) 256))
abbrev L9(n ba:Int):Int:=nz .i64 n (cb .i64 (we .u64 (cb .u64 ba) 100))
abbrev BQ(o:Int):Bool:=bif decide (64875<=o)then(bif decide (o<=64973)then(bif decide (11<=we .i64 o 32)then decide (we .i64 o 32<=13)else false)else false)else false
def aaz(g:Cg)(n:Int)(cs:List (den oi))(tn:List Int)(l w to:List Int)(loc:Int)(q:cf xh)(X:cf Jx):Option (List Pl):=
 bif !decide (q.2.2.1=0)then some (cp Ew (false,()))else
 cA (roomy 24 (cs.length+q.1.length)) (cA (roomy 24 ((app cs q.1).length+1)) (cA (decide (Int.ofNat w.length=Int.ofNat w.length)&&decide (loc=loc)) (cA (k22 X) (cA (k23 g (yzM (m22 X) l)) (
  bif decide ((m23 g (yzM (m22 X) l)).1=0)then cA (k25 ((m23 g (yzM (m22 X) l)).2.2.1,w,())) (some (cp Ew (m25 ((m23 g (yzM (m22 X) l)).2.2.1,w,()))))else some (cp Ew (false,())))))))
abbrev Vf(n:Int)(cs:List (den oi))(tn w to:List Int)(loc:Int)(q:cf xh):cf Jx:=([(tn,to)],[((-1:Int),(0:Int),n,Int.ofNat w.length,loc,app (app cs q.1) [((15:Int),(0:Int),(0:Int))],[])],uL (ug []) LD (wT [] ⟨[],[],0⟩ ()))
abbrev aaA(g:Cg)(o ba n:Int)(cs:List (den oi))(tn:List Int)(l w to:List Int):Option (List Pl):=
 cA (k43 (o,0,0,0,0,[],L9 n ba,())) (aaz g n cs tn l w to (nz .i64 (cz .i64 (L9 n ba) n) (VX (o,0,0,0,0,[],L9 n ba,())).2.1) (VX (o,0,0,0,0,[],L9 n ba,())) (Vf n cs tn w to (nz .i64 (cz .i64 (L9 n ba) n) (VX (o,0,0,0,0,[],L9 n ba,())).2.1) (VX (o,0,0,0,0,[],L9 n ba,()))))
def sB(cl:Cl)(o:Int)(l:List Int)(next:Option (List Pl)):Option (List Pl):=
 cA (k38 cl (o,0,0,0,0,[],l,())) (cA (decide ((xg cl (o,0,0,0,0,[],l,())).1.length=0)&&decide ((xg cl (o,0,0,0,0,[],l,())).2.1=1)) next)
def BR(g:Cg)(cl:Cl)(o ba n:Int)(cs:List (den oi))(tn l:List Int)(L:Nat)(w to:List Int):Option (List Pl):=
 cA (k38 cl (o,0,0,0,0,[],l,())) (cA (decide ((xg cl (o,0,0,0,0,[],l,())).2.1=0)&&decide ((xg cl (o,0,0,0,0,[],l,())).1.length=L)) (aaA g o ba n cs tn l w to))
abbrev rK(a:Int):Int:=np .u64 a 4294967295
def Vg(g:Cg)(cl:Cl)(o ba a b c d e f:Int):Option (List Pl):=bif BQ o then BR g cl o ba 2 [((32:Int),(0:Int),(0:Int)),((32:Int),(1:Int),(0:Int))] [126,126] [a,rK b] 2 [(xg cl (o,0,0,0,0,[],[a,rK b],())).1.getD 0 0,(xg cl (o,0,0,0,0,[],[a,rK b],())).1.getD 1 0] [126,126]else BR g cl o ba 2 [((32:Int),(0:Int),(0:Int)),((32:Int),(1:Int),(0:Int))] [126,126] [a,b] 2 [(xg cl (o,0,0,0,0,[],[a,b],())).1.getD 0 0,(xg cl (o,0,0,0,0,[],[a,b],())).1.getD 1 0] [126,126]
def Vh(g:Cg)(cl:Cl)(o ba a b c d e f:Int):Option (List Pl):=bif BQ o then sB cl o [rK a] (Vg g cl o ba a b c d e f)else sB cl o [a] (Vg g cl o ba a b c d e f)
def Vi(g:Cg)(cl:Cl)(o ba a b c d e f:Int):Option (List Pl):=bif BQ o then BR g cl o ba 2 [((32:Int),(0:Int),(0:Int)),((32:Int),(1:Int),(0:Int))] [126,126] [a,rK b] 1 [(xg cl (o,0,0,0,0,[],[a,rK b],())).1.getD 0 0] [126]else BR g cl o ba 2 [((32:Int),(0:Int),(0:Int)),((32:Int),(1:Int),(0:Int))] [126,126] [a,b] 1 [(xg cl (o,0,0,0,0,[],[a,b],())).1.getD 0 0] [126]
def Vj(g:Cg)(cl:Cl)(o ba a b c d e f:Int):Option (List Pl):=bif BQ o then sB cl o [rK a] (Vi g cl o ba a b c d e f)else sB cl o [a] (Vi g cl o ba a b c d e f)
def Vk(g:Cg)(cl:Cl)(o ba a b c d e f:Int):Option (List Pl):=bif BQ o then BR g cl o ba 3 [((32:Int),(0:Int),(0:Int)),((32:Int),(1:Int),(0:Int)),((32:Int),(2:Int),(0:Int))] [126,126,126] [a,b,rK c] 2 [(xg cl (o,0,0,0,0,[],[a,b,rK c],())).1.getD 0 0,(xg cl (o,0,0,0,0,[],[a,b,rK c],())).1.getD 1 0] [126,126]else BR g cl o ba 3 [((32:Int),(0:Int),(0:Int)),((32:Int),(1:Int),(0:Int)),((32:Int),(2:Int),(0:Int))] [126,126,126] [a,b,c] 2 [(xg cl (o,0,0,0,0,[],[a,b,c],())).1.getD 0 0,(xg cl (o,0,0,0,0,[],[a,b,c],())).1.getD 1 0] [126,126]
def Vl(g:Cg)(cl:Cl)(o ba a b c d e f:Int):Option (List Pl):=bif BQ o then sB cl o [a,rK b] (Vk g cl o ba a b c d e f)else sB cl o [a,b] (Vk g cl o ba a b c d e f)
def Vm(g:Cg)(cl:Cl)(o ba a b c d e f:Int):Option (List Pl):=bif BQ o then sB cl o [rK a] (Vl g cl o ba a b c d e f)else sB cl o [a] (Vl g cl o ba a b c d e f)
def Vn(g:Cg)(cl:Cl)(o ba a b c d e f:Int):Option (List Pl):=bif BQ o then BR g cl o ba 4 [((32:Int),(0:Int),(0:Int)),((32:Int),(1:Int),(0:Int)),((32:Int),(2:Int),(0:Int)),((32:Int),(3:Int),(0:Int))] [126,126,126,126] [a,b,c,rK d] 2 [(xg cl (o,0,0,0,0,[],[a,b,c,rK d],())).1.getD 0 0,(xg cl (o,0,0,0,0,[],[a,b,c,rK d],())).1.getD 1 0] [126,126]else BR g cl o ba 4 [((32:Int),(0:Int),(0:Int)),((32:Int),(1:Int),(0:Int)),((32:Int),(2:Int),(0:Int)),((32:Int),(3:Int),(0:Int))] [126,126,126,126] [a,b,c,d] 2 [(xg cl (o,0,0,0,0,[],[a,b,c,d],())).1.getD 0 0,(xg cl (o,0,0,0,0,[],[a,b,c,d],())).1.getD 1 0] [126,126]
def Vo(g:Cg)(cl:Cl)(o ba a b c d e f:Int):Option (List Pl):=bif BQ o then sB cl o [a,b,rK c] (Vn g cl o ba a b c d e f)else sB cl o [a,b,c] (Vn g cl o ba a b c d e f)
def Vp(g:Cg)(cl:Cl)(o ba a b c d e f:Int):Option (List Pl):=bif BQ o then sB cl o [a,rK b] (Vo g cl o ba a b c d e f)else sB cl o [a,b] (Vo g cl o ba a b c d e f)
def Vr(g:Cg)(cl:Cl)(o ba a b c d e f:Int):Option (List Pl):=bif BQ o then sB cl o [rK a] (Vp g cl o ba a b c d e f)else sB cl o [a] (Vp g cl o ba a b c d e f)
def Vt(g:Cg)(cl:Cl)(o ba a b c d e f:Int):Option (List Pl):=bif BQ o then BR g cl o ba 6 [((32:Int),(0:Int),(0:Int)),((32:Int),(1:Int),(0:Int)),((32:Int),(2:Int),(0:Int)),((32:Int),(3:Int),(0:Int)),((32:Int),(4:Int),(0:Int)),((32:Int),(5:Int),(0:Int))] [126,126,126,126,126,126] [a,b,c,d,e,rK f] 2 [(xg cl (o,0,0,0,0,[],[a,b,c,d,e,rK f],())).1.getD 0 0,(xg cl (o,0,0,0,0,[],[a,b,c,d,e,rK f],())).1.getD 1 0] [126,126]else BR g cl o ba 6 [((32:Int),(0:Int),(0:Int)),((32:Int),(1:Int),(0:Int)),((32:Int),(2:Int),(0:Int)),((32:Int),(3:Int),(0:Int)),((32:Int),(4:Int),(0:Int)),((32:Int),(5:Int),(0:Int))] [126,126,126,126,126,126] [a,b,c,d,e,f] 2 [(xg cl (o,0,0,0,0,[],[a,b,c,d,e,f],())).1.getD 0 0,(xg cl (o,0,0,0,0,[],[a,b,c,d,e,f],())).1.getD 1 0] [126,126]
def Vu(g:Cg)(cl:Cl)(o ba a b c d e f:Int):Option (List Pl):=bif BQ o then sB cl o [a,b,c,d,rK e] (Vt g cl o ba a b c d e f)else sB cl o [a,b,c,d,e] (Vt g cl o ba a b c d e f)
def Vv(g:Cg)(cl:Cl)(o ba a b c d e f:Int):Option (List Pl):=bif BQ o then sB cl o [a,b,c,rK d] (Vu g cl o ba a b c d e f)else sB cl o [a,b,c,d] (Vu g cl o ba a b c d e f)
def Vw(g:Cg)(cl:Cl)(o ba a b c d e f:Int):Option (List Pl):=bif BQ o then sB cl o [a,b,rK c] (Vv g cl o ba a b c d e f)else sB cl o [a,b,c] (Vv g cl o ba a b c d e f)
def Vx(g:Cg)(cl:Cl)(o ba a b c d e f:Int):Option (List Pl):=bif BQ o then sB cl o [a,rK b] (Vw g cl o ba a b c d e f)else sB cl o [a,b] (Vw g cl o ba a b c d e f)
def Vz(g:Cg)(cl:Cl)(o ba a b c d e f:Int):Option (List Pl):=bif BQ o then sB cl o [rK a] (Vx g cl o ba a b c d e f)else sB cl o [a] (Vx g cl o ba a b c d e f)
end Go.Proofs.Vq

noncomputable section
namespace Go.Proofs.Vq
open Go.Ab Go.Ab.Lf Go.Proofs.Sw
set_option maxRecDepth 1000000
theorem acn(a:List Int)(hl:a.length<=1099511627776): ∀ (r:List Int) (j:Nat),a.drop j=r->j<=a.length->uQ zV (cp wV (a,a,(j:Int),())) 0 (cp vf ())
 | [],j,hd,hj=>by
  have h1:=List.drop_eq_nil_iff.1 hd
  refine .last ((Ua a a (j:Int)).trans ?_)
  rw[rV h1]
  rfl
 |v::r,j,hd,hj=>by
  obtain⟨h1,_⟩:=zR hd 0
  have e:=Ua a a (j:Int)
  rw[uI h1,show(nh (j:Int) (a.length:Int)&&nh (j:Int) (a.length:Int))=true by rw[show nh (j:Int) (a.length:Int)=true from qg h1];rfl,dt rfl,Zo (by omega)]at e
  exact .more e (acn a hl r (j+1) (abR hd) h1)
theorem afK(a:List Int)(hl:a.length<=1099511627776):k25 (a,a,())=true/\m25 (a,a,())=(true,()):=by
 obtain⟨q1,q2,_⟩:=Dt (f:=zV) (ti:=wV) (t0:=vf) (t1:=wW) (y:=()) (x:=(a,a,0,())) (acn a hl a 0 rfl (Nat.zero_le _))
 refine nm (ca _) (ca _) ?_
 refine(ar6 a a).trans ?_
 rw[dt rfl]
 show cA (HK zV wV vf wW (a,a,0,())) (bif Fk zV wV (a,a,0,())then _ else _)=_
 rw[q1,q2]
 rfl
theorem afL(i lo:Int)(nc:Nat)(t A:Int):pW 1 1 i lo nc t (32,A,0)=bif decide (0<=A)then decide (A<nz .i64 i lo)else false:=by kernel_rfl
theorem afM(i lo:Int)(nc:Nat)(t A:Int):pW 1 1 i lo nc t (33,A,0)=bif decide (0<=A)then decide (A<nz .i64 i lo)else false:=by kernel_rfl
theorem N8{o:Int}(h:(t245 (o,())).val=some (cp ou (true,()))):tj o=true:=by
 have:=(nm (k:=YC (o,())) (m:=YD (o,())) (ca _) (ca _) h).2
 unfold tj
 rw[this]
theorem sC{o n:Int}(ha:xz (o,())=true/\(m11 (o,())).1=n)(hn:0<n)(h:(t245 (o,())).val=cA (xz (o,())) (bif decide (0<(m11 (o,())).1)then cA (xz (o,())) (some (cp ou (true,())))else some (cp ou (bif decide (o=15)then true else bif decide (o=16)then true else bif decide (o=17)then true else decide (o=256),())))):tj o=true:=by
 refine N8 (h.trans ?_)
 rw[ha.1,ha.2,dt hn];rfl
theorem alf:xz (15,())=true/\(m11 (15,())).1=0:=HM (by kernel_rfl)
theorem N9(i lo:Int)(nc:Nat)(t:Int){o:Int}(v:Int)(ho:o=66∨o=15∨o=27∨o=124∨o=125∨o=126∨o=131∨o=132∨o=133∨o=134∨o=135∨o=136∨o=81∨o=83∨o=84∨o=85∨o=69∨o=80∨o=167∨o=173):pW 1 1 i lo nc t (o,0,v)=true:=by
 rcases ho with rfl|rfl|rfl|rfl|rfl|rfl|rfl|rfl|rfl|rfl|rfl|rfl|rfl|rfl|rfl|rfl|rfl|rfl|rfl|rfl
 ·exact(show pW 1 1 i lo nc t (66,0,v)=tj 66 by kernel_rfl).trans (N8 (by kernel_rfl))
 ·exact(show pW 1 1 i lo nc t (15,0,v)=tj 15 by kernel_rfl).trans ((by
  refine N8 ((show(t245 (15,())).val=cA (xz (15,())) (bif decide (0<(m11 (15,())).1)then cA (xz (15,())) (some (cp ou (true,())))else some (cp ou (true,()))) by kernel_rfl).trans ?_)
  rw[alf.1,alf.2];rfl))
 ·exact(show pW 1 1 i lo nc t (27,0,v)=tj 27 by kernel_rfl).trans (N8 (by kernel_rfl))
 ·exact(show pW 1 1 i lo nc t (124,0,v)=tj 124 by kernel_rfl).trans (sC Nu (by decide) (by kernel_rfl))
 ·exact(show pW 1 1 i lo nc t (125,0,v)=tj 125 by kernel_rfl).trans (sC Nv (by decide) (by kernel_rfl))
 ·exact(show pW 1 1 i lo nc t (126,0,v)=tj 126 by kernel_rfl).trans (sC Nw (by decide) (by kernel_rfl))
 ·exact(show pW 1 1 i lo nc t (131,0,v)=tj 131 by kernel_rfl).trans (sC Ny (by decide) (by kernel_rfl))
 ·exact(show pW 1 1 i lo nc t (132,0,v)=tj 132 by kernel_rfl).trans (sC Nz (by decide) (by kernel_rfl))
 ·exact(show pW 1 1 i lo nc t (133,0,v)=tj 133 by kernel_rfl).trans (sC NA (by decide) (by kernel_rfl))
 ·exact(show pW 1 1 i lo nc t (134,0,v)=tj 134 by kernel_rfl).trans (sC NB (by decide) (by kernel_rfl))
 ·exact(show pW 1 1 i lo nc t (135,0,v)=tj 135 by kernel_rfl).trans (sC NC (by decide) (by kernel_rfl))
 ·exact(show pW 1 1 i lo nc t (136,0,v)=tj 136 by kernel_rfl).trans (sC ND (by decide) (by kernel_rfl))
 ·exact(show pW 1 1 i lo nc t (81,0,v)=tj 81 by kernel_rfl).trans (sC Zz (by decide) (by kernel_rfl))
 ·exact(show pW 1 1 i lo nc t (83,0,v)=tj 83 by kernel_rfl).trans (sC ZA (by decide) (by kernel_rfl))
 ·exact(show pW 1 1 i lo nc t (84,0,v)=tj 84 by kernel_rfl).trans (sC ZB (by decide) (by kernel_rfl))
 ·exact(show pW 1 1 i lo nc t (85,0,v)=tj 85 by kernel_rfl).trans (sC ZC (by decide) (by kernel_rfl))
 ·exact(show pW 1 1 i lo nc t (69,0,v)=tj 69 by kernel_rfl).trans (sC ZD (by decide) (by kernel_rfl))
 ·exact(show pW 1 1 i lo nc t (80,0,v)=tj 80 by kernel_rfl).trans (sC ZE (by decide) (by kernel_rfl))
 ·exact(show pW 1 1 i lo nc t (167,0,v)=tj 167 by kernel_rfl).trans (sC NF (by decide) (by kernel_rfl))
 ·exact(show pW 1 1 i lo nc t (173,0,v)=tj 173 by kernel_rfl).trans (sC NG (by decide) (by kernel_rfl))
theorem afN(i lo:Int)(nc:Nat)(t v:Int):pW 1 1 i lo nc t (66,0,v)=true:=N9 i lo nc t v (.inl rfl)
theorem afO(i lo:Int)(nc:Nat)(t:Int):pW 1 1 i lo nc t (15,0,0)=true:=N9 i lo nc t 0 (.inr (.inl rfl))
theorem A3{k a:Nat}(h:k+a<=10000):nz .i64 (k:Int) (a:Int)=((k+a:Nat):Int):=(wrap_i64 (by omega) (by omega)).trans (by omega)
theorem DO{n b N:Nat}(hn:n<=b)(hb:b+N<=10000)(t:Int)(nc:Nat){op:Int}{k a:Nat}(ho:op=32∨op=33)(h:k+a<b+N):pW 1 1 (n:Int) ((b - n+N:Nat):Int) nc t (op,nz .i64 (k:Int) (a:Int),0)=true:=by
 have p1:(0:Int)<=((k+a:Nat):Int):=Int.natCast_nonneg _
 have p2:((k+a:Nat):Int)<((n+(b - n+N):Nat):Int):=Int.ofNat_lt.2 (by omega)
 have h1:k+a<=10000:=by omega
 have h2:n+(b - n+N)<=10000:=by omega
 rcases ho with rfl|rfl
 ·rw[afL,A3 h1,A3 h2,dt p1,dt p2];rfl
 ·rw[afM,A3 h1,A3 h2,dt p1,dt p2];rfl
theorem afP{op:Nat}(h:UC op=true)(i lo:Int)(nc:Nat)(t:Int):pW 1 1 i lo nc t ((op:Int),0,0)=true:=by
 unfold UC at h
 simp only[Bool.or_eq_true,List.elem_eq_mem,List.mem_cons,List.not_mem_nil,or_false,decide_eq_true_eq]at h
 rcases h with h|(rfl|rfl|rfl|rfl|rfl|rfl|rfl|rfl|rfl|rfl|rfl|rfl|rfl)|(rfl|rfl|rfl|rfl)
 ·obtain rfl:=Nat.eq_of_beq_eq_true h;exact N9 i lo nc t 0 (by decide)
 all_goals exact N9 i lo nc t 0 (by decide)
theorem afQ{n b N:Nat}(hn:n<=b)(hb:b+N<=10000){l:List Sc}(EL: ∀ c,c∈l->LQ N c=true)(t:Int)(nc:Nat): ∀ c,c∈DK n b l->pW 1 1 (n:Int) ((b - n+N:Nat):Int) nc t c=true:=by
 intro c hc
 unfold DK at hc
 rcases List.mem_append.1 hc with hc|hc
 ·obtain⟨s,hs,rfl⟩:=List.mem_map.1 hc
  obtain⟨i,hi,rfl⟩:=List.mem_map.1 hs
  have:=List.mem_range.1 hi
  exact DO hn hb t nc (k:=0) (a:=i) (.inl rfl) (by omega)
 ·rcases List.mem_append.1 hc with hc|hc
  ·obtain⟨s,hs,rfl⟩:=List.mem_map.1 hc
   have h:=EL s hs
   cases s with
   |g a=>exact DO hn hb t nc (k:=b) (a:=a) (.inl rfl) (Nat.add_lt_add_left (Nat.le_of_ble_eq_true (h:Nat.ble (a+1) N=true)) b)
   |s a=>exact DO hn hb t nc (k:=b) (a:=a) (.inr rfl) (Nat.add_lt_add_left (Nat.le_of_ble_eq_true (h:Nat.ble (a+1) N=true)) b)
   |k v=>exact afN _ _ _ _ _
   |o op=>exact afP h _ _ _ _
  ·obtain rfl:=List.mem_singleton.1 hc
   exact afO _ _ _ _
theorem VA{n b:Nat}(l:List Sc):(DK n b l).length=n+l.length+1:=by
 unfold DK;simp only[List.length_append,List.length_map,List.length_range,List.length_cons,List.length_nil];omega
theorem aaB{n o b N:Nat}(hn:n<=b)(hb:b+N<=4000)(hn6:n<=6)(ho:o<=2){l:List Sc}(hl:l.length<=10000)(EL: ∀ c,c∈l->LQ N c=true):
 Fits [(List.replicate n (126:Int),List.replicate o (126:Int))] [sA n o b N l]/\FD [(List.replicate n (126:Int),List.replicate o (126:Int))] [sA n o b N l]=true:=by
 have hlen:=VA (n:=n) (b:=b) l
 refine⟨⟨(by decide:1<=1099511627776),(by decide:1<=1099511627776),fun s hs=>?_,fun f hf=>?_⟩,?_⟩
 ·obtain rfl:=List.mem_singleton.1 hs
  exact⟨by rw[List.length_replicate];omega,by rw[List.length_replicate];omega⟩
 ·obtain rfl:=List.mem_singleton.1 hf
  show(DK n b l).length<=_
  omega
 ·have p: ∀ k,k<=6->PG (List.replicate k (126:Int))=true:=by
   intro k hk
   obtain rfl|rfl|rfl|rfl|rfl|rfl|rfl:k=0∨k=1∨k=2∨k=3∨k=4∨k=5∨k=6:=by omega
   all_goals kernel_rfl
  have s:UD [(List.replicate n (126:Int),List.replicate o (126:Int))]=true:=by
   show(PG (List.replicate n (126:Int))&&PG (List.replicate o (126:Int))&&true)=true
   rw[p n hn6,p o (by omega)];rfl
  have hc:He [(List.replicate n (126:Int),List.replicate o (126:Int))] [sA n o b N l] (sA n o b N l)=true:=by
   unfold He
   rw[List.all_eq_true]
   intro j hj
   have hj:=List.mem_range.1 hj
   exact afQ hn (by omega) EL (j:Int) (DK n b l).length _ (w9 hj (cE oi))
  have hb1:xF [(List.replicate n (126:Int),List.replicate o (126:Int))] (sA n o b N l)=false:=by
   have e:xF [(List.replicate n (126:Int),List.replicate o (126:Int))] (sA n o b N l)=bif decide (((b - n+N:Nat):Int)<0)then true else bif decide (4096<((b - n+N:Nat):Int))then true else true ^^ decide (0<((DK n b l).length:Int)):=by kernel_rfl
   rw[e,df (by omega),df (by omega),dt (by omega)]
   rfl
  have ht:DI (sA n o b N l) (List.replicate n (126:Int),List.replicate o (126:Int))=false:=by
   unfold DI
   show(bif !decide ((n:Int)=((List.replicate n (126:Int)).length:Int))then true else !decide ((o:Int)=((List.replicate o (126:Int)).length:Int)))=false
   rw[List.length_replicate,List.length_replicate,dt rfl,dt rfl]
   rfl
  have f:afe [(List.replicate n (126:Int),List.replicate o (126:Int))] [sA n o b N l]=true:=by
   show(fnB [(List.replicate n (126:Int),List.replicate o (126:Int))] [sA n o b N l] (sA n o b N l)&&true)=true
   unfold fnB
   rw[hb1,cond_false,show [(List.replicate n (126:Int),List.replicate o (126:Int))].getD ((sA n o b N l).2.1:Int).toNat (cE nd)=(List.replicate n (126:Int),List.replicate o (126:Int))from rfl,ht,hc]
   rfl
  unfold FD
  rw[s,f];rfl
end Go.Proofs.Vq

noncomputable section
namespace Go.Proofs.Vq
open Go.Ab Go.Ab.Lf Go.Proofs.Sw
set_option maxRecDepth 1000000
theorem afR(g:Cg){xs ys:List Nat}{b N:Nat}{l:List Sc}{nr:Nat->Nat}(n6:xs.length<=6)(o2:ys.length<=2)(hx: ∀ v,v∈xs->v<cN)(hn:xs.length<=b)(hb:b+N<=4000)(hl:l.length<=10000)(EL: ∀ c,c∈l->LQ N c=true)(hr:run l xs.reverse (fun _=>0)=some (ys.reverse,nr))
 (n:Int)(cs:List (den oi))(tn to:List Int)(loc:Int)(q:cf xh)(X:cf Jx)(q8:cs.length<=6)(hq:q=(l.map (toC (b:Int)),(N:Int),0,()))
 (hX:X=([(List.replicate xs.length (126:Int),List.replicate ys.length (126:Int))],[sA xs.length ys.length b N l],uL (ug []) LD (wT [] ⟨[],[],0⟩ ()))):
 aaz (g1 g) n cs tn (toI xs) (toI ys) to loc q X=some (cp Ew (true,())):=by
 obtain⟨F,P⟩:=aaB hn hb n6 o2 hl EL
 obtain⟨a1,a2⟩:=ZI _ _ [] [] [] [] ⟨[],[],0⟩ false F (by decide:1<=549755813888) (by rw[P];rfl)
 subst hX
 obtain⟨r1,r2⟩:=run_seq g hx hn (by omega) hl EL hr (by omega) ⟨[(List.replicate xs.length (126:Int),List.replicate ys.length (126:Int))],[sA xs.length ys.length b N l],⟨[],[],[],[],ng⟩,⟨[],[],0⟩,ng,false⟩ rfl ys.length rfl rfl
 obtain⟨s1,s2⟩:=afK (toI ys) (by rw[show(toI ys).length=ys.length from List.length_map ..];omega)
 have lq:q.1.length=l.length:=by rw[hq];exact List.length_map ..
 have e0:q.2.2.1=0:=by rw[hq]
 have la:(app cs q.1).length=cs.length+q.1.length:=by rw[nD,List.length_append]
 unfold aaz
 rw[e0,dt rfl,vc (by decide) (show cs.length+q.1.length<=1099511627776 by omega),vc (by decide) (show(app cs q.1).length+1<=1099511627776 by omega),dt rfl,dt rfl]
 have a1:k22 ([(List.replicate xs.length (126:Int),List.replicate ys.length (126:Int))],[sA xs.length ys.length b N l],uL (ug []) LD (wT [] ⟨[],[],0⟩ ()))=true:=a1
 have a2:m22 ([(List.replicate xs.length (126:Int),List.replicate ys.length (126:Int))],[sA xs.length ys.length b N l],uL (ug []) LD (wT [] ⟨[],[],0⟩ ()))=_:=a2
 rw[a1,a2]
 have r1:k23 (g1 g) (yzM (qG [] ⟨[(List.replicate xs.length (126:Int),List.replicate ys.length (126:Int))],[sA xs.length ys.length b N l],⟨[],[],[],[],ng⟩,⟨[],[],0⟩,ng,false⟩ ()) (toI xs))=true:=r1
 have r2:m23 (g1 g) (yzM (qG [] ⟨[(List.replicate xs.length (126:Int),List.replicate ys.length (126:Int))],[sA xs.length ys.length b N l],⟨[],[],[],[],ng⟩,⟨[],[],0⟩,ng,false⟩ ()) (toI xs))=_:=r2
 show(bif !true then _ else cA true (cA true (cA (true&&true) (cA true (cA (k23 (g1 g) (yzM (qG [] ⟨[(List.replicate xs.length (126:Int),List.replicate ys.length (126:Int))],[sA xs.length ys.length b N l],⟨[],[],[],[],ng⟩,⟨[],[],0⟩,ng,false⟩ ()) (toI xs))) _)))))=_
 rw[r1,r2,dt rfl,s1,s2]
 rfl
end Go.Proofs.Vq

noncomputable section
namespace Go.Proofs.Sw
structure Wn(w p n:Nat):Prop extends Wd w p n where
 T:vZ w=oE p n
 R:Br w=rest p n
 O:FP w=rS p n
 h:64 / w=n
 e: ∃ e,w=2 ^ e
 c:(w=8/\p=7/\n=8)∨(w=16/\p=15/\n=4)∨(w=32/\p=31/\n=2)∨(w=64/\p=63/\n=1)
theorem wn8:Wn 8 7 8:=⟨⟨rfl,rfl⟩,by decide,by decide,by decide,rfl,⟨3,rfl⟩,by decide⟩
theorem atf:Wn 16 15 4:=⟨⟨rfl,rfl⟩,by decide,by decide,by decide,rfl,⟨4,rfl⟩,by decide⟩
theorem atg:Wn 32 31 2:=⟨⟨rfl,rfl⟩,by decide,by decide,by decide,rfl,⟨5,rfl⟩,by decide⟩
theorem ath:Wn 64 63 1:=⟨⟨rfl,rfl⟩,by decide,by decide,by decide,rfl,⟨6,rfl⟩,by decide⟩
theorem J7(w:Nat): ∀ (n:Nat) (f:Nat->Nat),pk w (n+1) f=pk w n f+2 ^ (w*n)*f n
 |0,f=>by simp[pk]
 |n+1,f=>by
  have ih:=J7 w n (fun i=>f (i+1))
  show f 0+2 ^ w*pk w (n+1) (fun i=>f (i+1))=f 0+2 ^ w*pk w n (fun i=>f (i+1))+2 ^ (w*(n+1))*f (n+1)
  rw[ih,Nat.mul_add,<-Nat.mul_assoc,<-Nat.pow_add,Nat.mul_succ,Nat.add_comm w]
  omega
theorem VB{k x y:Nat}(hx:x<2 ^ k):x ||| 2 ^ k*y=x+2 ^ k*y:=by
 rw[Nat.or_comm,<-Nat.two_pow_add_eq_or_of_lt hx];omega
theorem aco{w p n:Nat}(W:Wd w p n){x y:Nat}{a b:Nat->Nat}{lo:Nat->Nat}(hx:oh w n (lo x) a)(hy:oh w n (lo y) b)(m:Nat):Ev (L7 w x y n) lo m fun z=>oh w n z fun i=>a i*b i % 2 ^ w:=fun st=>by
 have w0:0<w:=W.pos
 have key: ∀ i,i<n->run (L7 w x y (i+1)) st lo=some (pk w (i+1) (fun j=>a j*b j % 2 ^ w)::st,lo):=by
  intro i
  have hB:=W.big
  have lx: ∀ i,i<n->run (rM x w i) st lo=some (a i::st,lo)/\ ∀ tB,run (rM y w i) tB lo=some (b i::tB,lo):=by
   intro i hi
   have ax:ln w (lo x) i=a i:=by rw[hx.e];exact Bk hx.l i hi
   have ay:ln w (lo y) i=b i:=by rw[hy.e];exact Bk hy.l i hi
   have e: ∀ (v:Nat) (c:Nat),lo v<cN->ln w (lo v) i=c-> ∀ tB,run (rM v w i) tB lo=some (c::tB,lo):=by
    intro v c hv hc tB
    unfold rM
    by_cases h:w=64
    ·have:n=1:=by have:=W.w2;rw[h]at this;omega
     obtain rfl:i=0:=by omega
     rw[if_pos h]
     show some (lo v::tB,lo)=_
     rw[<-hc];unfold ln;rw[Nat.mul_zero,Nat.pow_zero,Nat.div_one,h,Nat.mod_eq_of_lt hv]
    ·rw[if_neg h]
     have hwi:w*i % 64=w*i:=Nat.mod_eq_of_lt (by
      have:w*i<w*n:=Nat.mul_lt_mul_of_pos_left hi w0
      rw[W.w2]at this;exact this)
     by_cases h0:i=0
     ·rw[if_pos h0]
      show some ((lo v &&& (2 ^ w - 1))::tB,lo)=_
      rw[<-hc,Nat.and_two_pow_sub_one_eq_mod,h0];unfold ln;rw[Nat.mul_zero,Nat.pow_zero,Nat.div_one]
     ·rw[if_neg h0]
      show some ((lo v / 2 ^ (w*i % 64) &&& (2 ^ w - 1))::tB,lo)=_
      rw[<-hc,Nat.and_two_pow_sub_one_eq_mod,hwi];rfl
   exact⟨e x (a i) (hx.lt W) ax st,e y (b i) (hy.lt W) ay⟩
  have lx': ∀ i,i<n-> ∀ tB,run (rM x w i) tB lo=some (a i::tB,lo):=by
   intro i hi tB
   have ax:ln w (lo x) i=a i:=by rw[hx.e];exact Bk hx.l i hi
   unfold rM
   by_cases h:w=64
   ·have:n=1:=by have:=W.w2;rw[h]at this;omega
    obtain rfl:i=0:=by omega
    rw[if_pos h]
    show some (lo x::tB,lo)=_
    rw[<-ax];unfold ln;rw[Nat.mul_zero,Nat.pow_zero,Nat.div_one,h,Nat.mod_eq_of_lt (hx.lt W)]
   ·rw[if_neg h]
    have hwi:w*i % 64=w*i:=Nat.mod_eq_of_lt (by
     have:w*i<w*n:=Nat.mul_lt_mul_of_pos_left hi w0
     rw[W.w2]at this;exact this)
    by_cases h0:i=0
    ·rw[if_pos h0]
     show some ((lo x &&& (2 ^ w - 1))::tB,lo)=_
     rw[<-ax,Nat.and_two_pow_sub_one_eq_mod,h0];unfold ln;rw[Nat.mul_zero,Nat.pow_zero,Nat.div_one]
    ·rw[if_neg h0]
     show some ((lo x / 2 ^ (w*i % 64) &&& (2 ^ w - 1))::tB,lo)=_
     rw[<-ax,Nat.and_two_pow_sub_one_eq_mod,hwi];rfl
  have hd:2 ^ w∣cN:=by
   rw[<-W.big];exact Nat.pow_dvd_pow 2 (by
    have:n≠0:=by intro h;have:=W.w2;rw[h]at this;cases this
    exact Nat.le_mul_of_pos_right w (Nat.pos_of_ne_zero this))
  have one: ∀ i tB,i<n->run (rM x w i++(rM y w i++(.o 126::(if w=64 then []else [.k (2 ^ w - 1),.o 131])))) tB lo=some (a i*b i % 2 ^ w::tB,lo):=by
   intro i tB hi
   rw[cU _ _ _ _ (lx' i hi tB),cU _ _ _ _ ((lx i hi).2 _)]
   by_cases h:w=64
   ·rw[if_pos h]
    show some (a i*b i % cN::tB,lo)=_
    rw[h]
   ·rw[if_neg h]
    show some ((a i*b i % cN &&& (2 ^ w - 1))::tB,lo)=_
    rw[Nat.and_two_pow_sub_one_eq_mod,Nat.mod_mod_of_dvd _ hd]
  induction i with
  |zero=>
   intro hi
   show run (rM x w 0++(rM y w 0++(.o 126::((if w=64 then []else [.k (2 ^ w - 1),.o 131])++[])))) st lo=_
   rw[List.append_nil,one 0 st hi]
   simp[pk]
  |succ i ih=>
   intro hi
   have ih:=ih (by omega)
   show run (L7 w x y (i+1)++(rM x w (i+1)++(rM y w (i+1)++(.o 126::((if w=64 then []else [.k (2 ^ w - 1),.o 131])++[.k (w*(i+1)),.o 134,.o 132]))))) st lo=_
   rw[cU _ _ _ _ ih]
   rw[show(rM x w (i+1)++(rM y w (i+1)++(.o 126::((if w=64 then []else [.k (2 ^ w - 1),.o 131])++[.k (w*(i+1)),.o 134,.o 132]))))=(rM x w (i+1)++(rM y w (i+1)++(.o 126::(if w=64 then []else [.k (2 ^ w - 1),.o 131]))))++[.k (w*(i+1)),.o 134,.o 132] by simp[List.append_assoc]]
   rw[cU _ _ _ _ (one (i+1) _ hi)]
   have hwi:w*(i+1)<64:=by
    have:w*(i+1)<w*n:=Nat.mul_lt_mul_of_pos_left hi w0
    rw[W.w2]at this;exact this
   have hp:pk w (i+1) (fun j=>a j*b j % 2 ^ w)<2 ^ (w*(i+1)):=DD fun j _=>Nat.mod_lt _ (Nat.two_pow_pos w)
   show some ((pk w (i+1) (fun j=>a j*b j % 2 ^ w) ||| 2 ^ (w*(i+1) % 64)*(a (i+1)*b (i+1) % 2 ^ w) % cN)::st,lo)=_
   have o5:2 ^ (w*(i+1))*(a (i+1)*b (i+1) % 2 ^ w)<cN:=by
    have h1:2 ^ (w*(i+1))*(a (i+1)*b (i+1) % 2 ^ w)<2 ^ (w*(i+1))*2 ^ w:=Nat.mul_lt_mul_of_pos_left (Nat.mod_lt _ (Nat.two_pow_pos w)) (Nat.two_pow_pos _)
    rw[<-Nat.pow_add,<-Nat.mul_succ]at h1
    refine Nat.lt_of_lt_of_le h1 ?_
    rw[<-W.big]
    exact Nat.pow_le_pow_right (by decide) (Nat.mul_le_mul_left w hi)
   rw[Nat.mod_eq_of_lt hwi,Nat.mod_eq_of_lt o5,VB hp,<-J7 w (i+1)]
 have n0:0<n:=by
  rcases Nat.eq_zero_or_pos n with h|h
  ·have:=W.w2;rw[h]at this;cases this
  ·exact h
 obtain⟨k,rfl⟩: ∃ k,n=k+1:=⟨n - 1,by omega⟩
 exact⟨_,lo,key k (Nat.lt_succ_self k),⟨rfl,fun i _=>Nat.mod_lt _ (Nat.two_pow_pos w)⟩,fun _ _=>rfl⟩
end Go.Proofs.Sw

noncomputable section
namespace Go.Proofs.Sw
theorem HB{c1 c2:List Sc}{P1 P2:Nat->Prop}(al ah bl bh:Nat)(NI:Nat->Nat)
 (h1: ∀ lo:Nat->Nat,lo 0=al->lo 1=ah->lo 2=bl->lo 3=bh->Ev c1 lo 4 P1)(h2: ∀ lo:Nat->Nat,lo 0=al->lo 1=ah->lo 2=bl->lo 3=bh->Ev c2 lo 4 P2):
 ∃ z1 z2 nr,run ([.s 3,.s 2,.s 1,.s 0]++(c1++c2)) [bh,bl,ah,al] NI=some ([z2,z1],nr)/\P1 z1/\P2 z2:=by
 obtain⟨z1,l1,r1,p1,k1⟩:=h1 (qK (qK (qK (qK NI 3 bh) 2 bl) 1 ah) 0 al) rfl rfl rfl rfl []
 obtain⟨z2,l2,r2,p2,k2⟩:=h2 l1 (k1 0 (by decide)) (k1 1 (by decide)) (k1 2 (by decide)) (k1 3 (by decide)) [z1]
 exact⟨z1,z2,l2,(cU c1 c2 [] _ r1).trans r2,p1,p2⟩
theorem aaC{c1 c2:List Sc}{P1 P2:Nat->Prop}(al ah:Nat)(NI:Nat->Nat)
 (h1: ∀ lo:Nat->Nat,lo 0=al->lo 1=ah->Ev c1 lo 2 P1)(h2: ∀ lo:Nat->Nat,lo 0=al->lo 1=ah->Ev c2 lo 2 P2):
 ∃ z1 z2 nr,run ([.s 1,.s 0]++(c1++c2)) [ah,al] NI=some ([z2,z1],nr)/\P1 z1/\P2 z2:=by
 obtain⟨z1,l1,r1,p1,k1⟩:=h1 (qK (qK NI 1 ah) 0 al) rfl rfl []
 obtain⟨z2,l2,r2,p2,k2⟩:=h2 l1 (k1 0 (by decide)) (k1 1 (by decide)) [z1]
 exact⟨z1,z2,l2,(cU c1 c2 [] _ r1).trans r2,p1,p2⟩
section
variable {w p n:Nat}(W:Wn w p n){al ah bl bh:Nat}(VC:al<cN)(VD:ah<cN)(Qc:bl<cN)(hbh:bh<cN)
include W VC VD Qc hbh
theorem ali{k:Nat}(hk:k<10): ∃ nr,run (oQ w (100+k)).1 [bh,bl,ah,al] (fun _=>0)=some ([pk w n (fun i=>if cmpL p k (ln w ah i) (ln w bh i)then 2 ^ w - 1 else 0),pk w n (fun i=>if cmpL p k (ln w al i) (ln w bl i)then 2 ^ w - 1 else 0)],nr):=by
 obtain rfl:=W.w1
 have e:(oQ (p+1) (100+k)).1=[.s 3,.s 2,.s 1,.s 0]++(PF (p+1) (oE p n) (rest p n) 4 k 0 2++PF (p+1) (oE p n) (rest p n) (4+aal k) k 1 3):=by
  unfold oQ
  rw[if_neg (by omega),if_neg (by omega),if_neg (by omega),if_neg (by omega),if_neg (by omega),if_neg (by omega),if_pos (by omega),Nat.add_sub_cancel_left,W.T,W.R]
 obtain⟨z1,z2,nr,r,p1,p2⟩:=HB (P1:=fun z=>oh (p+1) n z fun i=>if cmpL p k (ln (p+1) al i) (ln (p+1) bl i)then 2 ^ (p+1) - 1 else 0) (P2:=fun z=>oh (p+1) n z fun i=>if cmpL p k (ln (p+1) ah i) (ln (p+1) bh i)then 2 ^ (p+1) - 1 else 0) al ah bl bh (fun _=>0)
  (fun lo g0 g1 g2 g3=>abY W.toWd (lo:=lo) (x:=0) (y:=2) (by rw[g0];exact .of W.toWd VC) (by rw[g2];exact .of W.toWd Qc) (m:=4) (u:=4) (Nat.le_refl _) k)
  (fun lo g0 g1 g2 g3=>abY W.toWd (lo:=lo) (x:=1) (y:=3) (by rw[g1];exact .of W.toWd VD) (by rw[g3];exact .of W.toWd hbh) (m:=4) (u:=4+aal k) (Nat.le_add_right _ _) k)
 exact⟨nr,by rw[e,r,p1.e,p2.e]⟩
theorem afS{k:Nat}(hk:14<=k)(hk2:k<100)(hk3:k≠21): ∃ nr,run (oQ w k).1 [bh,bl,ah,al] (fun _=>0)=some ([pk w n (fun i=>sy p k (ln w ah i) (ln w bh i)),pk w n (fun i=>sy p k (ln w al i) (ln w bl i))],nr):=by
 obtain rfl:=W.w1
 have e:(oQ (p+1) k).1=[.s 3,.s 2,.s 1,.s 0]++(JJ (p+1) (oE p n) (rest p n) (rS p n) 4 k 0 2++JJ (p+1) (oE p n) (rest p n) (rS p n) (4+aam k) k 1 3):=by
  unfold oQ aao
  rw[if_neg (by omega),if_neg (by omega),if_neg (by omega),if_neg (by omega),if_neg (by omega),if_neg (by omega),if_neg (by omega),if_neg (by omega),if_neg (by omega),if_neg hk3,if_neg hk3,W.T,W.R,W.O]
 obtain⟨z1,z2,nr,r,p1,p2⟩:=HB (P1:=fun z=>oh (p+1) n z fun i=>sy p k (ln (p+1) al i) (ln (p+1) bl i)) (P2:=fun z=>oh (p+1) n z fun i=>sy p k (ln (p+1) ah i) (ln (p+1) bh i)) al ah bl bh (fun _=>0)
  (fun lo g0 g1 g2 g3=>Ux W.toWd (lo:=lo) (x:=0) (y:=2) (by rw[g0];exact .of W.toWd VC) (by rw[g2];exact .of W.toWd Qc) (m:=4) (u:=4) (Nat.le_refl _) (by decide) (by decide) k)
  (fun lo g0 g1 g2 g3=>Ux W.toWd (lo:=lo) (x:=1) (y:=3) (by rw[g1];exact .of W.toWd VD) (by rw[g3];exact .of W.toWd hbh) (m:=4) (u:=4+aam k) (Nat.le_add_right _ _) (by decide) (by decide) k)
 exact⟨nr,by rw[e,r,p1.e,p2.e]⟩
theorem alj: ∃ nr,run (oQ w 21).1 [bh,bl,ah,al] (fun _=>0)=some ([pk w n (fun i=>ln w ah i*ln w bh i % 2 ^ w),pk w n (fun i=>ln w al i*ln w bl i % 2 ^ w)],nr):=by
 have e:(oQ w 21).1=[.s 3,.s 2,.s 1,.s 0]++(L7 w 0 2 n++L7 w 1 3 n):=by
  unfold oQ aao
  rw[if_neg (by omega),if_neg (by omega),if_neg (by omega),if_neg (by omega),if_neg (by omega),if_neg (by omega),if_neg (by omega),if_neg (by omega),if_neg (by omega),if_pos rfl,if_pos rfl,W.h]
 obtain⟨z1,z2,nr,r,p1,p2⟩:=HB (P1:=fun z=>oh w n z fun i=>ln w al i*ln w bl i % 2 ^ w) (P2:=fun z=>oh w n z fun i=>ln w ah i*ln w bh i % 2 ^ w) al ah bl bh (fun _=>0)
  (fun lo g0 g1 g2 g3=>aco W.toWd (lo:=lo) (x:=0) (y:=2) (by rw[g0];exact .of W.toWd VC) (by rw[g2];exact .of W.toWd Qc) 4)
  (fun lo g0 g1 g2 g3=>aco W.toWd (lo:=lo) (x:=1) (y:=3) (by rw[g1];exact .of W.toWd VD) (by rw[g3];exact .of W.toWd hbh) 4)
 exact⟨nr,by rw[e,r,p1.e,p2.e]⟩
omit Qc hbh
theorem alk{k:Nat}(hk:k=0∨k=1∨(k=2/\w=8)): ∃ nr,run (oQ w k).1 [ah,al] (fun _=>0)=some ([pk w n (fun i=>A2 p k (ln w ah i)),pk w n (fun i=>A2 p k (ln w al i))],nr):=by
 obtain rfl:=W.w1
 have hk2:k<=2:=by omega
 have e:(oQ (p+1) k).1=[.s 1,.s 0]++(Hc (p+1) (oE p n) (rest p n) (rS p n) 2 k 0++Hc (p+1) (oE p n) (rest p n) (rS p n) (2+aan k) k 1):=by
  unfold oQ
  rw[if_neg (by omega),if_neg (by omega),if_neg (by omega),if_neg (by omega),if_neg (by omega),if_neg (by omega),if_neg (by omega),if_pos hk2,W.T,W.R,W.O]
 have R: ∀ (lo:Nat->Nat) (x u v:Nat),lo x=v->v<cN->2<=u->x<2->Ev (Hc (p+1) (oE p n) (rest p n) (rS p n) u k x) lo 2 fun z=>oh (p+1) n z fun i=>A2 p k (ln (p+1) v i):=by
  intro lo x u v g hv hu hx
  have hl:oh (p+1) n (lo x) (ln (p+1) v):=by rw[g];exact .of W.toWd hv
  rcases hk with rfl|rfl|⟨rfl,h8⟩
  ·exact ajS W.toWd hl hu hx
  ·exact ajT W.toWd hl
  ·obtain rfl:p=7:=by omega
   have:n=8:=by have:=W.w2;omega
   subst this
   exact ajU hl hu hx
 obtain⟨z1,z2,nr,r,p1,p2⟩:=aaC (P1:=fun z=>oh (p+1) n z fun i=>A2 p k (ln (p+1) al i)) (P2:=fun z=>oh (p+1) n z fun i=>A2 p k (ln (p+1) ah i)) al ah (fun _=>0)
  (fun lo g0 g1=>R lo 0 2 al g0 VC (Nat.le_refl _) (by decide)) (fun lo g0 g1=>R lo 1 (2+aan k) ah g1 VD (Nat.le_add_right _ _) (by decide))
 exact⟨nr,by rw[e,r,p1.e,p2.e]⟩
theorem ati{k:Nat}(hk:k=11∨k=12∨k=13)(q:Nat): ∃ nr,run (oQ w k).1 [q,ah,al] (fun _=>0)=some ([pk w n (fun i=>Zx p k (q % 4294967296 % w) (ln w ah i)),pk w n (fun i=>Zx p k (q % 4294967296 % w) (ln w al i))],nr):=by
 obtain rfl:=W.w1
 obtain⟨e0,he⟩:=W.e
 have e:(oQ (p+1) k).1=[.s 2,.s 1,.s 0]++(Ns (p+1) (rS p n) k 0++(w8 (p+1) (oE p n) k 0 0++w8 (p+1) (oE p n) k 0 1)):=by
  unfold oQ
  rw[if_neg (by omega),if_neg (by omega),if_neg (by omega),if_neg (by omega),if_neg (by omega),if_neg (by omega),if_neg (by omega),if_neg (by omega),if_pos (by omega),W.T,W.O]
 obtain⟨l1,r1,a2,a3,a4⟩:=Zy W.toWd he k 0 [] (qK (qK (qK (fun _=>0) 2 q) 1 ah) 0 al)
 have hq:q % 4294967296 % (p+1)<p+1:=Nat.mod_lt _ (Nat.succ_pos _)
 have b2:l1 (0+2)=q % 4294967296 % (p+1):=a2
 have b3:l1 (0+3)=pk (p+1) n fun _=>Nt p k (q % 4294967296 % (p+1)):=a3
 have b0:l1 0=al:=a4 0 (by decide)
 have b1:l1 1=ah:=a4 1 (by decide)
 obtain⟨z1,l2,r2,p1,k2⟩:=JK W.toWd (k:=k) (v:=0) (x:=0) hq (lo:=l1) (a:=ln (p+1) al) (by rw[b0];exact .of W.toWd VC) b2 b3 4 []
 obtain⟨z2,l3,r3,p2,k3⟩:=JK W.toWd (k:=k) (v:=0) (x:=1) hq (lo:=l2) (a:=ln (p+1) ah) (by rw[k2 1 (by decide),b1];exact .of W.toWd VD) ((k2 2 (by decide)).trans b2) ((k2 3 (by decide)).trans b3) 4 [z1]
 refine⟨l3,?_⟩
 rw[e]
 refine(show run ([.s 2,.s 1,.s 0]++_) [q,ah,al] (fun _=>0)=run (Ns (p+1) (rS p n) k 0++(w8 (p+1) (oE p n) k 0 0++w8 (p+1) (oE p n) k 0 1)) [] (qK (qK (qK (fun _=>0) 2 q) 1 ah) 0 al)from rfl).trans ?_
 rw[cU _ _ _ _ r1,cU _ _ _ _ r2,r3,p1.e,p2.e]
end
end Go.Proofs.Sw

noncomputable section
namespace Go.Proofs.Sw
theorem alm{al ah:Nat}: ∃ nr,run (oQ 64 200).1 [ah,al] (fun _=>0)=some ([ah ^^^ Up,al ^^^ Up],nr):=⟨_,rfl⟩
theorem aln{al ah bl bh:Nat}: ∃ nr,run (oQ 64 201).1 [bh,bl,ah,al] (fun _=>0)=some ([ah &&& bh,al &&& bl],nr):=⟨_,rfl⟩
theorem afT{al ah bl bh:Nat}: ∃ nr,run (oQ 64 202).1 [bh,bl,ah,al] (fun _=>0)=some ([ah &&& (bh ^^^ Up),al &&& (bl ^^^ Up)],nr):=⟨_,rfl⟩
theorem atj{al ah bl bh:Nat}: ∃ nr,run (oQ 64 203).1 [bh,bl,ah,al] (fun _=>0)=some ([ah ||| bh,al ||| bl],nr):=⟨_,rfl⟩
theorem alo{al ah bl bh:Nat}: ∃ nr,run (oQ 64 204).1 [bh,bl,ah,al] (fun _=>0)=some ([ah ^^^ bh,al ^^^ bl],nr):=⟨_,rfl⟩
theorem alp{al ah bl bh cl ch:Nat}: ∃ nr,run (oQ 64 205).1 [ch,cl,bh,bl,ah,al] (fun _=>0)=some ([bh ^^^ ((ah ^^^ bh) &&& ch),bl ^^^ ((al ^^^ bl) &&& cl)],nr):=⟨_,rfl⟩
theorem alq{al ah:Nat}: ∃ nr,run (oQ 64 206).1 [ah,al] (fun _=>0)=some ([if al=0/\ah=0 then 0 else 1],nr):=by
 refine⟨fun _=>0,?_⟩
 show some ([JG (decide (JG (decide (al ||| ah=0)) % 4294967296=0))],fun _=>0)=_
 by_cases h:al=0/\ah=0
 ·obtain⟨rfl,rfl⟩:=h
  rfl
 ·have: ¬ (al ||| ah=0):=fun q=>h (Nat.or_eq_zero_iff.1 q)
  rw[if_neg h,decide_eq_false this]
  rfl
theorem afU{w:Nat}{n:Nat}{f g:Nat->Nat}(hf: ∀ i,i<n->f i<2 ^ w)(hg: ∀ i,i<n->g i<2 ^ w)(e:pk w n f=pk w n g): ∀ i,i<n->f i=g i:=fun i hi=>by
 rw[<-Bk hf i hi,<-Bk hg i hi,e]
theorem atk: ∀ S:Fin 256,(pk 8 8 (ln 1 S.1)*Vc 8 % cN) / 2 ^ 56 &&& 255=S.1:=by decide+kernel
theorem alr: ∀ S:Fin 16,(pk 16 4 (ln 1 S.1)*Vc 16 % cN) / 2 ^ 48 &&& 15=S.1:=by decide+kernel
theorem alu: ∀ S:Fin 4,(pk 32 2 (ln 1 S.1)*Vc 32 % cN) / 2 ^ 32 &&& 3=S.1:=by decide+kernel
section
variable {w p n:Nat}(W:Wn w p n){al ah:Nat}(VC:al<cN)(VD:ah<cN)
include W VC VD
theorem alv: ∃ nr c,run (oQ w 300).1 [ah,al] (fun _=>0)=some ([JG c],nr)/\(c=true↔ ∀ i,i<n->ln w al i≠0/\ln w ah i≠0):=by
 obtain rfl:=W.w1
 have h0:=DG W.toWd (oh.of W.toWd VC)
 have h1:=DG W.toWd (oh.of W.toWd VD)
 refine⟨qK (qK (fun _=>0) 1 ah) 0 al,decide ((((((al &&& rest p n)+rest p n) % cN) ||| al) &&& oE p n) &&& (((((ah &&& rest p n)+rest p n) % cN) ||| ah) &&& oE p n)=oE p n),?_,?_⟩
 ·unfold oQ
  rw[if_pos rfl,W.T,W.R]
  rfl
 ·rw[decide_eq_true_iff]
  have hz:=h0.and W.toWd h1
  have hT:=Tl p n
  have hp:=Nat.two_pow_pos p
  rw[hz.e]
  constructor
  ·intro e i hi
   have:=afU hz.l hT.l e i hi
   constructor
   ·intro h;rw[if_pos h,Nat.zero_and]at this;omega
   ·intro h;rw[if_pos h,Nat.and_zero]at this;omega
  ·intro h
   refine cB fun i hi=>?_
   rw[if_neg (h i hi).1,if_neg (h i hi).2,Nat.and_self]
omit VC VD in
theorem acp{x v:Nat}(hv:v<cN){lo:Nat->Nat}(g:lo x=v)(st:List Nat):run (J6 w x) st lo=some (pk 1 n (fun i=>ln w v i / 2 ^ p)::st,lo):=by
 obtain rfl:=W.w1
 have hl:=oh.of W.toWd hv
 have hs: ∀ i,ln (p+1) v i / 2 ^ p<2:=fun i=>by
  have:=wX (w:=p+1) v i
  rw[p2]at this
  exact(Nat.div_lt_iff_lt_mul (Nat.two_pow_pos p)).2 this
 have hS:pk 1 n (fun i=>ln (p+1) v i / 2 ^ p)<2 ^ n:=by
  have:=DD (w:=1) (n:=n) (f:=fun i=>ln (p+1) v i / 2 ^ p) fun i _=>hs i
  rwa [Nat.one_mul]at this
 have hq: ∀ i,i<n->ln 1 (pk 1 n (fun i=>ln (p+1) v i / 2 ^ p)) i=ln (p+1) v i / 2 ^ p:=Bk fun i _=>hs i
 have Mi:=W.w2
 have Z8:p % 64=p:=Nat.mod_eq_of_lt (by
  have h0:n≠0:=by intro h;rw[h]at Mi;cases Mi
  have:=Nat.le_mul_of_pos_right (p+1) (Nat.pos_of_ne_zero h0)
  omega)
 have sh:(v / 2 ^ p) &&& rS p n=pk (p+1) n (fun i=>ln (p+1) v i / 2 ^ p):=by
  have:=LM (w:=p+1) (Nat.succ_pos p) (n:=n) (k:=p) (f:=ln (p+1) v) (Nat.le_succ p) hl.l
  rw[show p+1 - p=1 by omega]at this
  rw[<-this,<-hl.e]
 unfold J6
 by_cases h:p+1=64
 ·rw[if_pos h]
  have n1:=W.toWd.n1 h
  subst n1
  show some ((lo x / 2 ^ (p % 64))::st,lo)=_
  rw[g,Z8]
  have e0:v / 2 ^ p=pk 1 1 (fun i=>ln (p+1) v i / 2 ^ p):=by
   show _=ln (p+1) v 0 / 2 ^ p+2 ^ 1*0
   unfold ln
   rw[Nat.mul_zero (p+1),Nat.pow_zero,Nat.div_one,h,Nat.mod_eq_of_lt hv]
   rfl
  rw[<-e0]
 ·rw[if_neg h,W.O,W.h]
  show some (((((lo x / 2 ^ (p % 64)) &&& rS p n)*Vc (p+1) % cN) / 2 ^ ((64 - (p+1)) % 64) &&& (2 ^ n - 1))::st,lo)=_
  rw[g,Z8,sh,<-cB hq]
  generalize pk 1 n (fun i=>ln (p+1) v i / 2 ^ p)=S at*
  have cs:(p=7/\n=8)∨(p=15/\n=4)∨(p=31/\n=2):=by
   rcases W.c with h|h|h|h
   ·exact .inl h.2
   ·exact .inr (.inl h.2)
   ·exact .inr (.inr h.2)
   ·omega
  rcases cs with⟨rfl,rfl⟩|⟨rfl,rfl⟩|⟨rfl,rfl⟩
  ·have:=atk ⟨S,hS⟩;exact congrArg (fun q=>some (q::st,lo)) this
  ·have:=alr ⟨S,hS⟩;exact congrArg (fun q=>some (q::st,lo)) this
  ·have:=alu ⟨S,hS⟩;exact congrArg (fun q=>some (q::st,lo)) this
theorem alw: ∃ nr,run (oQ w 301).1 [ah,al] (fun _=>0)=some ([pk 1 (n+n) (fun i=>if i<n then ln w al i / 2 ^ p else ln w ah (i - n) / 2 ^ p)],nr):=by
 obtain⟨lo,DP⟩: ∃ lo,lo=qK (qK (fun _=>0) 1 ah) 0 al:=⟨_,rfl⟩
 have g0:lo 0=al:=by rw[DP];rfl
 have g1:lo 1=ah:=by rw[DP];rfl
 refine⟨lo,?_⟩
 have n8:n<=8/\0<n:=by rcases W.c with h|h|h|h<;>omega
 have hs: ∀ v i,ln w v i / 2 ^ p<2:=fun v i=>by
  have:=wX (w:=w) v i
  rw[W.w1,p2]at this
  exact(Nat.div_lt_iff_lt_mul (Nat.two_pow_pos p)).2 (by rw[W.w1];exact this)
 have L: ∀ v,pk 1 n (fun i=>ln w v i / 2 ^ p)<2 ^ n:=fun v=>by
  have:=DD (w:=1) (n:=n) (f:=fun i=>ln w v i / 2 ^ p) fun i _=>hs v i
  rwa [Nat.one_mul]at this
 have e:(oQ w 301).1=[.s 1,.s 0]++(J6 w 0++(J6 w 1++[.k n,.o 134,.o 132,.o 167])):=by
  unfold oQ
  rw[if_neg (by decide),if_pos rfl,W.h]
 rw[e]
 refine(show run ([.s 1,.s 0]++_) [ah,al] (fun _=>0)=run (J6 w 0++(J6 w 1++[.k n,.o 134,.o 132,.o 167])) [] lo by rw[DP];rfl).trans ?_
 rw[cU _ _ _ _ (acp W VC g0 []),cU _ _ _ _ (acp W VD g1 _)]
 show some ([((pk 1 n fun i=>ln w al i / 2 ^ p) ||| (2 ^ (n % 64)*(pk 1 n fun i=>ln w ah i / 2 ^ p) % cN)) % 4294967296],lo)=_
 have h1:=L al
 have h2:=L ah
 have hn:2 ^ n<=2 ^ 8:=Nat.pow_le_pow_right (by decide) n8.1
 have h3:2 ^ n*pk 1 n (fun i=>ln w ah i / 2 ^ p)<2 ^ n*2 ^ n:=Nat.mul_lt_mul_of_pos_left h2 (Nat.two_pow_pos n)
 have h4:2 ^ n*2 ^ n<=2 ^ 8*2 ^ 8:=Nat.mul_le_mul hn hn
 rw[Nat.mod_eq_of_lt (show n<64 by omega),Nat.mod_eq_of_lt (show _<cN from Nat.lt_of_lt_of_le h3 (Nat.le_trans h4 (by decide))),VB h1,Nat.mod_eq_of_lt (by omega)]
 have ap: ∀ (k m:Nat) (f:Nat->Nat),pk 1 (k+m) f=pk 1 k f+2 ^ k*pk 1 m (fun i=>f (k+i)):=by
  intro k
  induction k with
  |zero=>intro m f;simp[pk]
  |succ k ih=>
   intro m f
   have:=ih m (fun i=>f (i+1))
   rw[Nat.succ_add]
   show f 0+2 ^ 1*pk 1 (k+m) (fun i=>f (i+1))=f 0+2 ^ 1*pk 1 k (fun i=>f (i+1))+2 ^ (k+1)*pk 1 m (fun i=>f (k+1+i))
   rw[this,Nat.mul_add,<-Nat.mul_assoc,<-Nat.pow_add,Nat.add_comm 1 k,Nat.add_assoc]
   congr 3
   exact cB fun i _=>by congr 1;omega
 rw[ap n n,cB (w:=1) (n:=n) (f:=fun i=>if i<n then ln w al i / 2 ^ p else ln w ah (i - n) / 2 ^ p) (g:=fun i=>ln w al i / 2 ^ p) fun i hi=>if_pos hi]
 rw[cB (w:=1) (n:=n) (f:=fun i=>(fun i=>if i<n then ln w al i / 2 ^ p else ln w ah (i - n) / 2 ^ p) (n+i)) (g:=fun i=>ln w ah i / 2 ^ p) fun i hi=>by show(if n+i<n then _ else _)=_;rw[if_neg (by omega),Nat.add_sub_cancel_left]]
end
end Go.Proofs.Sw

noncomputable section
namespace Go.Proofs.Vq
open Go.Ab Go.Ab.Lf Go.Proofs.Sw
set_option maxRecDepth 1000000
theorem alx(n:Nat)(hn:n<=6)(ba:Int): ∃ R,R<100/\L9 (n:Int) ba=((n+R:Nat):Int):=by
 have e0:cb .u64 ba=((ba % 18446744073709551616).toNat:Int):=(Int.toNat_of_nonneg (Int.emod_nonneg _ (by decide))).symm
 generalize hv:(ba % 18446744073709551616).toNat=v at e0
 have e1:we .u64 (v:Int) 100=((v % 100:Nat):Int):=rfl
 have hR:v % 100<100:=Nat.mod_lt _ (by decide)
 refine⟨v % 100,hR,?_⟩
 generalize v % 100=R at*
 have e2:cb .i64 (R:Int)=(R:Int):=wrap_i64 (by clear e0 e1;omega) (by clear e0 e1;omega)
 show nz .i64 (n:Int) (cb .i64 (we .u64 (cb .u64 ba) 100))=_
 rw[e0,e1,e2]
 exact A3 (by clear e0 e1 e2;omega)
theorem Ag(g:Cg){o:Int}{xs ys:List Nat}{N:Nat}{l:List Sc}{nr:Nat->Nat}(n6:xs.length<=6)(o2:ys.length<=2)(hx: ∀ v,v∈xs->v<cN)(hN:N<=1000)(hl:l.length<=10000)(EL: ∀ c,c∈l->LQ N c=true)(hr:run l xs.reverse (fun _=>0)=some (ys.reverse,nr))
 (S: ∀ b:Nat,b<=4000->(t43 (o,0,0,0,0,[],(b:Int),())).val=some (cp xh (l.map (toC (b:Int)),(N:Int),0,())))
 (ba:Int)(n:Int)(hn:n=(xs.length:Int))(cs:List (den oi))(tn to:List Int)(q8:cs=((List.range xs.length).map Sc.g).map (toC 0))(WI:tn=List.replicate xs.length (126:Int))(Bc:to=List.replicate ys.length (126:Int))(L W:List Int)(hL:L=toI xs)(hW:W=toI ys):
 aaA (g1 g) o ba n cs tn L W to=some (cp Ew (true,())):=by
 subst hn;subst hL;subst hW;subst WI;subst Bc
 obtain⟨R,hR,hb⟩:=alx xs.length n6 ba
 obtain⟨b,hbb⟩: ∃ b,b=xs.length+R:=⟨_,rfl⟩
 rw[<-hbb]at hb
 have hb4:b<=4000:=by omega
 have q:=nm (k:=k43 (o,0,0,0,0,[],(b:Int),())) (m:=VX (o,0,0,0,0,[],(b:Int),())) (ca _) (ca _) (S b hb4)
 have lcs:cs.length=xs.length:=by rw[q8,List.length_map,List.length_map,List.length_range]
 have atl:nz .i64 (cz .i64 (b:Int) (xs.length:Int)) (N:Int)=((b - xs.length+N:Nat):Int):=by
  have e1:cz .i64 (b:Int) (xs.length:Int)=((b - xs.length:Nat):Int):=(wrap_i64 (by omega) (by omega)).trans (by omega)
  rw[e1]
  exact A3 (by clear e1;omega)
 show cA (k43 (o,0,0,0,0,[],L9 (xs.length:Int) ba,())) (aaz (g1 g) (xs.length:Int) cs (List.replicate xs.length (126:Int)) (toI xs) (toI ys) (List.replicate ys.length (126:Int)) (nz .i64 (cz .i64 (L9 (xs.length:Int) ba) (xs.length:Int)) (VX (o,0,0,0,0,[],L9 (xs.length:Int) ba,())).2.1) (VX (o,0,0,0,0,[],L9 (xs.length:Int) ba,()))
  (Vf (xs.length:Int) cs (List.replicate xs.length (126:Int)) (toI ys) (List.replicate ys.length (126:Int)) (nz .i64 (cz .i64 (L9 (xs.length:Int) ba) (xs.length:Int)) (VX (o,0,0,0,0,[],L9 (xs.length:Int) ba,())).2.1) (VX (o,0,0,0,0,[],L9 (xs.length:Int) ba,()))))=_
 rw[hb,q.1]
 rw[show ∀ r:Option (List Pl),cA true r=r from fun _=>rfl]
 refine afR g n6 o2 hx (b:=b) (N:=N) (l:=l) (by omega) (by omega) hl EL hr _ _ (List.replicate xs.length (126:Int)) (List.replicate ys.length (126:Int)) _ _ _ (by rw[lcs];exact n6) q.2 ?_
 unfold Vf
 rw[q.2]
 show([(List.replicate xs.length (126:Int),List.replicate ys.length (126:Int))],[((-1:Int),(0:Int),(xs.length:Int),Int.ofNat (toI ys).length,nz .i64 (cz .i64 (b:Int) (xs.length:Int)) (N:Int),app (app cs (l.map (toC (b:Int)))) [((15:Int),(0:Int),(0:Int))],[])],uL (ug []) LD (wT [] ⟨[],[],0⟩ ()))=_
 rw[atl,nD,nD,q8,show(toI ys).length=ys.length from List.length_map ..,List.append_assoc]
 rfl
structure Oq(I O:List Int)(op:Int):Prop where
 k:NZ (op,())=true
 c:Qh I O op=true
 ge:64768<=op
theorem nE{I O:List Int}{op:Int}(h:Oq I O op)(r:Option (List Pl)):pN I O op r=r:=by
 show cA (NZ (op,())) (cA (Qh I O op) (bif !(bif decide (64768<=op)then true else false)then xH else cA (NZ (op,())) (cA (Qh I O op) r)))=r
 rw[h.k,h.c,dt h.ge];rfl
theorem yN{cl:Cl}{x:cf L6}{w:List Int}{e:Int}(h:(t38 cl x).val=some (cp pY (w,e,()))):k38 cl x=true/\xg cl x=(w,e,()):=nm (ca _) (ca _) h
theorem qN{cl:Cl}{o:Int}{l:List Int}{next:Option (List Pl)}(h:(t38 cl (o,0,0,0,0,[],l,())).val=xH):sB cl o l next=next:=by
 obtain⟨a,b⟩:=yN h
 unfold sB
 rw[a,b];rfl
theorem Ah{g:Cg}{cl:Cl}{o ba n:Int}{cs:List (den oi)}{tn l w to ws:List Int}{L:Nat}(h:(t38 cl (o,0,0,0,0,[],l,())).val=some (cp pY (ws,0,())))(hL:ws.length=L)(hw:w=ws)(r:aaA g o ba n cs tn l ws to=some (cp Ew (true,()))):BR g cl o ba n cs tn l L w to=some (cp Ew (true,())):=by
 obtain⟨a,b⟩:=yN h
 unfold BR
 rw[a,b,hw]
 show cA true (cA (decide ((0:Int)=0)&&decide (ws.length=L)) (aaA g o ba n cs tn l ws to))=_
 rw[dt rfl,dt hL,r];rfl
theorem uO{x y:Nat}:By (cV [] (nL (x:Int) (y:Int)) ()) (uh x y):=⟨fun m hm=>by
 rw[JY _ hm]
 show(bif Nat.blt m 8 then cb .u8 (px .u64 (x:Int) ((8*m:Nat):Int))else cb .u8 (px .u64 (y:Int) ((8*(m - 8):Nat):Int)))=_
 unfold uh
 by_cases h:m<8
 ·rw[show Nat.blt m 8=true by unfold Nat.blt;exact Nat.ble_eq_true_of_le h,if_pos h,cond_true,JM (by omega),UX];rfl
 ·rw[show Nat.blt m 8=false by
   unfold Nat.blt
   cases hq:Nat.ble (m+1) 8 with
   |false=>rfl
   |true=>exact absurd (Nat.le_of_ble_eq_true hq) h,if_neg h,cond_false,JM (by omega),UX];rfl,oF x y⟩
theorem ua{w p n:Nat}(W:Wn w p n){lo hi i:Nat}(h:i<n):p' w lo hi i=ln w lo i:=by unfold p';rw[W.h,if_pos h]
theorem ub{w p n:Nat}(W:Wn w p n){lo hi i:Nat}:p' w lo hi (n+i)=ln w hi i:=by unfold p';rw[W.h,if_neg (by omega),Nat.add_sub_cancel_left]
theorem P4{w p n:Nat}(W:Wn w p n):Wq w/\128 / w=n+n/\w - 1=p:=by
 rcases W.c with⟨rfl,rfl,rfl⟩|⟨rfl,rfl,rfl⟩|⟨rfl,rfl,rfl⟩|⟨rfl,rfl,rfl⟩<;>unfold Wq<;>decide
theorem HD{w p n:Nat}(W:Wn w p n){y:Vy}{L f:Nat->Nat}(hb:Bl (w / 8) y L)(h: ∀ i,i<128 / w->L i % 2 ^ w=f i):qI (vO y) 0 8=((pk w n f:Nat):Int)/\qI (vO y) 8 8=((pk w n (fun i=>f (n+i)):Nat):Int):=by
 obtain⟨q1,q2,q3⟩:=P4 W
 constructor
 ·rw[hb.lo q1,W.h];congr 1;exact cB fun i hi=>h i (by omega)
 ·rw[hb.hi q1,W.h];congr 1;exact cB fun i hi=>h (n+i) (by omega)
end Go.Proofs.Vq

noncomputable section
namespace Go.Proofs.Vq
open Go.Ab Go.Ab.Lf Go.Proofs.Sw
set_option maxRecDepth 1000000
theorem atm(g:Cg)(cl:Cl)(op a b c d e f ba:Int):(t9 g false cl 0 0 (op,a,b,c,d,e,f,ba,())).val=cA (L8 (Ex op,())) (cA (!(xor false (Kn (Ex op,())).1)) (some (cp Ew (true,())))):=by kernel_rfl
theorem afV(g:Cg)(cl:Cl)(op a b c d e f ba:Int):(t9 g true cl 2 2 (op,a,b,c,d,e,f,ba,())).val=cA (L8 (Ex op,())) (cA (!(xor true (Kn (Ex op,())).1)) (cA (Ki ng) (Vh g cl (Ex op) ba a b c d e f))):=by kernel_rfl
theorem afW(g:Cg)(cl:Cl)(op a b c d e f ba:Int):(t9 g true cl 2 1 (op,a,b,c,d,e,f,ba,())).val=cA (L8 (Ex op,())) (cA (!(xor true (Kn (Ex op,())).1)) (cA (Ki ng) (Vj g cl (Ex op) ba a b c d e f))):=by kernel_rfl
theorem afX(g:Cg)(cl:Cl)(op a b c d e f ba:Int):(t9 g true cl 3 2 (op,a,b,c,d,e,f,ba,())).val=cA (L8 (Ex op,())) (cA (!(xor true (Kn (Ex op,())).1)) (cA (Ki ng) (Vm g cl (Ex op) ba a b c d e f))):=by kernel_rfl
theorem afY(g:Cg)(cl:Cl)(op a b c d e f ba:Int):(t9 g true cl 4 2 (op,a,b,c,d,e,f,ba,())).val=cA (L8 (Ex op,())) (cA (!(xor true (Kn (Ex op,())).1)) (cA (Ki ng) (Vr g cl (Ex op) ba a b c d e f))):=by kernel_rfl
end Go.Proofs.Vq

noncomputable section
namespace Go.Proofs.Vq
open Go.Ab Go.Ab.Lf Go.Proofs.Sw
set_option maxRecDepth 1000000
theorem afZ(g:Cg)(cl:Cl)(op a b c d e f ba:Int):(t9 g true cl 6 2 (op,a,b,c,d,e,f,ba,())).val=cA (L8 (Ex op,())) (cA (!(xor true (Kn (Ex op,())).1)) (cA (Ki ng) (Vz g cl (Ex op) ba a b c d e f))):=by kernel_rfl
end Go.Proofs.Vq
