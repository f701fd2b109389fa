import Derived.Test.YtcnkojgmochcgaaGreatDoorSvL
noncomputable section
namespace Go.Proofs.Vq
open Go.Ab Go.Ab.Lf Go.Proofs.Sw
set_option maxRecDepth 1000000
structure Sq(o:Int)(l:List Sc)(N:Nat):Prop where
 S: ∀ b:Nat,b<=4000->(t43 (o,0,0,0,0,[],(b:Int),())).val=some (cp xh (l.map (toC (b:Int)),(N:Int),0,()))
 ok: ∀ c,c∈l->LQ N c=true
 len:l.length<=10000
 n:N<=1000
structure Is(op:Int)(o:Int):Prop where
 e:Ex op=o
 k:L8 (o,())=true
 m:(Kn (o,())).1=true
theorem Oa(x:Nat)(h:x<cN):rK (x:Int)=((x % 4294967296:Nat):Int):=by
 have:=Cj x 4294967295 h (by decide)
 rw[show(4294967295:Nat)=2 ^ 32 - 1 from rfl,Nat.and_two_pow_sub_one_eq_mod]at this
 exact this
theorem A4(g:Cg)(cl:Cl){op o:Int}(hi:Is op o)(hs:BQ o=false){l:List Sc}{N:Nat}(Q:Sq o l N)
 (W1: ∀ a:Int,(t38 cl (o,0,0,0,0,[],[a],())).val=xH)
 (W2: ∀ a b:Int,(t38 cl (o,0,0,0,0,[],[a,b],())).val=xH)
 (W3: ∀ a b c:Int,(t38 cl (o,0,0,0,0,[],[a,b,c],())).val=xH)
 (D: ∀ x0 x1 x2 x3:Nat,x0<cN->x1<cN->x2<cN->x3<cN-> ∃ (y0 y1:Nat) (nr:Nat->Nat),(t38 cl (o,0,0,0,0,[],[(x0:Int),(x1:Int),(x2:Int),(x3:Int)],())).val=some (cp pY ([(y0:Int),(y1:Int)],0,()))/\run l [x3,x2,x1,x0] (fun _=>0)=some ([y1,y0],nr))
 (x0 x1 x2 x3 x4 x5:Nat)(h0:x0<cN)(h1:x1<cN)(h2:x2<cN)(h3:x3<cN)(h4:x4<cN)(h5:x5<cN)(ba:Int):(t9 (g1 g) true cl 4 2 (op,(x0:Int),(x1:Int),(x2:Int),(x3:Int),(x4:Int),(x5:Int),ba,())).val=some (cp Ew (true,())):=by
 rw[afY,hi.e,hi.k,hi.m,vH]
 show Vr (g1 g) cl o ba _ _ _ _ _ _=_
 unfold Vr
 rw[hs,cond_false,qN (W1 _)]
 unfold Vp
 rw[hs,cond_false,qN (W2 _ _)]
 unfold Vo
 rw[hs,cond_false,qN (W3 _ _ _)]
 obtain⟨y0,y1,nr,d,r⟩:=D x0 x1 x2 x3 h0 h1 h2 h3
 unfold Vn
 rw[hs,cond_false]
 refine Ah d rfl ?_ (Ag g (xs:=[x0,x1,x2,x3]) (ys:=[y0,y1]) (by decide:4<=6) (by decide:2<=2) (fun v hv=>?_) Q.n Q.len Q.ok r Q.S ba _ (by kernel_rfl) _ _ _ (by kernel_rfl) (by kernel_rfl) (by kernel_rfl) _ _ (by kernel_rfl) (by kernel_rfl))
 ·rw[(yN d).2];rfl
 ·simp only[List.mem_cons,List.not_mem_nil,or_false]at hv
  rcases hv with rfl|rfl|rfl|rfl
  ·exact h0
  ·exact h1
  ·exact h2
  ·exact h3
theorem VE(g:Cg)(cl:Cl){op o:Int}(hi:Is op o)(hs:BQ o=false){l:List Sc}{N:Nat}(Q:Sq o l N)
 (W1: ∀ a:Int,(t38 cl (o,0,0,0,0,[],[a],())).val=xH)
 (D: ∀ x0 x1:Nat,x0<cN->x1<cN-> ∃ (y0 y1:Nat) (nr:Nat->Nat),(t38 cl (o,0,0,0,0,[],[(x0:Int),(x1:Int)],())).val=some (cp pY ([(y0:Int),(y1:Int)],0,()))/\run l [x1,x0] (fun _=>0)=some ([y1,y0],nr))
 (x0 x1 x2 x3 x4 x5:Nat)(h0:x0<cN)(h1:x1<cN)(h2:x2<cN)(h3:x3<cN)(h4:x4<cN)(h5:x5<cN)(ba:Int):(t9 (g1 g) true cl 2 2 (op,(x0:Int),(x1:Int),(x2:Int),(x3:Int),(x4:Int),(x5:Int),ba,())).val=some (cp Ew (true,())):=by
 rw[afV,hi.e,hi.k,hi.m,vH]
 show Vh (g1 g) cl o ba _ _ _ _ _ _=_
 unfold Vh
 rw[hs,cond_false,qN (W1 _)]
 obtain⟨y0,y1,nr,d,r⟩:=D x0 x1 h0 h1
 unfold Vg
 rw[hs,cond_false]
 refine Ah d rfl ?_ (Ag g (xs:=[x0,x1]) (ys:=[y0,y1]) (by decide:2<=6) (by decide:2<=2) (fun v hv=>?_) Q.n Q.len Q.ok r Q.S ba _ (by kernel_rfl) _ _ _ (by kernel_rfl) (by kernel_rfl) (by kernel_rfl) _ _ (by kernel_rfl) (by kernel_rfl))
 ·rw[(yN d).2];rfl
 ·simp only[List.mem_cons,List.not_mem_nil,or_false]at hv
  rcases hv with rfl|rfl
  ·exact h0
  ·exact h1
theorem VF(g:Cg)(cl:Cl){op o:Int}(hi:Is op o)(hs:BQ o=false){l:List Sc}{N:Nat}(Q:Sq o l N)
 (W1: ∀ a:Int,(t38 cl (o,0,0,0,0,[],[a],())).val=xH)
 (D: ∀ x0 x1:Nat,x0<cN->x1<cN-> ∃ (y0:Nat) (nr:Nat->Nat),(t38 cl (o,0,0,0,0,[],[(x0:Int),(x1:Int)],())).val=some (cp pY ([(y0:Int)],0,()))/\run l [x1,x0] (fun _=>0)=some ([y0],nr))
 (x0 x1 x2 x3 x4 x5:Nat)(h0:x0<cN)(h1:x1<cN)(h2:x2<cN)(h3:x3<cN)(h4:x4<cN)(h5:x5<cN)(ba:Int):(t9 (g1 g) true cl 2 1 (op,(x0:Int),(x1:Int),(x2:Int),(x3:Int),(x4:Int),(x5:Int),ba,())).val=some (cp Ew (true,())):=by
 rw[afW,hi.e,hi.k,hi.m,vH]
 show Vj (g1 g) cl o ba _ _ _ _ _ _=_
 unfold Vj
 rw[hs,cond_false,qN (W1 _)]
 obtain⟨y0,nr,d,r⟩:=D x0 x1 h0 h1
 unfold Vi
 rw[hs,cond_false]
 refine Ah d rfl ?_ (Ag g (xs:=[x0,x1]) (ys:=[y0]) (by decide:2<=6) (by decide:1<=2) (fun v hv=>?_) Q.n Q.len Q.ok r Q.S ba _ (by kernel_rfl) _ _ _ (by kernel_rfl) (by kernel_rfl) (by kernel_rfl) _ _ (by kernel_rfl) (by kernel_rfl))
 ·rw[(yN d).2];rfl
 ·simp only[List.mem_cons,List.not_mem_nil,or_false]at hv
  rcases hv with rfl|rfl
  ·exact h0
  ·exact h1
theorem af0(g:Cg)(cl:Cl){op o:Int}(hi:Is op o)(hs:BQ o=true){l:List Sc}{N:Nat}(Q:Sq o l N)
 (W1: ∀ a:Int,(t38 cl (o,0,0,0,0,[],[a],())).val=xH)
 (W2: ∀ a b:Int,(t38 cl (o,0,0,0,0,[],[a,b],())).val=xH)
 (D: ∀ x0 x1 x2:Nat,x0<cN->x1<cN->x2<4294967296-> ∃ (y0 y1:Nat) (nr:Nat->Nat),(t38 cl (o,0,0,0,0,[],[(x0:Int),(x1:Int),(x2:Int)],())).val=some (cp pY ([(y0:Int),(y1:Int)],0,()))/\run l [x2,x1,x0] (fun _=>0)=some ([y1,y0],nr))
 (x0 x1 x2 x3 x4 x5:Nat)(h0:x0<cN)(h1:x1<cN)(h2:x2<cN)(h3:x3<cN)(h4:x4<cN)(h5:x5<cN)(ba:Int):(t9 (g1 g) true cl 3 2 (op,(x0:Int),(x1:Int),(x2:Int),(x3:Int),(x4:Int),(x5:Int),ba,())).val=some (cp Ew (true,())):=by
 rw[afX,hi.e,hi.k,hi.m,vH]
 show Vm (g1 g) cl o ba _ _ _ _ _ _=_
 unfold Vm
 rw[hs,cond_true,qN (W1 _)]
 unfold Vl
 rw[hs,cond_true,qN (W2 _ _)]
 obtain⟨y0,y1,nr,d,r⟩:=D x0 x1 (x2 % 4294967296) h0 h1 (Nat.mod_lt _ (by decide))
 unfold Vk
 rw[hs,cond_true,Oa x2 h2]
 refine Ah d rfl ?_ (Ag g (xs:=[x0,x1,(x2 % 4294967296)]) (ys:=[y0,y1]) (by decide:3<=6) (by decide:2<=2) (fun v hv=>?_) Q.n Q.len Q.ok r Q.S ba _ (by kernel_rfl) _ _ _ (by kernel_rfl) (by kernel_rfl) (by kernel_rfl) _ _ (by kernel_rfl) (by kernel_rfl))
 ·rw[(yN d).2];rfl
 ·simp only[List.mem_cons,List.not_mem_nil,or_false]at hv
  rcases hv with rfl|rfl|rfl
  ·exact h0
  ·exact h1
  ·exact Nat.lt_trans (Nat.mod_lt _ (by decide)) (by decide)
theorem af1(g:Cg)(cl:Cl){op o:Int}(hi:Is op o)(hs:BQ o=false){l:List Sc}{N:Nat}(Q:Sq o l N)
 (W1: ∀ a:Int,(t38 cl (o,0,0,0,0,[],[a],())).val=xH)
 (W2: ∀ a b:Int,(t38 cl (o,0,0,0,0,[],[a,b],())).val=xH)
 (W3: ∀ a b c:Int,(t38 cl (o,0,0,0,0,[],[a,b,c],())).val=xH)
 (W4: ∀ a b c d:Int,(t38 cl (o,0,0,0,0,[],[a,b,c,d],())).val=xH)
 (W5: ∀ a b c d e:Int,(t38 cl (o,0,0,0,0,[],[a,b,c,d,e],())).val=xH)
 (D: ∀ x0 x1 x2 x3 x4 x5:Nat,x0<cN->x1<cN->x2<cN->x3<cN->x4<cN->x5<cN-> ∃ (y0 y1:Nat) (nr:Nat->Nat),(t38 cl (o,0,0,0,0,[],[(x0:Int),(x1:Int),(x2:Int),(x3:Int),(x4:Int),(x5:Int)],())).val=some (cp pY ([(y0:Int),(y1:Int)],0,()))/\run l [x5,x4,x3,x2,x1,x0] (fun _=>0)=some ([y1,y0],nr))
 (x0 x1 x2 x3 x4 x5:Nat)(h0:x0<cN)(h1:x1<cN)(h2:x2<cN)(h3:x3<cN)(h4:x4<cN)(h5:x5<cN)(ba:Int):(t9 (g1 g) true cl 6 2 (op,(x0:Int),(x1:Int),(x2:Int),(x3:Int),(x4:Int),(x5:Int),ba,())).val=some (cp Ew (true,())):=by
 rw[afZ,hi.e,hi.k,hi.m,vH]
 show Vz (g1 g) cl o ba _ _ _ _ _ _=_
 unfold Vz
 rw[hs,cond_false,qN (W1 _)]
 unfold Vx
 rw[hs,cond_false,qN (W2 _ _)]
 unfold Vw
 rw[hs,cond_false,qN (W3 _ _ _)]
 unfold Vv
 rw[hs,cond_false,qN (W4 _ _ _ _)]
 unfold Vu
 rw[hs,cond_false,qN (W5 _ _ _ _ _)]
 obtain⟨y0,y1,nr,d,r⟩:=D x0 x1 x2 x3 x4 x5 h0 h1 h2 h3 h4 h5
 unfold Vt
 rw[hs,cond_false]
 refine Ah d rfl ?_ (Ag g (xs:=[x0,x1,x2,x3,x4,x5]) (ys:=[y0,y1]) (by decide:6<=6) (by decide:2<=2) (fun v hv=>?_) Q.n Q.len Q.ok r Q.S ba _ (by kernel_rfl) _ _ _ (by kernel_rfl) (by kernel_rfl) (by kernel_rfl) _ _ (by kernel_rfl) (by kernel_rfl))
 ·rw[(yN d).2];rfl
 ·simp only[List.mem_cons,List.not_mem_nil,or_false]at hv
  rcases hv with rfl|rfl|rfl|rfl|rfl|rfl
  ·exact h0
  ·exact h1
  ·exact h2
  ·exact h3
  ·exact h4
  ·exact h5
end Go.Proofs.Vq

noncomputable section
namespace Go.Proofs.Vq
open Go.Ab Go.Ab.Lf Go.Proofs.Sw
set_option maxRecDepth 1000000
theorem Ob{y:Vy}{a b:Int}(h0:qI (vO y) 0 8=a)(h1:qI (vO y) 8 8=b){z:cf (tV [i64])}(hz:z=cV [i64] (vO y) (0,())):Km (vO (PX z))=some (cp pY ([a,b],0,())):=by
 subst hz
 show some (cp pY ([qI (vO y) 0 8,qI (vO y) 8 8],0,()))=_
 rw[h0,h1]
section
variable {op:Int}{w p n:Nat}(W:Wn w p n)
include W
theorem aly{k:Nat}(hk:Kq w k)(h:Oq [123,123] [123] op)(WJ:N3.contains op=true)(vi: ¬ op=64782)(hp:BO (op,())=true/\BP (op,())=((w:Int),(k:Int),()))(x0 x1 x2 x3:Nat)(h0:x0<cN)(h1:x1<cN)(h2:x2<cN)(h3:x3<cN):
 ∃ (y0 y1:Nat) (nr:Nat->Nat),(t38 ([123,123],[123],0,false) (op,0,0,0,0,[],[(x0:Int),(x1:Int),(x2:Int),(x3:Int)],())).val=some (cp pY ([(y0:Int),(y1:Int)],0,()))/\run (oQ w k).1 [x3,x2,x1,x0] (fun _=>0)=some ([y1,y0],nr):=by
 obtain⟨q1,q2,q3⟩:=P4 W
 obtain⟨y,L,e,hb,hL⟩:=as3 hp q1 hk (uO (x:=x0) (y:=x1)) (uO (x:=x2) (y:=x3))
 obtain⟨m1,m2⟩:=nm (k:=DM (op,cV (tV []) (vO (cV [] (nL (x0:Int) (x1:Int)) ())) (cV [] (vO (cV [] (nL (x2:Int) (x3:Int)) ())) ()))) (m:=Ad (op,cV (tV []) (vO (cV [] (nL (x0:Int) (x1:Int)) ())) (cV [] (vO (cV [] (nL (x2:Int) (x3:Int)) ())) ()))) (ca _) (ca _) e
 have m1:DM (op,cV (tV []) (nL (x0:Int) (x1:Int)) (cV [] (nL (x2:Int) (x3:Int)) ()))=true:=m1
 have m2:Ad (op,cV (tV []) (nL (x0:Int) (x1:Int)) (cV [] (nL (x2:Int) (x3:Int)) ()))=cV [i64] (vO y) (0,()):=m2
 obtain⟨e1,e2⟩:=HD W hb hL
 have key: ∀ a b:Nat,pk w n (fun i=>if k=21 then p' w x0 x1 i*p' w x2 x3 i % 2 ^ w else sy (w - 1) k (p' w x0 x1 i) (p' w x2 x3 i))=a->pk w n (fun i=>if k=21 then p' w x0 x1 (n+i)*p' w x2 x3 (n+i) % 2 ^ w else sy (w - 1) k (p' w x0 x1 (n+i)) (p' w x2 x3 (n+i)))=b->(t38 ([123,123],[123],0,false) (op,0,0,0,0,[],[(x0:Int),(x1:Int),(x2:Int),(x3:Int)],())).val=some (cp pY ([(a:Int),(b:Int)],0,())):=by
  intro a b ha xL
  rw[b1,nE h]
  show(bif decide (op=64782)then none else cA (N3.contains op) (cA (DM (op,cV (tV []) (nL (x0:Int) (x1:Int)) (cV [] (nL (x2:Int) (x3:Int)) ()))) (cA (decide (Hv (Ad (op,cV (tV []) (nL (x0:Int) (x1:Int)) (cV [] (nL (x2:Int) (x3:Int)) ())))=0)) (Km (vO (PX (Ad (op,cV (tV []) (nL (x0:Int) (x1:Int)) (cV [] (nL (x2:Int) (x3:Int)) ())))))))))=_
  rw[df vi,WJ,m1,Ob (e1.trans (congrArg Nat.cast ha)) (e2.trans (congrArg Nat.cast xL)) m2,m2,dt (show Hv (cV [i64] (vO y) (0,()))=0 from rfl)]
  rfl
 by_cases h21:k=21
 ·subst h21
  obtain⟨nr,r⟩:=alj W h0 h1 h2 h3
  exact⟨_,_,nr,key _ _ (cB fun i hi=>by rw[if_pos rfl,ua W hi,ua W hi]) (cB fun i hi=>by rw[if_pos rfl,ub W,ub W]),r⟩
 ·have alz:14<=k/\k<100:=by rcases hk with rfl|rfl|⟨rfl|rfl|rfl|rfl|rfl,_⟩|⟨rfl,_⟩|⟨rfl|rfl|rfl|rfl,_⟩<;>decide
  obtain⟨nr,r⟩:=afS W h0 h1 h2 h3 alz.1 alz.2 h21
  exact⟨_,_,nr,key _ _ (cB fun i hi=>by rw[if_neg h21,ua W hi,ua W hi,q3]) (cB fun i hi=>by rw[if_neg h21,ub W,ub W,q3]),r⟩
theorem alA{k:Nat}(hk:k<10)(h:Oq [123,123] [123] op)(WJ:N3.contains op=true)(vi: ¬ op=64782)(hp0:BO (op,())=true/\BP (op,())=(0,0,()))(hp:UK (op,())=true/\UL (op,())=((w:Int),(k:Int),()))(x0 x1 x2 x3:Nat)(h0:x0<cN)(h1:x1<cN)(h2:x2<cN)(h3:x3<cN):
 ∃ (y0 y1:Nat) (nr:Nat->Nat),(t38 ([123,123],[123],1,false) (op,0,0,0,0,[],[(x0:Int),(x1:Int),(x2:Int),(x3:Int)],())).val=some (cp pY ([(y0:Int),(y1:Int)],0,()))/\run (oQ w (100+k)).1 [x3,x2,x1,x0] (fun _=>0)=some ([y1,y0],nr):=by
 obtain⟨q1,q2,q3⟩:=P4 W
 obtain⟨y,L,e,hb,hL⟩:=as8 hp q1 hk (uO (x:=x0) (y:=x1)) (uO (x:=x2) (y:=x3))
 obtain⟨m1,m2⟩:=nm (k:=L3 (op,cV (tV []) (vO (cV [] (nL (x0:Int) (x1:Int)) ())) (cV [] (vO (cV [] (nL (x2:Int) (x3:Int)) ())) ()))) (m:=Er (op,cV (tV []) (vO (cV [] (nL (x0:Int) (x1:Int)) ())) (cV [] (vO (cV [] (nL (x2:Int) (x3:Int)) ())) ()))) (ca _) (ca _) e
 have m1:L3 (op,cV (tV []) (nL (x0:Int) (x1:Int)) (cV [] (nL (x2:Int) (x3:Int)) ()))=true:=m1
 have m2:Er (op,cV (tV []) (nL (x0:Int) (x1:Int)) (cV [] (nL (x2:Int) (x3:Int)) ()))=cV [i64] (vO y) (0,()):=m2
 have e0:=ab4 (cV [] (nL (x0:Int) (x1:Int)) ()) (cV [] (nL (x2:Int) (x3:Int)) ()) op _ hp0.2.symm _ rfl _ rfl
 rw[hp0.1]at e0
 have e0:(t157 (op,cV (tV []) (vO (cV [] (nL (x0:Int) (x1:Int)) ())) (cV [] (vO (cV [] (nL (x2:Int) (x3:Int)) ())) ()))).val=some (cp Ac (cV [i64] Af (1,()))):=e0
 obtain⟨n1,n2⟩:=nm (k:=DM (op,cV (tV []) (vO (cV [] (nL (x0:Int) (x1:Int)) ())) (cV [] (vO (cV [] (nL (x2:Int) (x3:Int)) ())) ()))) (m:=Ad (op,cV (tV []) (vO (cV [] (nL (x0:Int) (x1:Int)) ())) (cV [] (vO (cV [] (nL (x2:Int) (x3:Int)) ())) ()))) (ca _) (ca _) e0
 have n1:DM (op,cV (tV []) (nL (x0:Int) (x1:Int)) (cV [] (nL (x2:Int) (x3:Int)) ()))=true:=n1
 have n2:Ad (op,cV (tV []) (nL (x0:Int) (x1:Int)) (cV [] (nL (x2:Int) (x3:Int)) ()))=cV [i64] Af (1,()):=n2
 obtain⟨e1,e2⟩:=HD W hb hL
 obtain⟨nr,r⟩:=ali W h0 h1 h2 h3 hk
 refine⟨_,_,nr,?_,r⟩
 rw[b2,nE h]
 show(bif decide (op=64782)then none else cA (N3.contains op) (cA (DM (op,cV (tV []) (nL (x0:Int) (x1:Int)) (cV [] (nL (x2:Int) (x3:Int)) ()))) (cA (decide (Hv (Ad (op,cV (tV []) (nL (x0:Int) (x1:Int)) (cV [] (nL (x2:Int) (x3:Int)) ())))=1)) (cA (L3 (op,cV (tV []) (nL (x0:Int) (x1:Int)) (cV [] (nL (x2:Int) (x3:Int)) ()))) (cA (decide (Hv (Er (op,cV (tV []) (nL (x0:Int) (x1:Int)) (cV [] (nL (x2:Int) (x3:Int)) ())))=0)) (Km (vO (PX (Er (op,cV (tV []) (nL (x0:Int) (x1:Int)) (cV [] (nL (x2:Int) (x3:Int)) ())))))))))))=_
 rw[df vi,WJ,n1,n2,m1,Ob (e1.trans (congrArg Nat.cast (cB fun i hi=>by rw[ua W hi,ua W hi,q3]))) (e2.trans (congrArg Nat.cast (cB fun i hi=>by rw[ub W,ub W,q3]))) m2,m2,dt (show Hv (cV [i64] (vO y) (0,()))=0 from rfl),dt (show Hv (cV [i64] Af (1,()))=1 from rfl)]
 rfl
end
end Go.Proofs.Vq

noncomputable section
namespace Go.Proofs.Vq
open Go.Ab Go.Ab.Lf Go.Proofs.Sw
set_option maxRecDepth 1000000
theorem alB{q:Nat}(h:q<4294967296):shN (q:Int)=(q:Int):=by
 have hq:q<cN:=Nat.lt_trans h (by decide)
 show cb .u32 (qI (nL (rK (q:Int)) 0) 0 4)=_
 rw[Oa q hq,Nat.mod_eq_of_lt h]
 have hh:=Bq (uO (x:=q) (y:=0)) 0 4 (by decide) (by decide)
 have e:qI (nL (q:Int) 0) 0 4=((q:Nat):Int):=by
  refine(show qI (nL (q:Int) 0) 0 4=qI (vO (cV [] (nL (q:Int) ((0:Nat):Int)) ())) 0 4 from rfl).trans (hh.trans (congrArg Nat.cast ?_))
  have:=L5 4 q
  rw[show 2 ^ (8*4)=4294967296 from rfl,Nat.mod_eq_of_lt h]at this
  refine(cB fun m hm=>?_).trans this
  rw[Nat.zero_add];unfold uh;rw[if_pos (by omega)]
 rw[e,DH,Nat.mod_eq_of_lt h]
section
variable {op:Int}{w p n:Nat}(W:Wn w p n)
include W
theorem atn{k:Nat}(hk:k=0∨k=1∨(k=2/\w=8))(h:Oq [123] [123] op)(WJ:N3.contains op=true)(vi: ¬ op=64782)(hp:BO (op,())=true/\BP (op,())=((w:Int),(k:Int),()))(x0 x1:Nat)(h0:x0<cN)(h1:x1<cN):
 ∃ (y0 y1:Nat) (nr:Nat->Nat),(t38 ([123],[123],0,false) (op,0,0,0,0,[],[(x0:Int),(x1:Int)],())).val=some (cp pY ([(y0:Int),(y1:Int)],0,()))/\run (oQ w k).1 [x1,x0] (fun _=>0)=some ([y1,y0],nr):=by
 obtain⟨q1,q2,q3⟩:=P4 W
 obtain⟨y,L,e,hb,hL⟩:=as7 hp q1 hk (uO (x:=x0) (y:=x1))
 obtain⟨m1,m2⟩:=nm (k:=L2 (op,cV [] (vO (cV [] (nL (x0:Int) (x1:Int)) ())) ())) (m:=Ep (op,cV [] (vO (cV [] (nL (x0:Int) (x1:Int)) ())) ())) (ca _) (ca _) e
 have m1:L2 (op,cV [] (nL (x0:Int) (x1:Int)) ())=true:=m1
 have m2:Ep (op,cV [] (nL (x0:Int) (x1:Int)) ())=cV [i64] (vO y) (0,()):=m2
 obtain⟨e1,e2⟩:=HD W hb hL
 obtain⟨nr,r⟩:=alk W h0 h1 hk
 refine⟨_,_,nr,?_,r⟩
 rw[b3 _ _ _ 0 0,nE h]
 show(bif decide (op=64782)then none else cA (N3.contains op) (cA (L2 (op,cV [] (nL (x0:Int) (x1:Int)) ())) (cA (decide (Hv (Ep (op,cV [] (nL (x0:Int) (x1:Int)) ()))=0)) (Km (vO (PX (Ep (op,cV [] (nL (x0:Int) (x1:Int)) ()))))))))=_
 rw[df vi,WJ,m1,Ob (e1.trans (congrArg Nat.cast (cB fun i hi=>by rw[ua W hi,q3]))) (e2.trans (congrArg Nat.cast (cB fun i hi=>by rw[ub W,q3]))) m2,m2,dt (show Hv (cV [i64] (vO y) (0,()))=0 from rfl)]
 rfl
theorem ato{k:Nat}(hk:k=11∨k=12∨k=13)(h:Oq [123,127] [123] op)(WJ:N3.contains op=true)(vi: ¬ op=64782)(hp:BO (op,())=true/\BP (op,())=((w:Int),(k:Int),()))(x0 x1 x2:Nat)(h0:x0<cN)(h1:x1<cN)(h2:x2<4294967296):
 ∃ (y0 y1:Nat) (nr:Nat->Nat),(t38 ([123,127],[123],0,false) (op,0,0,0,0,[],[(x0:Int),(x1:Int),(x2:Int)],())).val=some (cp pY ([(y0:Int),(y1:Int)],0,()))/\run (oQ w k).1 [x2,x1,x0] (fun _=>0)=some ([y1,y0],nr):=by
 obtain⟨q1,q2,q3⟩:=P4 W
 obtain⟨y,L,e,hb,hL⟩:=as6 (q:=x2) hp q1 hk (uO (x:=x0) (y:=x1))
 obtain⟨m1,m2⟩:=nm (k:=L1 (op,cV [u32] (vO (cV [] (nL (x0:Int) (x1:Int)) ())) ((x2:Int),()))) (m:=Eo (op,cV [u32] (vO (cV [] (nL (x0:Int) (x1:Int)) ())) ((x2:Int),()))) (ca _) (ca _) e
 have m1:L1 (op,cV [u32] (nL (x0:Int) (x1:Int)) ((x2:Int),()))=true:=m1
 have m2:Eo (op,cV [u32] (nL (x0:Int) (x1:Int)) ((x2:Int),()))=cV [i64] (vO y) (0,()):=m2
 obtain⟨e1,e2⟩:=HD W hb hL
 obtain⟨nr,r⟩:=ati W h0 h1 hk x2
 rw[Nat.mod_eq_of_lt h2]at r
 refine⟨_,_,nr,?_,r⟩
 have hs:=alB h2
 rw[b4 _ _ _ _ 0,nE h]
 show(bif decide (op=64782)then none else cA (N3.contains op) (cA (decide (op=op)) (cA (rG (nL (x0:Int) (x1:Int))) (cA (L1 (op,cV [u32] (nL (x0:Int) (x1:Int)) (shN (x2:Int),()))) (cA (decide (Hv (Eo (op,cV [u32] (nL (x0:Int) (x1:Int)) (shN (x2:Int),())))=0)) (Km (vO (PX (Eo (op,cV [u32] (nL (x0:Int) (x1:Int)) (shN (x2:Int),())))))))))))=_
 rw[hs,df vi,WJ,dt rfl,qJ,m1,Ob (e1.trans (congrArg Nat.cast (cB fun i hi=>by rw[ua W hi,q3]))) (e2.trans (congrArg Nat.cast (cB fun i hi=>by rw[ub W,q3]))) m2,m2,dt (show Hv (cV [i64] (vO y) (0,()))=0 from rfl)]
 rfl
omit W in
theorem J8(g:Nat->Bool): ∀ N,nU g N=true↔ ∀ j,j<N->g j=true
 |0=>⟨fun _ j h=>absurd h (Nat.not_lt_zero j),fun _=>rfl⟩
 |N+1=>by
  show(nU g N&&g N)=true↔_
  rw[Bool.and_eq_true,J8 g N]
  constructor
  ·rintro⟨a,b⟩ j hj
   rcases Nat.lt_succ_iff_lt_or_eq.1 hj with h|rfl
   ·exact a j h
   ·exact b
  ·exact fun h=>⟨fun j hj=>h j (by omega),h N (Nat.lt_succ_self N)⟩
theorem af2{m:Nat}(hm:m=3∨m=4)(ho:op=opT w m)(h:Oq [123] [127] op)(x0 x1:Nat)(h0:x0<cN)(h1:x1<cN):
 ∃ (y0:Nat) (nr:Nat->Nat),(t38 ([123],[127],0,false) (op,0,0,0,0,[],[(x0:Int),(x1:Int)],())).val=some (cp pY ([(y0:Int)],0,()))/\run (oQ w (297+m)).1 [x1,x0] (fun _=>0)=some ([y0],nr):=by
 obtain⟨q1,q2,q3⟩:=P4 W
 have e:=as9 q1 hm (uO (x:=x0) (y:=x1))
 rw[<-ho]at e
 generalize hv:(if m=3 then JG (nU (fun j=> !decide (p' w x0 x1 j=0)) (128 / w))else pk 1 (128 / w) (fun j=>if 2 ^ (w - 1)<=p' w x0 x1 j then 1 else 0))=v at e
 obtain⟨m1,m2⟩:=nm (k:=Es (op,cV [] (vO (cV [] (nL (x0:Int) (x1:Int)) ())) ())) (m:=Ae (op,cV [] (vO (cV [] (nL (x0:Int) (x1:Int)) ())) ())) (ca _) (ca _) e
 have m1:Es (op,cV [] (nL (x0:Int) (x1:Int)) ())=true:=m1
 have m2:Ae (op,cV [] (nL (x0:Int) (x1:Int)) ())=((v:Int),0,()):=m2
 have hn:n<=8:=by rcases W.c with h|h|h|h<;>omega
 have run':v<cN/\ ∃ nr,run (oQ w (297+m)).1 [x1,x0] (fun _=>0)=some ([v],nr):=by
  rcases hm with rfl|rfl
  ·obtain⟨nr,c,r,hc⟩:=alv W h0 h1
   rw[if_pos rfl]at hv
   have e1:nU (fun j=> !decide (p' w x0 x1 j=0)) (128 / w)=c:=by
    have key:nU (fun j=> !decide (p' w x0 x1 j=0)) (128 / w)=true↔c=true:=by
     rw[J8,hc,q2]
     simp only[Bool.not_eq_true',decide_eq_false_iff_not]
     constructor
     ·intro h i hi
      have a:=h i (by omega)
      have b:=h (n+i) (by omega)
      rw[ua W hi]at a
      rw[ub W]at b
      exact⟨a,b⟩
     ·intro h j hj
      by_cases hjn:j<n
      ·rw[ua W hjn];exact(h j hjn).1
      ·obtain⟨i,rfl⟩: ∃ i,j=n+i:=⟨j - n,by omega⟩
       rw[ub W];exact(h i (by omega)).2
    cases c with
    |true=>exact key.2 rfl
    |false=>exact Bool.eq_false_iff.2 fun h=>absurd (key.1 h) (by decide)
   rw[e1]at hv
   subst hv
   exact⟨by cases c<;>decide,nr,r⟩
  ·obtain⟨nr,r⟩:=alw W h0 h1
   rw[if_neg (by decide)]at hv
   have e1:v=pk 1 (n+n) (fun i=>if i<n then ln w x0 i / 2 ^ p else ln w x1 (i - n) / 2 ^ p):=by
    rw[<-hv,q2,q3]
    refine cB fun j hj=>?_
    have one: ∀ x,x<2 ^ w->(if 2 ^ p<=x then 1 else 0)=x / 2 ^ p:=by
     intro x hx
     have hp:=Nat.two_pow_pos p
     rw[W.w1,Nat.pow_succ]at hx
     by_cases c:2 ^ p<=x
     ·rw[if_pos c]
      have a:=(Nat.le_div_iff_mul_le hp).2 (show 1*2 ^ p<=x by omega)
      have b:=(Nat.div_lt_iff_lt_mul hp).2 (show x<2*2 ^ p by omega)
      omega
     ·rw[if_neg c,Nat.div_eq_of_lt (by omega)]
    by_cases hjn:j<n
    ·rw[if_pos hjn,ua W hjn];exact one _ (wX _ _)
    ·obtain⟨i,rfl⟩: ∃ i,j=n+i:=⟨j - n,by omega⟩
     rw[if_neg hjn,ub W,Nat.add_sub_cancel_left];exact one _ (wX _ _)
   have o5:v<cN:=by
    rw[<-hv]
    refine Nat.lt_of_lt_of_le (U3 _ (fun j=>by show(if _ then 1 else 0:Nat)<2;split<;>decide) _) ?_
    rw[q2]
    exact Nat.le_trans (Nat.pow_le_pow_right (by decide) (by omega:n+n<=64)) (Nat.le_refl _)
   rw[<-e1]at r
   exact⟨o5,nr,r⟩
 obtain⟨o5,nr,r⟩:=run'
 refine⟨v,nr,?_,r⟩
 rw[b5 _ _ _ 0 0,nE h]
 show cA (Es (op,cV [] (nL (x0:Int) (x1:Int)) ())) (cA (decide ((Ae (op,cV [] (nL (x0:Int) (x1:Int)) ())).2.1=0)) (some (cp pY ([cb .u64 (Ae (op,cV [] (nL (x0:Int) (x1:Int)) ())).1],0,()))))=_
 rw[m1,m2]
 show cA true (cA (decide ((0:Int)=0)) (some (cp pY ([cb .u64 (v:Int)],0,()))))=_
 rw[dt rfl,show cb .u64 (v:Int)=(v:Int)from wrap_u64 (Int.natCast_nonneg _) (Int.ofNat_lt.2 o5)]
 rfl
omit W in
theorem alC(h:Oq [123] [127] 64851)(x0 x1:Nat)(h0:x0<cN)(h1:x1<cN):
 ∃ (y0:Nat) (nr:Nat->Nat),(t38 ([123],[127],0,false) (64851,0,0,0,0,[],[(x0:Int),(x1:Int)],())).val=some (cp pY ([(y0:Int)],0,()))/\run (oQ 64 206).1 [x1,x0] (fun _=>0)=some ([y0],nr):=by
 have e:=akI (uO (x:=x0) (y:=x1)) h0 h1
 obtain⟨nr,r⟩:=alq (al:=x0) (ah:=x1)
 generalize hv:(if x0=0/\x1=0 then 0 else 1)=v at e r
 obtain⟨m1,m2⟩:=nm (k:=Es (64851,cV [] (vO (cV [] (nL (x0:Int) (x1:Int)) ())) ())) (m:=Ae (64851,cV [] (vO (cV [] (nL (x0:Int) (x1:Int)) ())) ())) (ca _) (ca _) e
 have m1:Es (64851,cV [] (nL (x0:Int) (x1:Int)) ())=true:=m1
 have m2:Ae (64851,cV [] (nL (x0:Int) (x1:Int)) ())=((v:Int),0,()):=m2
 refine⟨v,nr,?_,r⟩
 rw[b5 _ _ _ 0 0,nE h]
 show cA (Es (64851,cV [] (nL (x0:Int) (x1:Int)) ())) (cA (decide ((Ae (64851,cV [] (nL (x0:Int) (x1:Int)) ())).2.1=0)) (some (cp pY ([cb .u64 (Ae (64851,cV [] (nL (x0:Int) (x1:Int)) ())).1],0,()))))=_
 rw[m1,m2]
 show cA true (cA (decide ((0:Int)=0)) (some (cp pY ([cb .u64 (v:Int)],0,()))))=_
 rw[dt rfl,show cb .u64 (v:Int)=(v:Int)from by rw[<-hv];split<;>rfl]
 rfl
end
end Go.Proofs.Vq

noncomputable section
namespace Go.Proofs.Vq
open Go.Ab Go.Ab.Lf Go.Proofs.Sw
set_option maxRecDepth 1000000
theorem VG{a b:Nat}(ha:a<256)(hb:b<256):np .u8 (a:Int) (b:Int)=((a &&& b:Nat):Int):=by
 show intOf (bif Nat.blt a 256&&Nat.blt b 256 then some (.int .u8 (.ofNat (Nat.land a b)))else _)=_
 rw[show(Nat.blt a 256)=true by simpa using ha,show(Nat.blt b 256)=true by simpa using hb];rfl
theorem acq{a b:Nat}(ha:a<256)(hb:b<256):C3 .u8 (a:Int) (b:Int)=((a ||| b:Nat):Int):=by
 show intOf (bif Nat.blt a 256&&Nat.blt b 256 then some (.int .u8 (.ofNat (Nat.lor a b)))else _)=_
 rw[show(Nat.blt a 256)=true by simpa using ha,show(Nat.blt b 256)=true by simpa using hb];rfl
theorem af3{a b:Nat}(ha:a<256)(hb:b<256):Eb .u8 (a:Int) (b:Int)=((a ^^^ b:Nat):Int):=by
 show intOf (bif Nat.blt a 256&&Nat.blt b 256 then some (.int .u8 (.ofNat (Nat.xor a b)))else _)=_
 rw[show(Nat.blt a 256)=true by simpa using ha,show(Nat.blt b 256)=true by simpa using hb];rfl
theorem aaD: ∀ x:Fin 256,O6 .u8 (x.1:Int)=((x.1 ^^^ 255:Nat):Int):=by decide+kernel
theorem af4{a:Nat}(ha:a<256):O6 .u8 (a:Int)=((a ^^^ 255:Nat):Int):=aaD ⟨a,ha⟩
theorem Oe{a b:Nat}(ha:a<256)(hb:b<256):xq .u8 (a:Int) (b:Int)=((a &&& (b ^^^ 255):Nat):Int):=by
 show IntKind.u8.wrap (((BitVec.ofInt 8 (a:Int) &&& ~~~ BitVec.ofInt 8 (b:Int)).toNat:Nat):Int)=_
 have e:(BitVec.ofInt 8 (a:Int) &&& ~~~ BitVec.ofInt 8 (b:Int)).toNat=a &&& (b ^^^ 255):=by
  rw[BitVec.toNat_and,BitVec.toNat_not,BitVec.ofInt_natCast,BitVec.ofInt_natCast,BitVec.toNat_ofNat,BitVec.toNat_ofNat,Nat.mod_eq_of_lt (show a<2 ^ 8 from ha),Nat.mod_eq_of_lt (show b<2 ^ 8 from hb)]
  congr 1
  exact(notM (k:=8) hb).symm
 rw[e]
 have hl:a &&& (b ^^^ 255)<256:=Nat.lt_of_le_of_lt Nat.and_le_left ha
 rw[<-rq]
 exact Int.emod_eq_of_lt (Int.natCast_nonneg _) (by omega)
theorem FQ{v:Nat->Int}{f:Nat->Nat}{a b:Nat}(hv: ∀ m,m<16->v m=(f m:Int))(hf: ∀ m,f m<256)(ha:pk 8 8 f=a)(hb:pk 8 8 (fun m=>f (8+m))=b):Km v=some (cp pY ([(a:Int),(b:Int)],0,())):=by
 have B:By (cV [] v ()) f:=⟨fun m hm=>by rw[JY _ hm];exact hv m hm,hf⟩
 have h0:=Bq B 0 8 (Nat.le_refl _) (by decide)
 have h8:=Bq B 8 8 (Nat.le_refl _) (by decide)
 have e0:qI v 0 8=((a:Nat):Int):=(show qI v 0 8=qI (vO (cV [] v ())) 0 8 from rfl).trans (h0.trans (congrArg Nat.cast ((cB fun m _=>by rw[Nat.zero_add]).trans ha)))
 have e8:qI v 8 8=((b:Nat):Int):=(show qI v 8 8=qI (vO (cV [] v ())) 8 8 from rfl).trans (h8.trans (congrArg Nat.cast hb))
 show some (cp pY ([qI v 0 8,qI v 8 8],0,()))=_
 rw[e0,e8]
theorem bV{x y m:Nat}(hm:m<16):nL (x:Int) (y:Int) m=((uh x y m:Nat):Int):=by
 rw[<-(uO (x:=x) (y:=y)).e m hm,JY _ hm]
theorem P5{x:Nat}(h:x<cN):pk 8 8 (ln 8 x)=x:=(FA 8 x h).symm
theorem BS{x y m:Nat}(h:m<8):uh x y m=ln 8 x m:=by unfold uh;rw[if_pos h]
theorem BU{x y m:Nat}:uh x y (8+m)=ln 8 y m:=by unfold uh;rw[if_neg (by omega),Nat.add_sub_cancel_left]
theorem xI{I O:List Int}{op:Int}(h:Oq I O op)(r:Option (List Pl)):preB I O op r=r:=by
 show cA (NZ (op,())) (cA (Qh I O op) (cA (NZ (op,())) (cA (Qh I O op) r)))=r
 rw[h.k,h.c];rfl
theorem l8(x i:Nat):ln 8 x i<2 ^ 8:=wX _ _
theorem m8:pk 8 8 (fun _=>255)=Up:=by decide
theorem acr: ∀ i,i<8->(fun _:Nat=>255) i<2 ^ 8:=fun _ _=>(by decide:255<2 ^ 8)
theorem alD(h:Oq [123] [123] 64845)(x0 x1:Nat)(h0:x0<cN)(h1:x1<cN):
 ∃ (y0 y1:Nat) (nr:Nat->Nat),(t38 ([123],[123],0,true) (64845,0,0,0,0,[],[(x0:Int),(x1:Int)],())).val=some (cp pY ([(y0:Int),(y1:Int)],0,()))/\run (oQ 64 200).1 [x1,x0] (fun _=>0)=some ([y1,y0],nr):=by
 obtain⟨nr,r⟩:=alm (al:=x0) (ah:=x1)
 refine⟨_,_,nr,?_,r⟩
 rw[bt0,xI h,qJ]
 have X: ∀ x:Nat,x<cN->pk 8 8 (fun m=>ln 8 x m ^^^ 255)=x ^^^ Up:=fun x hx=>by
  have:=A1 (w:=8) (by decide) (n:=8) (f:=ln 8 x) (g:=fun _=>255) (fun i _=>l8 x i) acr
  rw[P5 hx,m8]at this;exact this.symm
 exact FQ (f:=fun m=>uh x0 x1 m ^^^ 255) (fun m hm=>by show O6 .u8 (nL (x0:Int) (x1:Int) m)=_;rw[bV hm,af4 (oF _ _ _)]) (fun m=>Nat.xor_lt_two_pow (n:=8) (oF _ _ _) (by decide))
  ((cB fun m hm=>by rw[BS hm]).trans (X x0 h0)) ((cB fun m _=>by rw[BU]).trans (X x1 h1))
theorem alE(h:Oq [123,123] [123] 64846)(x0 x1 x2 x3:Nat)(h0:x0<cN)(h1:x1<cN)(h2:x2<cN)(h3:x3<cN):
 ∃ (y0 y1:Nat) (nr:Nat->Nat),(t38 ([123,123],[123],0,true) (64846,0,0,0,0,[],[(x0:Int),(x1:Int),(x2:Int),(x3:Int)],())).val=some (cp pY ([(y0:Int),(y1:Int)],0,()))/\run (oQ 64 201).1 [x3,x2,x1,x0] (fun _=>0)=some ([y1,y0],nr):=by
 obtain⟨nr,r⟩:=aln (al:=x0) (ah:=x1) (bl:=x2) (bh:=x3)
 refine⟨_,_,nr,?_,r⟩
 rw[bt1,xI h,qJ]
 have X: ∀ x y:Nat,x<cN->y<cN->pk 8 8 (fun m=>ln 8 x m &&& ln 8 y m)=x &&& y:=fun x y hx hy=>by
  have:=DE (w:=8) (by decide) (n:=8) (f:=ln 8 x) (g:=ln 8 y) (fun i _=>l8 x i) (fun i _=>l8 y i)
  rw[P5 hx,P5 hy]at this;exact this.symm
 exact FQ (f:=fun m=>uh x0 x1 m &&& uh x2 x3 m) (fun m hm=>by show np .u8 (nL (x0:Int) (x1:Int) m) (nL (x2:Int) (x3:Int) m)=_;rw[bV hm,bV hm,VG (oF _ _ _) (oF _ _ _)]) (fun m=>Nat.lt_of_le_of_lt Nat.and_le_left (oF _ _ _))
  ((cB fun m hm=>by rw[BS hm,BS hm]).trans (X x0 x2 h0 h2)) ((cB fun m _=>by rw[BU,BU]).trans (X x1 x3 h1 h3))
theorem af5(h:Oq [123,123] [123] 64847)(x0 x1 x2 x3:Nat)(h0:x0<cN)(h1:x1<cN)(h2:x2<cN)(h3:x3<cN):
 ∃ (y0 y1:Nat) (nr:Nat->Nat),(t38 ([123,123],[123],0,true) (64847,0,0,0,0,[],[(x0:Int),(x1:Int),(x2:Int),(x3:Int)],())).val=some (cp pY ([(y0:Int),(y1:Int)],0,()))/\run (oQ 64 202).1 [x3,x2,x1,x0] (fun _=>0)=some ([y1,y0],nr):=by
 obtain⟨nr,r⟩:=afT (al:=x0) (ah:=x1) (bl:=x2) (bh:=x3)
 refine⟨_,_,nr,?_,r⟩
 rw[bt2,xI h,qJ]
 have X: ∀ x y:Nat,x<cN->y<cN->pk 8 8 (fun m=>ln 8 x m &&& (ln 8 y m ^^^ 255))=x &&& (y ^^^ Up):=fun x y hx hy=>by
  have e:=A1 (w:=8) (by decide) (n:=8) (f:=ln 8 y) (g:=fun _=>255) (fun i _=>l8 y i) acr
  rw[P5 hy,m8]at e
  have:=DE (w:=8) (by decide) (n:=8) (f:=ln 8 x) (g:=fun m=>ln 8 y m ^^^ 255) (fun i _=>l8 x i) (fun i _=>Nat.xor_lt_two_pow (l8 y i) (by decide))
  rw[P5 hx,<-e]at this;exact this.symm
 exact FQ (f:=fun m=>uh x0 x1 m &&& (uh x2 x3 m ^^^ 255)) (fun m hm=>by show xq .u8 (nL (x0:Int) (x1:Int) m) (nL (x2:Int) (x3:Int) m)=_;rw[bV hm,bV hm,Oe (oF _ _ _) (oF _ _ _)]) (fun m=>Nat.lt_of_le_of_lt Nat.and_le_left (oF _ _ _))
  ((cB fun m hm=>by rw[BS hm,BS hm]).trans (X x0 x2 h0 h2)) ((cB fun m _=>by rw[BU,BU]).trans (X x1 x3 h1 h3))
theorem atp(h:Oq [123,123] [123] 64848)(x0 x1 x2 x3:Nat)(h0:x0<cN)(h1:x1<cN)(h2:x2<cN)(h3:x3<cN):
 ∃ (y0 y1:Nat) (nr:Nat->Nat),(t38 ([123,123],[123],0,true) (64848,0,0,0,0,[],[(x0:Int),(x1:Int),(x2:Int),(x3:Int)],())).val=some (cp pY ([(y0:Int),(y1:Int)],0,()))/\run (oQ 64 203).1 [x3,x2,x1,x0] (fun _=>0)=some ([y1,y0],nr):=by
 obtain⟨nr,r⟩:=atj (al:=x0) (ah:=x1) (bl:=x2) (bh:=x3)
 refine⟨_,_,nr,?_,r⟩
 rw[bt3,xI h,qJ]
 have X: ∀ x y:Nat,x<cN->y<cN->pk 8 8 (fun m=>ln 8 x m ||| ln 8 y m)=x ||| y:=fun x y hx hy=>by
  have:=abT (w:=8) (by decide) (n:=8) (f:=ln 8 x) (g:=ln 8 y) (fun i _=>l8 x i) (fun i _=>l8 y i)
  rw[P5 hx,P5 hy]at this;exact this.symm
 exact FQ (f:=fun m=>uh x0 x1 m ||| uh x2 x3 m) (fun m hm=>by show C3 .u8 (nL (x0:Int) (x1:Int) m) (nL (x2:Int) (x3:Int) m)=_;rw[bV hm,bV hm,acq (oF _ _ _) (oF _ _ _)]) (fun m=>Nat.or_lt_two_pow (n:=8) (oF _ _ _) (oF _ _ _))
  ((cB fun m hm=>by rw[BS hm,BS hm]).trans (X x0 x2 h0 h2)) ((cB fun m _=>by rw[BU,BU]).trans (X x1 x3 h1 h3))
theorem alF(h:Oq [123,123] [123] 64849)(x0 x1 x2 x3:Nat)(h0:x0<cN)(h1:x1<cN)(h2:x2<cN)(h3:x3<cN):
 ∃ (y0 y1:Nat) (nr:Nat->Nat),(t38 ([123,123],[123],0,true) (64849,0,0,0,0,[],[(x0:Int),(x1:Int),(x2:Int),(x3:Int)],())).val=some (cp pY ([(y0:Int),(y1:Int)],0,()))/\run (oQ 64 204).1 [x3,x2,x1,x0] (fun _=>0)=some ([y1,y0],nr):=by
 obtain⟨nr,r⟩:=alo (al:=x0) (ah:=x1) (bl:=x2) (bh:=x3)
 refine⟨_,_,nr,?_,r⟩
 rw[bt4,xI h,qJ]
 have X: ∀ x y:Nat,x<cN->y<cN->pk 8 8 (fun m=>ln 8 x m ^^^ ln 8 y m)=x ^^^ y:=fun x y hx hy=>by
  have:=A1 (w:=8) (by decide) (n:=8) (f:=ln 8 x) (g:=ln 8 y) (fun i _=>l8 x i) (fun i _=>l8 y i)
  rw[P5 hx,P5 hy]at this;exact this.symm
 exact FQ (f:=fun m=>uh x0 x1 m ^^^ uh x2 x3 m) (fun m hm=>by show Eb .u8 (nL (x0:Int) (x1:Int) m) (nL (x2:Int) (x3:Int) m)=_;rw[bV hm,bV hm,af3 (oF _ _ _) (oF _ _ _)]) (fun m=>Nat.xor_lt_two_pow (n:=8) (oF _ _ _) (oF _ _ _))
  ((cB fun m hm=>by rw[BS hm,BS hm]).trans (X x0 x2 h0 h2)) ((cB fun m _=>by rw[BU,BU]).trans (X x1 x3 h1 h3))
theorem alG{a b c:Nat}(_ha:a<2 ^ 8)(hb:b<2 ^ 8)(_hc:c<2 ^ 8):(a &&& c) ||| (b &&& (c ^^^ 255))=b ^^^ ((a ^^^ b) &&& c):=by
 refine Nat.eq_of_testBit_eq fun j=>?_
 have atq:(255:Nat).testBit j=decide (j<8):=Nat.testBit_two_pow_sub_one 8 j
 have hbj: ¬ j<8->b.testBit j=false:=fun h=>Nat.testBit_lt_two_pow (Nat.lt_of_lt_of_le hb (Nat.pow_le_pow_right (by decide) (by omega)))
 simp only[Nat.testBit_or,Nat.testBit_and,Nat.testBit_xor,atq]
 by_cases h:j<8
 ·rw[decide_eq_true h]
  cases a.testBit j<;>cases b.testBit j<;>cases c.testBit j<;>rfl
 ·rw[decide_eq_false h,hbj h]
  cases a.testBit j<;>cases c.testBit j<;>rfl
theorem alH(h:Oq [123,123,123] [123] 64850)(x0 x1 x2 x3 x4 x5:Nat)(h0:x0<cN)(h1:x1<cN)(h2:x2<cN)(h3:x3<cN)(h4:x4<cN)(h5:x5<cN):
 ∃ (y0 y1:Nat) (nr:Nat->Nat),(t38 ([123,123,123],[123],0,true) (64850,0,0,0,0,[],[(x0:Int),(x1:Int),(x2:Int),(x3:Int),(x4:Int),(x5:Int)],())).val=some (cp pY ([(y0:Int),(y1:Int)],0,()))/\run (oQ 64 205).1 [x5,x4,x3,x2,x1,x0] (fun _=>0)=some ([y1,y0],nr):=by
 obtain⟨nr,r⟩:=alp (al:=x0) (ah:=x1) (bl:=x2) (bh:=x3) (cl:=x4) (ch:=x5)
 refine⟨_,_,nr,?_,r⟩
 rw[bt5,xI h,qJ]
 have X: ∀ x y z:Nat,x<cN->y<cN->z<cN->pk 8 8 (fun m=>(ln 8 x m &&& ln 8 z m) ||| (ln 8 y m &&& (ln 8 z m ^^^ 255)))=y ^^^ ((x ^^^ y) &&& z):=fun x y z hx hy hz=>by
  have e1:=A1 (w:=8) (by decide) (n:=8) (f:=ln 8 x) (g:=ln 8 y) (fun i _=>l8 x i) (fun i _=>l8 y i)
  have e2:=DE (w:=8) (by decide) (n:=8) (f:=fun m=>ln 8 x m ^^^ ln 8 y m) (g:=ln 8 z) (fun i _=>Nat.xor_lt_two_pow (l8 x i) (l8 y i)) (fun i _=>l8 z i)
  have e3:=A1 (w:=8) (by decide) (n:=8) (f:=ln 8 y) (g:=fun m=>(ln 8 x m ^^^ ln 8 y m) &&& ln 8 z m) (fun i _=>l8 y i) (fun i _=>Nat.and_lt_two_pow _ (l8 z i))
  rw[P5 hx,P5 hy]at e1
  rw[<-e1,P5 hz]at e2
  rw[P5 hy,<-e2]at e3
  rw[e3]
  exact cB fun m _=>alG (l8 x m) (l8 y m) (l8 z m)
 exact FQ (f:=fun m=>(uh x0 x1 m &&& uh x4 x5 m) ||| (uh x2 x3 m &&& (uh x4 x5 m ^^^ 255))) (fun m hm=>by
  show C3 .u8 (np .u8 (nL (x0:Int) (x1:Int) m) (nL (x4:Int) (x5:Int) m)) (xq .u8 (nL (x2:Int) (x3:Int) m) (nL (x4:Int) (x5:Int) m))=_
  have l1:uh x0 x1 m &&& uh x4 x5 m<256:=Nat.lt_of_le_of_lt Nat.and_le_left (oF _ _ _)
  have l2:uh x2 x3 m &&& (uh x4 x5 m ^^^ 255)<256:=Nat.lt_of_le_of_lt Nat.and_le_left (oF _ _ _)
  rw[bV hm,bV hm,bV hm,VG (oF _ _ _) (oF _ _ _),Oe (oF _ _ _) (oF _ _ _),acq l1 l2])
  (fun m=>Nat.or_lt_two_pow (n:=8) (Nat.lt_of_le_of_lt Nat.and_le_left (oF _ _ _)) (Nat.lt_of_le_of_lt Nat.and_le_left (oF _ _ _)))
  ((cB fun m hm=>by rw[BS hm,BS hm,BS hm]).trans (X x0 x2 x4 h0 h2 h4)) ((cB fun m _=>by rw[BU,BU,BU]).trans (X x1 x3 x5 h1 h3 h5))
end Go.Proofs.Vq

noncomputable section
namespace Go.Proofs.Vq
open Go.Ab Go.Ab.Lf Go.Proofs.Sw
set_option maxRecDepth 1000000
theorem alI{op Ai:Int}{I O:List Int}(ge:64768<=op)(h:(t88 (op,())).val=some (cp xf (1,Ai,true,I,O,true,()))):Oq I O op:=by
 obtain⟨a,b⟩:=nm (k:=NZ (op,())) (m:=Qg (op,())) (ca _) (ca _) h
 refine⟨a,?_,ge⟩
 unfold Qh
 rw[b]
 simp
theorem Of{op w k:Int}(h:(t250 (op,())).val=some (cp vY (w,k,()))):BO (op,())=true/\BP (op,())=(w,k,()):=nm (ca _) (ca _) h
theorem alJ{op w k:Int}(h:(t254 (op,())).val=some (cp DL (w,k,()))):UK (op,())=true/\UL (op,())=(w,k,()):=nm (ca _) (ca _) h
theorem acs{o:Int}(h:(t42 (o,())).val=some (cp Hx (true,()))):L8 (o,())=true/\(Kn (o,())).1=true:=by
 obtain⟨a,b⟩:=nm (k:=L8 (o,())) (m:=Kn (o,())) (ca _) (ca _) h
 exact⟨a,by rw[b]⟩
theorem alK{o:Int}{p:List Sc×Nat}(S: ∀ b:Int,(t43 (o,0,0,0,0,[],b,())).val=akS b p)(EL:p.1.all (LQ p.2)=true)(hl:p.1.length<=10000)(hn:p.2<=1000):Sq o p.1 p.2:=by
 refine⟨fun b hb=>?_,fun c hc=>List.all_eq_true.1 EL c hc,hl,hn⟩
 rw[S]
 show(bif (bif decide ((b:Int)<0)then true else decide (4032<(b:Int)))then some (cp xh ([],0,1,()))else some (cp xh (p.1.map (toC (b:Int)),(p.2:Int),0,())))=_
 rw[df (show ¬ ((b:Int)<0) by omega),df (show ¬ (4032<(b:Int)) by omega)]
 rfl
theorem af6{o:Int}{p:List Sc×Nat}(S: ∀ b:Int,(t43 (o,0,0,0,0,[],b,())).val=akT b p)(EL:p.1.all (LQ p.2)=true)(hl:p.1.length<=10000)(hn:p.2<=1000):Sq o p.1 p.2:=by
 refine⟨fun b hb=>?_,fun c hc=>List.all_eq_true.1 EL c hc,hl,hn⟩
 rw[S]
 show(bif (bif decide ((b:Int)<0)then true else decide (4032<(b:Int)))then some (cp xh ([],0,1,()))else cA (decide (nz .i64 (b:Int) 2=nz .i64 (b:Int) 2)) (some (cp xh (p.1.map (toC (b:Int)),(p.2:Int),0,()))))=_
 rw[df (show ¬ ((b:Int)<0) by omega),df (show ¬ (4032<(b:Int)) by omega),dt rfl]
 rfl
def Lw(g:Cg)(o:Int):Prop:= ∀ op:Int,Ex op=o-> ∀ x0 x1 x2 x3 x4 x5:Nat,x0<cN->x1<cN->x2<cN->x3<cN->x4<cN->x5<cN-> ∀ ba:Int,∃ (cl:Cl) (N L:Nat),(t9 (g1 g) true cl N L (op,(x0:Int),(x1:Int),(x2:Int),(x3:Int),(x4:Int),(x5:Int),ba,())).val=some (cp Ew (true,()))
end Go.Proofs.Vq

noncomputable section
namespace Go.Proofs.Vq
open Go.Ab Go.Ab.Lf Go.Proofs.Sw
set_option maxRecDepth 1000000
inductive Al (P:Nat->Nat->Nat->Prop):List (Nat×Nat×Nat)->Prop where
 |nil:Al P []
 |cons {o w k:Nat} {l:List (Nat×Nat×Nat)}:P o w k->Al P l->Al P ((o,w,k)::l)
theorem Al.get{P:Nat->Nat->Nat->Prop}{l:List (Nat×Nat×Nat)}(h:Al P l): ∀ q,q∈l->P q.1 q.2.1 q.2.2:=by
 induction h with
 |nil=>intro q h;cases h
 |cons a _ ih=>
  intro q h
  rcases List.mem_cons.1 h with rfl|h
  ·exact a
  ·exact ih q h
structure Fa(I O:List Int)(sh:Bool)(o w k:Nat):Prop where
 of:(t88 ((o:Int),())).val=some (cp xf (1,0,true,I,O,true,()))
 is:(t42 ((o:Int),())).val=some (cp Hx (true,()))
 sq: ∀ b:Int,(t43 ((o:Int),0,0,0,0,[],b,())).val=bif sh then akT b (oQ w k)else akS b (oQ w k)
 ck:(decide ((64768:Int)<=(o:Int))&&((oQ w k).1.all (LQ (oQ w k).2)&&(Nat.ble (oQ w k).1.length 10000&&(Nat.ble (oQ w k).2 1000&& !(xor sh (BQ (o:Int)))))))=true
theorem Fa.all{I O:List Int}{sh:Bool}{o w k:Nat}(F:Fa I O sh o w k):Oq I O (o:Int)/\(∀ op,Ex op=(o:Int)->Is op (o:Int))/\Sq (o:Int) (oQ w k).1 (oQ w k).2/\BQ (o:Int)=sh:=by
 obtain⟨f1,f2,f3,f4⟩:=F
 simp only[Bool.and_eq_true,decide_eq_true_eq,Bool.not_eq_true']at f4
 obtain⟨c1,c2,c3,c4,c5⟩:=f4
 refine⟨alI c1 f1,fun op e=>⟨e,(acs f2).1,(acs f2).2⟩,?_,?_⟩
 ·cases sh with
  |true=>exact af6 f3 c2 (Nat.le_of_ble_eq_true c3) (Nat.le_of_ble_eq_true c4)
  |false=>exact alK f3 c2 (Nat.le_of_ble_eq_true c3) (Nat.le_of_ble_eq_true c4)
 ·revert c5
  cases sh<;>cases BQ (o:Int)<;>simp
theorem J9{w:Nat}(h:(Nat.beq w 8||(Nat.beq w 16||(Nat.beq w 32||Nat.beq w 64)))=true): ∃ p n,Wn w p n:=by
 simp only[Bool.or_eq_true]at h
 rcases h with h|h|h|h<;>obtain rfl:=Nat.eq_of_beq_eq_true h
 ·exact⟨_,_,wn8⟩
 ·exact⟨_,_,atf⟩
 ·exact⟨_,_,atg⟩
 ·exact⟨_,_,ath⟩
abbrev wB(w:Nat):Bool:=Nat.beq w 8||(Nat.beq w 16||(Nat.beq w 32||Nat.beq w 64))
abbrev nB(o:Nat):Bool:=N3.contains (o:Int)&& !(decide ((o:Int)=64782))
theorem Og{o:Nat}(h:nB o=true):N3.contains (o:Int)=true/\ ¬ (o:Int)=64782:=by
 unfold nB at h
 simpa using h
structure Fb(o w k:Nat):Prop where
 a:Fa [123,123] [123] false o w k
 c:(wB w&&nB o)=true
 q:Kq w k
 d:(t250 ((o:Int),())).val=some (cp vY ((w:Int),(k:Int),()))
theorem Fb.lw(g:Cg){o w k:Nat}(F:Fb o w k):Lw g (o:Int):=fun _ hi _ _ _ _ _ _ h0 h1 h2 h3 h4 h5 ba=>by
 obtain⟨a,c,q,d⟩:=F
 obtain⟨oq,is,sq,hs⟩:=a.all
 rw[Bool.and_eq_true]at c
 obtain⟨p,n,W⟩:=J9 c.1
 obtain⟨n1,n2⟩:=Og c.2
 exact⟨_,_,_,A4 g ([123,123],[123],0,false) (is _ hi) hs sq (fun a=>(ak0 _ a 0 0).trans (nE oq _)) (fun a b=>(ak2 _ a b 0).trans (nE oq _)) (fun a b c=>(ak4 _ a b c).trans (nE oq _)) (aly W q oq n1 n2 (Of d)) _ _ _ _ _ _ h0 h1 h2 h3 h4 h5 ba⟩
structure Fu(o w k:Nat):Prop where
 a:Fa [123] [123] false o w k
 c:(wB w&&nB o)=true
 q:k=0∨k=1∨(k=2/\w=8)
 d:(t250 ((o:Int),())).val=some (cp vY ((w:Int),(k:Int),()))
theorem Fu.lw(g:Cg){o w k:Nat}(F:Fu o w k):Lw g (o:Int):=fun _ hi _ _ _ _ _ _ h0 h1 h2 h3 h4 h5 ba=>by
 obtain⟨a,c,q,d⟩:=F
 obtain⟨oq,is,sq,hs⟩:=a.all
 rw[Bool.and_eq_true]at c
 obtain⟨p,n,W⟩:=J9 c.1
 obtain⟨n1,n2⟩:=Og c.2
 exact⟨_,_,_,VE g ([123],[123],0,false) (is _ hi) hs sq (fun a=>(ak6 _ a 0 0).trans (nE oq _)) (atn W q oq n1 n2 (Of d)) _ _ _ _ _ _ h0 h1 h2 h3 h4 h5 ba⟩
structure Fs(o w k:Nat):Prop where
 a:Fa [123,127] [123] true o w k
 c:(wB w&&nB o)=true
 q:k=11∨k=12∨k=13
 d:(t250 ((o:Int),())).val=some (cp vY ((w:Int),(k:Int),()))
theorem Fs.lw(g:Cg){o w k:Nat}(F:Fs o w k):Lw g (o:Int):=fun _ hi _ _ _ _ _ _ h0 h1 h2 h3 h4 h5 ba=>by
 obtain⟨a,c,q,d⟩:=F
 obtain⟨oq,is,sq,hs⟩:=a.all
 rw[Bool.and_eq_true]at c
 obtain⟨p,n,W⟩:=J9 c.1
 obtain⟨n1,n2⟩:=Og c.2
 exact⟨_,_,_,af0 g ([123,127],[123],0,false) (is _ hi) hs sq (fun a=>(ak7 _ a 0 0).trans (nE oq _)) (fun a b=>(ak8 _ a b 0).trans (nE oq _)) (ato W q oq n1 n2 (Of d)) _ _ _ _ _ _ h0 h1 h2 h3 h4 h5 ba⟩
structure Fc(o w k:Nat):Prop where
 a:Fa [123,123] [123] false o w (100+k)
 c:(wB w&&nB o)=true
 q:k<10
 d:(t250 ((o:Int),())).val=some (cp vY (0,0,()))
 e:(t254 ((o:Int),())).val=some (cp DL ((w:Int),(k:Int),()))
theorem Fc.lw(g:Cg){o w k:Nat}(F:Fc o w k):Lw g (o:Int):=fun _ hi _ _ _ _ _ _ h0 h1 h2 h3 h4 h5 ba=>by
 obtain⟨a,c,q,d,e⟩:=F
 obtain⟨oq,is,sq,hs⟩:=a.all
 rw[Bool.and_eq_true]at c
 obtain⟨p,n,W⟩:=J9 c.1
 obtain⟨n1,n2⟩:=Og c.2
 exact⟨_,_,_,A4 g ([123,123],[123],1,false) (is _ hi) hs sq (fun a=>(ak1 _ a 0 0).trans (nE oq _)) (fun a b=>(ak3 _ a b 0).trans (nE oq _)) (fun a b c=>(ak5 _ a b c).trans (nE oq _)) (alA W q oq n1 n2 (Of d) (alJ e)) _ _ _ _ _ _ h0 h1 h2 h3 h4 h5 ba⟩
structure Ft(o w k:Nat):Prop where
 a:Fa [123] [127] false o w (297+k)
 c:(wB w&&true)=true
 q:k=3∨k=4
 d:decide ((o:Int)=opT w k)=true
theorem Ft.lw(g:Cg){o w k:Nat}(F:Ft o w k):Lw g (o:Int):=fun _ hi _ _ _ _ _ _ h0 h1 h2 h3 h4 h5 ba=>by
 obtain⟨a,c,q,d⟩:=F
 obtain⟨oq,is,sq,hs⟩:=a.all
 rw[Bool.and_eq_true]at c
 obtain⟨p,n,W⟩:=J9 c.1
 exact⟨_,_,_,VF g ([123],[127],0,false) (is _ hi) hs sq (fun a=>(acm _ a 0 0).trans (nE oq _)) (af2 W q (of_decide_eq_true d) oq) _ _ _ _ _ _ h0 h1 h2 h3 h4 h5 ba⟩
theorem aaE(g:Cg):Lw g (64845:Nat):=fun _ hi _ _ _ _ _ _ h0 h1 h2 h3 h4 h5 ba=>by
 obtain⟨oq,is,sq,hs⟩:=(⟨by kernel_rfl,by kernel_rfl,fun b=>by kernel_rfl,by kernel_rfl⟩:Fa [123] [123] false 64845 64 200).all
 exact⟨_,_,_,VE g ([123],[123],0,true) (is _ hi) hs sq (fun a=>(ak9 _ a 0 0 0 0).trans (nE oq _)) (alD oq) _ _ _ _ _ _ h0 h1 h2 h3 h4 h5 ba⟩
theorem aaF(g:Cg):Lw g (64846:Nat):=fun _ hi _ _ _ _ _ _ h0 h1 h2 h3 h4 h5 ba=>by
 obtain⟨oq,is,sq,hs⟩:=(⟨by kernel_rfl,by kernel_rfl,fun b=>by kernel_rfl,by kernel_rfl⟩:Fa [123,123] [123] false 64846 64 201).all
 exact⟨_,_,_,A4 g ([123,123],[123],0,true) (is _ hi) hs sq (fun a=>(N5 _ a 0 0 0 0).trans (nE oq _)) (fun a b=>(N6 _ a b 0 0 0).trans (nE oq _)) (fun a b c=>(N7 _ a b c 0 0).trans (nE oq _)) (alE oq) _ _ _ _ _ _ h0 h1 h2 h3 h4 h5 ba⟩
theorem aaG(g:Cg):Lw g (64847:Nat):=fun _ hi _ _ _ _ _ _ h0 h1 h2 h3 h4 h5 ba=>by
 obtain⟨oq,is,sq,hs⟩:=(⟨by kernel_rfl,by kernel_rfl,fun b=>by kernel_rfl,by kernel_rfl⟩:Fa [123,123] [123] false 64847 64 202).all
 exact⟨_,_,_,A4 g ([123,123],[123],0,true) (is _ hi) hs sq (fun a=>(N5 _ a 0 0 0 0).trans (nE oq _)) (fun a b=>(N6 _ a b 0 0 0).trans (nE oq _)) (fun a b c=>(N7 _ a b c 0 0).trans (nE oq _)) (af5 oq) _ _ _ _ _ _ h0 h1 h2 h3 h4 h5 ba⟩
theorem aaH(g:Cg):Lw g (64848:Nat):=fun _ hi _ _ _ _ _ _ h0 h1 h2 h3 h4 h5 ba=>by
 obtain⟨oq,is,sq,hs⟩:=(⟨by kernel_rfl,by kernel_rfl,fun b=>by kernel_rfl,by kernel_rfl⟩:Fa [123,123] [123] false 64848 64 203).all
 exact⟨_,_,_,A4 g ([123,123],[123],0,true) (is _ hi) hs sq (fun a=>(N5 _ a 0 0 0 0).trans (nE oq _)) (fun a b=>(N6 _ a b 0 0 0).trans (nE oq _)) (fun a b c=>(N7 _ a b c 0 0).trans (nE oq _)) (atp oq) _ _ _ _ _ _ h0 h1 h2 h3 h4 h5 ba⟩
theorem aaI(g:Cg):Lw g (64849:Nat):=fun _ hi _ _ _ _ _ _ h0 h1 h2 h3 h4 h5 ba=>by
 obtain⟨oq,is,sq,hs⟩:=(⟨by kernel_rfl,by kernel_rfl,fun b=>by kernel_rfl,by kernel_rfl⟩:Fa [123,123] [123] false 64849 64 204).all
 exact⟨_,_,_,A4 g ([123,123],[123],0,true) (is _ hi) hs sq (fun a=>(N5 _ a 0 0 0 0).trans (nE oq _)) (fun a b=>(N6 _ a b 0 0 0).trans (nE oq _)) (fun a b c=>(N7 _ a b c 0 0).trans (nE oq _)) (alF oq) _ _ _ _ _ _ h0 h1 h2 h3 h4 h5 ba⟩
theorem aaJ(g:Cg):Lw g (64850:Nat):=fun _ hi _ _ _ _ _ _ h0 h1 h2 h3 h4 h5 ba=>by
 obtain⟨oq,is,sq,hs⟩:=(⟨by kernel_rfl,by kernel_rfl,fun b=>by kernel_rfl,by kernel_rfl⟩:Fa [123,123,123] [123] false 64850 64 205).all
 exact⟨_,_,_,af1 g ([123,123,123],[123],0,true) (is _ hi) hs sq (fun a=>(ak' _ a 0 0 0 0).trans (nE oq _)) (fun a b=>(ala _ a b 0 0 0).trans (nE oq _)) (fun a b c=>(alb _ a b c 0 0).trans (nE oq _)) (fun a b c d=>(ald _ a b c d 0).trans (nE oq _)) (fun a b c d e=>(ale _ a b c d e).trans (nE oq _)) (alH oq) _ _ _ _ _ _ h0 h1 h2 h3 h4 h5 ba⟩
theorem aaK(g:Cg):Lw g (64851:Nat):=fun _ hi _ _ _ _ _ _ h0 h1 h2 h3 h4 h5 ba=>by
 obtain⟨oq,is,sq,hs⟩:=(⟨by kernel_rfl,by kernel_rfl,fun b=>by kernel_rfl,by kernel_rfl⟩:Fa [123] [127] false 64851 64 206).all
 exact⟨_,_,_,VF g ([123],[127],0,false) (is _ hi) hs sq (fun a=>(acm _ a 0 0).trans (nE oq _)) (alC oq) _ _ _ _ _ _ h0 h1 h2 h3 h4 h5 ba⟩
end Go.Proofs.Vq
