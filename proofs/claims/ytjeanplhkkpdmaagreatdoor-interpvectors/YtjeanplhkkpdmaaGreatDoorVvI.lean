import Derived.Test.YtjeanplhkkpdmaaGreatDoorVvD
noncomputable section
namespace Go.Proofs.Vv
open Go.Ab Go.Ab.Lf Go.Proofs.Vd
set_option maxRecDepth 100000
abbrev jG(v:Nat):Int:=((64768+v:Nat):Int)
def wOk(w:Int):Bool:=decide (w=0)||(decide (w=8)||(decide (w=16)||(decide (w=32)||decide (w=64))))
theorem aoa{w:Int}(h:wOk w=true):w=0∨ ∃ W:Nat,w=(W:Int)/\Wq W:=by
 unfold wOk at h;simp only[Bool.or_eq_true,decide_eq_true_eq]at h
 rcases h with h|h|h|h|h
 ·exact .inl h
 ·exact .inr ⟨8,h,.inl rfl⟩
 ·exact .inr ⟨16,h,.inr (.inl rfl)⟩
 ·exact .inr ⟨32,h,.inr (.inr (.inl rfl))⟩
 ·exact .inr ⟨64,h,.inr (.inr (.inr rfl))⟩
def two(t:T (List Pl)):Int×Int×Bool:=match t.val with
 |some l=>(match toT [i64,i64] l with|some x=>(x.1,x.2.1,true)|none=>(0,0,false))
 |none=>(0,0,false)
theorem Ze{t:T (List Pl)}(h:(two t).2.2=true):t.val=some (cg [i64,i64] ((two t).1,(two t).2.1,())):=by
 unfold two at h ⊢;cases e:t.val with
 |none=>rw[e]at h;cases h
 |some l=>
  rw[e]at h;dsimp only at h ⊢;cases e2:toT [i64,i64] l with
  |none=>rw[e2]at h;cases h
  |some x=>
   rw[rL e2]
def uL(v:Nat):Int×Int×Bool:=two (t250 (jG v,()))
def Zf(v:Nat):Int×Int×Bool:=two (t254 (jG v,()))
def kd1(v:Nat):Bool:=(uL v).2.2&&(wOk (uL v).1&&(Zf v).2.2)
theorem aft:(List.range 256).all kd1=true:=by kernel_rfl
structure Kd(v:Nat):Prop where
 k:Tx (jG v,())=true
 m:Tz (jG v,())=((uL v).1,(uL v).2.1,())
 w:(uL v).1=0∨ ∃ W:Nat,(uL v).1=(W:Int)/\Wq W
 k':ae9 (jG v,())=true
 m':ae' (jG v,())=((Zf v).1,(Zf v).2.1,())
theorem Q3{v:Nat}(hv:v<256):Kd v:=by
 have h:=List.all_eq_true.1 aft v (List.mem_range.2 hv);unfold kd1 at h;simp only[Bool.and_eq_true]at h;obtain⟨h1,h2,h3⟩:=h;obtain⟨a,b⟩:=lH (k:=Tx (jG v,())) (m:=Tz (jG v,())) (cf _) (cf _) (Ze h1);obtain⟨c,d⟩:=lH (k:=ae9 (jG v,())) (m:=ae' (jG v,())) (cf _) (cf _) (Ze h3);exact⟨a,b,aoa h2,c,d⟩
abbrev CA(y:Vy)(e:Int):ca (tV [i64]):=cV [i64] (vO y) (e,())
def bE(c:Bool):Int:=bif c then 1 else 0
def M4(v:Nat):Bool:=bif decide ((uL v).1=0)then true else decide ((uL v).2.1<14)
def eUn(v:Nat):Bool:=bif decide ((uL v).1=0)then true else decide (2<(uL v).2.1)
def eSh(v:Nat):Bool:=bif decide ((uL v).1=0)then true else bif decide ((uL v).2.1<11)then true else decide (13<(uL v).2.1)
def Zg(v:Nat):Bool:=decide ((Zf v).2.1<0)
theorem avq{v:Nat}(hv:v<256)(ya yb:Vy): ∃ y:Vy,MV (jG v,cV (tV []) (vO ya) (cV [] (vO yb) ()))=true/\Ca (jG v,cV (tV []) (vO ya) (cV [] (vO yb) ()))=CA y (bE (M4 v)):=by
 have K:=Q3 hv;have e:=avf ya yb (jG v) _ K.m.symm _ rfl _ rfl;rw[K.k]at e;have hl:=an4 ya yb zV zV 0 (uL v).2.1 (uL v).1;have hl:uF Dh rV qA (Pn (vO ya) (vO yb) rZ rZ 0 (uL v).1 (uL v).2.1 (uJ ((uL v).1,())).1 0)=true:=hl;dsimp only at e;rw[(vC _).1,hl]at e;cases hc:M4 v with
 |true=>
  have hc:(bif decide ((uL v).1=0)then true else decide ((uL v).2.1<14))=true:=hc;rw[hc]at e;exact⟨zV,lH (cf _) (cf _) (e:(t157 _).val=some (cg B9 (CA zV 1)))⟩
 |false=>
  have hc:(bif decide ((uL v).1=0)then true else decide ((uL v).2.1<14))=false:=hc;rw[hc]at e;exact⟨_,lH (cf _) (cf _) (e:(t157 _).val=some (cg B9 (CA _ 0)))⟩
theorem aB0{v:Nat}(hv:v<256)(ya yb:Vy): ∃ y:Vy,TN (jG v,cV (tV []) (vO ya) (cV [] (vO yb) ()))=true/\GJ (jG v,cV (tV []) (vO ya) (cV [] (vO yb) ()))=CA y (bE (Zg v)):=by
 have K:=Q3 hv;have e:=avi ya yb (jG v) _ K.m'.symm _ rfl _ rfl;rw[K.k']at e;have hl:=an5 ya yb zV zV 0 (Zf v).2.1 (Zf v).1;have hl:uF Dl rY qD (MW (vO ya) (vO yb) rZ rZ 0 (Zf v).1 (Zf v).2.1 (uJ ((Zf v).1,())).1 0)=true:=hl;dsimp only at e;rw[(vC _).1,hl]at e;cases hc:Zg v with
 |true=>
  have hc:decide ((Zf v).2.1<0)=true:=hc;rw[hc]at e;exact⟨zV,lH (cf _) (cf _) (e:(t158 _).val=some (cg Cd (CA zV 1)))⟩
 |false=>
  have hc:decide ((Zf v).2.1<0)=false:=hc;rw[hc]at e;exact⟨_,lH (cf _) (cf _) (e:(t158 _).val=some (cg Cd (CA _ 0)))⟩
theorem aB1{v:Nat}(hv:v<256)(ya:Vy): ∃ y:Vy,TK (jG v,cV [] (vO ya) ())=true/\GH (jG v,cV [] (vO ya) ())=CA y (bE (eUn v)):=by
 have K:=Q3 hv;have e:=avh ya (jG v) _ K.m.symm _ rfl _ rfl;rw[K.k]at e;have hl:=an6 zV ya 0 (uL v).2.1 (uL v).1;have hl:uF Dk rX qC (Hs rZ (vO ya) 0 (uL v).1 (uL v).2.1 (uJ ((uL v).1,())).1 0)=true:=hl;dsimp only at e;rw[(vC _).1,hl]at e;cases hc:eUn v with
 |true=>
  have hc:(bif decide ((uL v).1=0)then true else decide (2<(uL v).2.1))=true:=hc;rw[hc]at e;exact⟨zV,lH (cf _) (cf _) (e:(t154 _).val=some (cg Cc (CA zV 1)))⟩
 |false=>
  have hc:(bif decide ((uL v).1=0)then true else decide (2<(uL v).2.1))=false:=hc;rw[hc]at e;exact⟨_,lH (cf _) (cf _) (e:(t154 _).val=some (cg Cc (CA _ 0)))⟩
theorem aB2{v:Nat}(hv:v<256)(ya:Vy)(q:Int)(hq:0<=q): ∃ y:Vy,TH (jG v,cV [u32] (vO ya) (q,()))=true/\Dj (jG v,cV [u32] (vO ya) (q,()))=CA y (bE (eSh v)):=by
 have K:=Q3 hv;have e:=avg ya (jG v) q _ K.m.symm _ rfl _ rfl;rw[K.k]at e;have hl:=an7 zV ya 0 (uL v).2.1 (uL v).1 (Sn .u32 q (cI .u32 (uL v).1)) (Int.tmod_nonneg _ hq);have hl:uF Di rW qB (Kh rZ (vO ya) 0 (uL v).1 (uL v).2.1 (uJ ((uL v).1,())).1 0 (Sn .u32 q (cI .u32 (uL v).1)))=true:=hl;dsimp only at e;rw[(vC _).1,hl]at e;cases hc:eSh v with
 |true=>
  have hc:(bif decide ((uL v).1=0)then true else bif decide ((uL v).2.1<11)then true else decide (13<(uL v).2.1))=true:=hc;rw[hc]at e;exact⟨zV,lH (cf _) (cf _) (e:(t156 _).val=some (cg Cb (CA zV 1)))⟩
 |false=>
  have hc:(bif decide ((uL v).1=0)then true else bif decide ((uL v).2.1<11)then true else decide (13<(uL v).2.1))=false:=hc;rw[hc]at e;have hz:decide (cI .u32 (uL v).1=0)=false:=by
   rcases K.w with h|⟨W,h,hW⟩
   ·rw[h]at hc;cases hc
   ·rw[h];rcases hW with rfl|rfl|rfl|rfl<;>rfl
  rw[hz]at e;exact⟨_,lH (cf _) (cf _) (e:(t156 _).val=some (cg Cb (CA _ 0)))⟩
def ajt(v:Nat->Int):Bool:=(decide (v 0=0)&&(decide (v 1=0)&&(decide (v 2=0)&&(decide (v 3=0)&&(decide (v 4=0)&&(decide (v 5=0)&&(decide (v 6=0)&&(decide (v 7=0)&&(decide (v 8=0)&&(decide (v 9=0)&&(decide (v 10=0)&&(decide (v 11=0)&&(decide (v 12=0)&&(decide (v 13=0)&&(decide (v 14=0)&&decide (v 15=0))))))))))))))))
theorem aob(ya:Vy):(t146 (64851,cV [] (vO ya) ())).val=bif !ajt (vO ya)then some (cg wB (1,0,()))else some (cg wB (0,0,())):=by kernel_rfl
def opT(w at':Nat):Int:=match w with|8=>64864+at'|16=>64896+at'|32=>64928+at'| _=>64960+at'
theorem avr(ya:Vy){w m:Nat}(hw:Wq w)(hm:m=3∨m=4)(x:ca rr)(hx:x=GK (vO ya) 0 0 (opT w m - 64768) (w:Int) 0 1 (uJ ((w:Int),())).1 0)(y:ca pE)(hy:y=qb AJ rr pE x):
 (t146 (opT w m,cV [] (vO ya) ())).val=cy (Hr ((w:Int),())) (cy (uF AJ rr pE x) (bif decide (Sn .i64 y.2.2.1 32=3)then some (cg wB (y.2.2.2.2.1,0,()))else some (cg wB (y.2.2.2.1,0,())))):=by
 subst hy;subst hx
 rcases hw with rfl|rfl|rfl|rfl<;>rcases hm with rfl|rfl<;>kernel_rfl
theorem avs(ya:Vy):Eb (64851,cV [] (vO ya) ())=true/\ ∃ x:Int,zu (64851,cV [] (vO ya) ())=(x,0,()):=by
 have e:=aob ya;cases hz:ajt (vO ya)with
 |true=>
  rw[hz]at e;obtain⟨a,b⟩:=lH (k:=Eb (64851,cV [] (vO ya) ())) (m:=zu (64851,cV [] (vO ya) ())) (cf _) (cf _) (e:(t146 _).val=some (cg wB (0,0,())));exact⟨a,_,b⟩
 |false=>
  rw[hz]at e;obtain⟨a,b⟩:=lH (k:=Eb (64851,cV [] (vO ya) ())) (m:=zu (64851,cV [] (vO ya) ())) (cf _) (cf _) (e:(t146 _).val=some (cg wB (1,0,())));exact⟨a,_,b⟩
theorem M5(ya:Vy){w m:Nat}(hw:Wq w)(hm:m=3∨m=4):Eb (opT w m,cV [] (vO ya) ())=true/\ ∃ x:Int,zu (opT w m,cV [] (vO ya) ())=(x,0,()):=by
 have e:=avr ya hw hm _ rfl _ rfl;have hl:uF AJ rr pE (GK (vO ya) 0 0 (opT w m - 64768) (w:Int) 0 1 (uJ ((w:Int),())).1 0)=true:=an8 ya 0 0 _ 0 1 (w:Int);rw[(vC _).1,hl]at e;cases hc:decide (Sn .i64 (qb AJ rr pE (GK (vO ya) 0 0 (opT w m - 64768) (w:Int) 0 1 (uJ ((w:Int),())).1 0)).2.2.1 32=3)with
 |true=>
  rw[hc]at e;obtain⟨a,b⟩:=lH (k:=Eb (opT w m,cV [] (vO ya) ())) (m:=zu (opT w m,cV [] (vO ya) ())) (cf _) (cf _) (e:(t146 _).val=some (cg wB (_,0,())));exact⟨a,_,b⟩
 |false=>
  rw[hc]at e;obtain⟨a,b⟩:=lH (k:=Eb (opT w m,cV [] (vO ya) ())) (m:=zu (opT w m,cV [] (vO ya) ())) (cf _) (cf _) (e:(t146 _).val=some (cg wB (_,0,())));exact⟨a,_,b⟩
end Go.Proofs.Vv
