import Derived.Test.YtjeanplhkkpdmaaGreatDoorSA
noncomputable section
namespace Go.Proofs.Vv
open Go.Ab Go.Ab.Lf Go.Proofs.Vd
set_option maxRecDepth 100000
abbrev Vy:=ca (tV [])
def Wq(w:Nat):Prop:=w=8∨w=16∨w=32∨w=64
theorem AK{w i:Nat}(h:Wq w)(hi:i<128 / w):qe (w:Int) (i:Int)=true:=by
 unfold qe
 have h0:(0:Int)<=(i:Int):=by omega
 rcases h with rfl|rfl|rfl|rfl
 ·have:(i:Int)<16:=by omega
  simp[this]
 ·have:(i:Int)<8:=by omega
  simp[this]
 ·have:(i:Int)<4:=by omega
  simp[this]
 ·have:(i:Int)<2:=by omega
  simp[this]
theorem an1{w:Nat}(h:Wq w):Hr ((w:Int),())=true/\uJ ((w:Int),())=(((128 / w:Nat):Int),()):=by
 refine lH (cf _) (cf _) ?_
 rcases h with rfl|rfl|rfl|rfl<;>kernel_rfl
theorem vC(w:Int):Hr (w,())=true/\((∃ W:Nat,w=W/\Wq W/\uJ (w,())=(((128 / W:Nat):Int),()))∨uJ (w,())=(0,())):=by
 by_cases h:w=8∨w=16∨w=32∨w=64
 ·obtain⟨W,rfl,hW⟩: ∃ W:Nat,w=W/\Wq W:=by
   rcases h with rfl|rfl|rfl|rfl
   ·exact⟨8,rfl,.inl rfl⟩
   ·exact⟨16,rfl,.inr (.inl rfl)⟩
   ·exact⟨32,rfl,.inr (.inr (.inl rfl))⟩
   ·exact⟨64,rfl,.inr (.inr (.inr rfl))⟩
  obtain⟨a,b⟩:=an1 hW;exact⟨a,.inl ⟨W,rfl,hW,b⟩⟩
 ·have e:(t246 (w,())).val=bif decide (w=8)then cy (!decide (w=0)) (some (cg zT (V1 .i64 128 w,())))else bif decide (w=16)then cy (!decide (w=0)) (some (cg zT (V1 .i64 128 w,())))else bif decide (w=32)then cy (!decide (w=0)) (some (cg zT (V1 .i64 128 w,())))else bif decide (w=64)then cy (!decide (w=0)) (some (cg zT (V1 .i64 128 w,())))else some (cg zT (0,())):=by kernel_rfl
  have n8:decide (w=8)=false:=df fun q=>h (.inl q)
  have n16:decide (w=16)=false:=df fun q=>h (.inr (.inl q))
  have n32:decide (w=32)=false:=df fun q=>h (.inr (.inr (.inl q)))
  have n64:decide (w=64)=false:=df fun q=>h (.inr (.inr (.inr q)))
  rw[n8,n16,n32,n64]at e;have e:(t246 (w,())).val=some (cg zT (0,())):=e;obtain⟨a,b⟩:=lH (k:=Hr (w,())) (m:=uJ (w,())) (y:=(0,())) (cf _) (cf _) e;exact⟨a,.inr b⟩
theorem AL{W I:Nat}(y:Vy)(hW:Wq W)(hI:I<128 / W):B8 (sX (vO y) (W:Int) (I:Int))=true:=by
 have e:=ajs y (W:Int) (I:Int);obtain⟨q1,q2⟩:=an1 hW
 have hs:jF .i64 64 (W:Int)=((64 - W:Nat):Int):=by rcases hW with rfl|rfl|rfl|rfl<;>kernel_rfl
 have hn:decide (((128 / W:Nat):Int)=0)=false:=by rcases hW with rfl|rfl|rfl|rfl<;>rfl
 have h0:decide ((0:Int)<=((64 - W:Nat):Int))=true:=decide_eq_true (by omega);rw[q1,q2]at e;dsimp only at e;rw[hn,AK hW hI,hs,h0]at e;exact(lH (cf _) (cf _) (k:=B8 (sX (vO y) W I)) (m:=sw (sX (vO y) W I)) e).1
theorem IB{to:List Ty}{t:T (List Pl)}{k:Bool}(hk:k=j5 (mf to t))(h:SX to t=true)(hc: ∀ c,c∈BW t->c=true):k=true:=by
 rw[hk,cf];exact BX h hc
theorem an2{W:Nat}(hW:Wq W)(k x y s t:Int):anX ((W:Int),k,x,y,s,t,())=true:=by
 rcases hW with rfl|rfl|rfl|rfl
 ·refine IB rfl (by kernel_rfl) ?_
  have e:(BW (t253 ((8:Nat),k,x,y,s,t,()))).all id=true:=by kernel_rfl
  exact fun c hc=>List.all_eq_true.1 e c hc
 ·refine IB rfl (by kernel_rfl) ?_
  have e:(BW (t253 ((16:Nat),k,x,y,s,t,()))).all id=true:=by kernel_rfl
  exact fun c hc=>List.all_eq_true.1 e c hc
 ·refine IB rfl (by kernel_rfl) ?_
  have e:(BW (t253 ((32:Nat),k,x,y,s,t,()))).all id=true:=by kernel_rfl
  exact fun c hc=>List.all_eq_true.1 e c hc
 ·refine IB rfl (by kernel_rfl) ?_
  have e:(BW (t253 ((64:Nat),k,x,y,s,t,()))).all id=true:=by kernel_rfl
  exact fun c hc=>List.all_eq_true.1 e c hc
theorem an3(k x y:Int):anZ (k,x,y,())=true:=by
 refine IB rfl (by kernel_rfl) ?_
 have e:(BW (t255 (k,x,y,()))).all id=true:=by kernel_rfl
 exact fun c hc=>List.all_eq_true.1 e c hc
theorem avj(x:Int):k54 (x,())=true:=by
 refine IB rfl (by kernel_rfl) ?_
 have e:(BW (t54 (x,()))).all id=true:=by kernel_rfl
 exact fun c hc=>List.all_eq_true.1 e c hc
theorem Ce{i:Nat}(h:i<1000):jR .i64 (i:Int) 1=((i+1:Nat):Int):=wrap_i64 (by omega) (by omega)
theorem N16{w i:Nat}(hw:Wq w)(h:i<128 / w):i<1000:=by
 have:128 / w<=16:=by rcases hw with rfl|rfl|rfl|rfl<;>decide
 omega
theorem MX{i n:Nat}(h:i<n):decide ((i:Int)<(n:Int))=true:=dt (Int.ofNat_lt.2 h)
theorem zU(n:Nat):decide ((n:Int)<(n:Int))=false:=df (Int.lt_irrefl _)
theorem GL{ti to:List Ty}{f:List Pl->Lf.T Rs}(N:Nat){A:Type}(S:A->Nat->ca ti)(O:A->ca to)
 (hs: ∀ y i,i<N-> ∃ y',Tw ti to [] (f (cg ti (S y i)))=some (.nx (S y' (i+1))))
 (he: ∀ y,Tw ti to [] (f (cg ti (S y N)))=some (.o0 (O y)))(y0:A):uF f ti to (S y0 0)=true/\ ∃ y',qb f ti to (S y0 0)=O y':=by
 have key: ∀ d i y,i+d=N-> ∃ y',oU f (cg ti (S y i)) 0 (cg to (O y')):=by
  intro d
  induction d with
  |zero=>
   intro i y hi
   obtain rfl:i=N:=by omega
   exact⟨y,.last (Dg (he y))⟩
  |succ d ih=>
   intro i y hi;obtain⟨y1,h1⟩:=hs y i (by omega);obtain⟨y2,h3⟩:=ih (i+1) y1 (by omega);exact⟨y2,.more (Dg h1) h3⟩
 obtain⟨y',h1⟩:=key N 0 y0 (by omega);obtain⟨a,b⟩:=uT h1;exact⟨a,y',b⟩
theorem an4(ya yb yr yo:Vy)(e k:Int)(w:Int):uF Dh rV qA (Pn (vO ya) (vO yb) (vO yr) (vO yo) e w k (uJ (w,())).1 0)=true:=by
 rcases(vC w).2 with⟨W,rfl,hW,hm⟩|hm
 ·rw[hm];refine(GL (128 / W) (fun(y:Vy) i=>Pn (vO ya) (vO yb) (vO yr) (vO y) e (W:Int) k ((128 / W:Nat):Int) (i:Int)) (fun y=>cV (i64::tV []) (vO yr) (e,cV [] (vO y) ())) (fun y i hi=>?_) (fun y=>?_) yo).1
  ·rw[Kg,MX hi,AK hW hi,mJ,mJ,AL ya hW hi,AL yb hW hi,an2 hW,Ce (N16 hW hi)];exact⟨cV [] (pX (vO y) (W:Int) (i:Int) (anY ((W:Int),k,gX (vO ya) (W:Int) (i:Int),gX (vO yb) (W:Int) (i:Int),(sw (sX (vO ya) (W:Int) (i:Int))).1,(sw (sX (vO yb) (W:Int) (i:Int))).1,())).1) (),rfl⟩
  ·rw[Kg,zU];rfl
 ·rw[hm];refine(GL 0 (fun(y:Vy) i=>Pn (vO ya) (vO yb) (vO yr) (vO y) e w k ((0:Nat):Int) (i:Int)) (fun y=>cV (i64::tV []) (vO yr) (e,cV [] (vO y) ())) (fun y i hi=>absurd hi (Nat.not_lt_zero _)) (fun y=>?_) yo).1;rw[Kg,zU];rfl
theorem an5(ya yb yr yo:Vy)(e k:Int)(w:Int):uF Dl rY qD (MW (vO ya) (vO yb) (vO yr) (vO yo) e w k (uJ (w,())).1 0)=true:=by
 rcases(vC w).2 with⟨W,rfl,hW,hm⟩|hm
 ·rw[hm];refine(GL (128 / W) (fun(y:Vy) i=>MW (vO ya) (vO yb) (vO yr) (vO y) e (W:Int) k ((128 / W:Nat):Int) (i:Int)) (fun y=>cV (i64::tV []) (vO yr) (e,cV [] (vO y) ())) (fun y i hi=>?_) (fun y=>?_) yo).1
  ·rw[Kk,MX hi,AK hW hi,mJ,AL ya hW hi,AL yb hW hi,an3,Ce (N16 hW hi)];cases(an0 (k,(sw (sX (vO ya) (W:Int) (i:Int))).1,(sw (sX (vO yb) (W:Int) (i:Int))).1,())).1 with
   |true=>exact⟨cV [] (pX (vO y) (W:Int) (i:Int) 18446744073709551615) (),rfl⟩
   |false=>exact⟨y,rfl⟩
  ·rw[Kk,zU];rfl
 ·rw[hm];refine(GL 0 (fun(y:Vy) i=>MW (vO ya) (vO yb) (vO yr) (vO y) e w k ((0:Nat):Int) (i:Int)) (fun y=>cV (i64::tV []) (vO yr) (e,cV [] (vO y) ())) (fun y i hi=>absurd hi (Nat.not_lt_zero _)) (fun y=>?_) yo).1;rw[Kk,zU];rfl
theorem an6(yr yv:Vy)(e k:Int)(w:Int):uF Dk rX qC (Hs (vO yr) (vO yv) e w k (uJ (w,())).1 0)=true:=by
 rcases(vC w).2 with⟨W,rfl,hW,hm⟩|hm
 ·rw[hm];refine(GL (128 / W) (fun(y:Vy) i=>Hs (vO yr) (vO y) e (W:Int) k ((128 / W:Nat):Int) (i:Int)) (fun y=>cV (tV [i64]) (vO y) (cV [i64] (vO yr) (e,()))) (fun y i hi=>?_) (fun y=>?_) yv).1
  ·rw[Kj,MX hi,AK hW hi,avj,AL y hW hi,Ce (N16 hW hi)];cases decide (k=2)with
   |true=>exact⟨cV [] (pX (vO y) (W:Int) (i:Int) (cI .u64 (m54 (gX (vO y) (W:Int) (i:Int),())).1)) (),rfl⟩
   |false=>
    cases decide (k=1)with
    |true=>exact⟨cV [] (pX (vO y) (W:Int) (i:Int) (So .u64 (gX (vO y) (W:Int) (i:Int)))) (),rfl⟩
    |false=>
     cases decide ((sw (sX (vO y) (W:Int) (i:Int))).1<0)with
     |true=>exact⟨cV [] (pX (vO y) (W:Int) (i:Int) (So .u64 (gX (vO y) (W:Int) (i:Int)))) (),rfl⟩
     |false=>exact⟨cV [] (pX (vO y) (W:Int) (i:Int) (gX (vO y) (W:Int) (i:Int))) (),rfl⟩
  ·rw[Kj,zU];rfl
 ·rw[hm];refine(GL 0 (fun(y:Vy) i=>Hs (vO yr) (vO y) e w k ((0:Nat):Int) (i:Int)) (fun y=>cV (tV [i64]) (vO y) (cV [i64] (vO yr) (e,()))) (fun y i hi=>absurd hi (Nat.not_lt_zero _)) (fun y=>?_) yv).1;rw[Kj,zU];rfl
theorem an7(yr yv:Vy)(e k:Int)(w q:Int)(hq:0<=q):uF Di rW qB (Kh (vO yr) (vO yv) e w k (uJ (w,())).1 0 q)=true:=by
 have h0:decide (0<=q)=true:=dt hq
 rcases(vC w).2 with⟨W,rfl,hW,hm⟩|hm
 ·rw[hm];refine(GL (128 / W) (fun(y:Vy) i=>Kh (vO yr) (vO y) e (W:Int) k ((128 / W:Nat):Int) (i:Int) q) (fun y=>cV (tV [i64]) (vO y) (cV [i64] (vO yr) (e,()))) (fun y i hi=>?_) (fun y=>?_) yv).1
  ·rw[Ki,MX hi,AK hW hi,h0,AL y hW hi,Ce (N16 hW hi)];cases decide (k=11)with
   |true=>exact⟨cV [] (pX (vO y) (W:Int) (i:Int) (FD .u64 (gX (vO y) (W:Int) (i:Int)) q)) (),rfl⟩
   |false=>
    cases decide (k=12)with
    |true=>exact⟨cV [] (pX (vO y) (W:Int) (i:Int) (cI .u64 (qR .i64 (sw (sX (vO y) (W:Int) (i:Int))).1 q))) (),rfl⟩
    |false=>exact⟨cV [] (pX (vO y) (W:Int) (i:Int) (qR .u64 (gX (vO y) (W:Int) (i:Int)) q)) (),rfl⟩
  ·rw[Ki,zU];rfl
 ·rw[hm];refine(GL 0 (fun(y:Vy) i=>Kh (vO yr) (vO y) e w k ((0:Nat):Int) (i:Int) q) (fun y=>cV (tV [i64]) (vO y) (cV [i64] (vO yr) (e,()))) (fun y i hi=>absurd hi (Nat.not_lt_zero _)) (fun y=>?_) yv).1;rw[Ki,zU];rfl
theorem an8(yv:Vy)(r4 e5 k6 m8 a9:Int)(w:Int):uF AJ rr pE (GK (vO yv) r4 e5 k6 w m8 a9 (uJ (w,())).1 0)=true:=by
 rcases(vC w).2 with⟨W,rfl,hW,hm⟩|hm
 ·rw[hm];refine(GL (128 / W) (fun(y:Int×Int) i=>GK (vO yv) r4 e5 k6 (W:Int) y.1 y.2 ((128 / W:Nat):Int) (i:Int)) (fun y=>(r4,e5,k6,y.1,y.2,())) (fun y i hi=>?_) (fun y=>?_) (m8,a9)).1
  ·rw[Km,MX hi,AK hW hi,AL yv hW hi,Ce (N16 hW hi),show decide ((0:Int)<=(i:Int))=true from dt (Int.natCast_nonneg _)];cases decide ((sw (sX (vO yv) (W:Int) (i:Int))).1<0)with
   |true=>
    cases decide (gX (vO yv) (W:Int) (i:Int)=0)with
    |true=>exact⟨(Cw .u32 y.1 (FD .u32 1 (i:Int)),0),rfl⟩
    |false=>exact⟨(Cw .u32 y.1 (FD .u32 1 (i:Int)),y.2),rfl⟩
   |false=>
    cases decide (gX (vO yv) (W:Int) (i:Int)=0)with
    |true=>exact⟨(y.1,0),rfl⟩
    |false=>exact⟨(y.1,y.2),rfl⟩
  ·rw[Km,zU];rfl
 ·rw[hm];refine(GL 0 (fun(y:Int×Int) i=>GK (vO yv) r4 e5 k6 w y.1 y.2 ((0:Nat):Int) (i:Int)) (fun y=>(r4,e5,k6,y.1,y.2,())) (fun y i hi=>absurd hi (Nat.not_lt_zero _)) (fun y=>?_) (m8,a9)).1;rw[Km,zU];rfl
def Za:jJ:=kR (Ps [.ag pU,.n .i64,.n .i64]) [] (Ps [.n .i64]) GF GG fun x=>.ck (qe x.2.2.2.2.2.2.2.2.2.2.2.2.2.2.2.2.1 x.2.2.2.2.2.2.2.2.2.2.2.2.2.2.2.2.2.1) (.ok (sw x))
theorem avl{w i:Int}(h:qe w i=true): ∃ W I:Nat,w=W/\i=I/\Wq W/\I<128 / W:=by
 unfold qe at h;simp only[Bool.or_eq_true,Bool.and_eq_true,decide_eq_true_eq]at h
 rcases h with⟨rfl,h1,h2⟩|⟨rfl,h1,h2⟩|⟨rfl,h1,h2⟩|⟨rfl,h1,h2⟩
 ·exact⟨8,i.toNat,rfl,by omega,.inl rfl,by show i.toNat<16;omega⟩
 ·exact⟨16,i.toNat,rfl,by omega,.inr (.inl rfl),by show i.toNat<8;omega⟩
 ·exact⟨32,i.toNat,rfl,by omega,.inr (.inr (.inl rfl)),by show i.toNat<4;omega⟩
 ·exact⟨64,i.toNat,rfl,by omega,.inr (.inr (.inr rfl)),by show i.toNat<2;omega⟩
theorem an9{w i:Int}(y:Vy)(h:qe w i=true):B8 (sX (vO y) w i)=true:=by
 obtain⟨W,I,rfl,rfl,hW,hI⟩:=avl h;have e:=ajs y (W:Int) (I:Int);obtain⟨q1,q2⟩:=an1 hW
 have hs:jF .i64 64 (W:Int)=((64 - W:Nat):Int):=by rcases hW with rfl|rfl|rfl|rfl<;>kernel_rfl
 have hn:decide (((128 / W:Nat):Int)=0)=false:=by rcases hW with rfl|rfl|rfl|rfl<;>rfl
 have h0:decide ((0:Int)<=((64 - W:Nat):Int))=true:=decide_eq_true (by omega);rw[q1,q2]at e;dsimp only at e;rw[hn,h,hs,h0]at e;exact(lH (cf _) (cf _) (k:=B8 (sX (vO y) W I)) (m:=sw (sX (vO y) W I)) e).1
theorem MY{cb:cx}(W:Vd.World cb):Za.Ok 80 cb:=by
 refine oG (zd W) ?_;rintro⟨a0,a1,a2,a3,a4,a5,a6,a7,a8,a9,aa,ab,ac,ad,ae,af,w,i,⟨⟩⟩ y h;obtain⟨h1,h⟩:=Lf.T.cw h;cases h;have e:=an9 (a0,a1,a2,a3,a4,a5,a6,a7,a8,a9,aa,ab,ac,ad,ae,af,()) (w:=w) (i:=i) h1;have e:B8 (a0,a1,a2,a3,a4,a5,a6,a7,a8,a9,aa,ab,ac,ad,ae,af,w,i,())=true:=e;show(Lf.T.ck (B8 (a0,a1,a2,a3,a4,a5,a6,a7,a8,a9,aa,ab,ac,ad,ae,af,w,i,())) (.ok (sw (a0,a1,a2,a3,a4,a5,a6,a7,a8,a9,aa,ab,ac,ad,ae,af,w,i,())))).val=_;rw[e];rfl
def eWd:List (Nat×jJ):=[(37,J9),(42,MO),(80,Za)]
theorem Zb{cb:cx}(W:Vd.World cb):j1 cb eWd:=.cons (u0 W) (.cons (xn W) (.cons (MY W) .nil))
abbrev MZ:List Ty:=i64::tV []
abbrev lA:List Ty:=tV [i64]
def t155(x:ca MZ):Lf.T (List Pl):=mN (Ps [.n .i64,.ag pU]) [] (Ps [.tu (Ps [.ag pU,.n .i64])]) (fun _=>none) Tryz.x70 40 (j7 eWd 40) (cg MZ x)
def xp(x:ca MZ):Bool:=j5 (mf lA (t155 x))
def vD(x:ca MZ):ca lA:=j5 (j9 lA (t155 x))
def avm:jJ:=kR (Ps [.n .i64,.ag pU]) [] (Ps [.tu (Ps [.ag pU,.n .i64])]) MZ lA fun x=>.ck (xp x) (.ok (vD x))
theorem afo{cb:cx}(W:Vd.World cb):avm.Ok 70 cb:=
 jP (W.in (Zb W) 40) (W.st 70 _ rfl) rfl (cp _) (m:=40) rfl (fun _=>cf _) (fun _=>cf _)
abbrev M3:List Ty:=i64::tV (tV [])
def t159(x:ca M3):Lf.T (List Pl):=mN (Ps [.n .i64,.ag pU,.ag pU]) [] (Ps [.tu (Ps [.ag pU,.n .i64])]) (fun _=>none) Tryz.x74 40 (j7 eWd 40) (cg M3 x)
def vE(x:ca M3):Bool:=j5 (mf lA (t159 x))
def ui(x:ca M3):ca lA:=j5 (j9 lA (t159 x))
def avn:jJ:=kR (Ps [.n .i64,.ag pU,.ag pU]) [] (Ps [.tu (Ps [.ag pU,.n .i64])]) M3 lA fun x=>.ck (vE x) (.ok (ui x))
theorem afp{cb:cx}(W:Vd.World cb):avn.Ok 74 cb:=
 jP (W.in (Zb W) 40) (W.st 74 _ rfl) rfl (cp _) (m:=40) rfl (fun _=>cf _) (fun _=>cf _)
def ckN{α:Type}:List Bool->Option α->Option α
 | [],x=>x
 |c::l,x=>cy c (ckN l x)
def goW(W:Int)(C:Nat->Vy->List Bool)(X:Nat->Int):Nat->Nat->Vy->Option (List Pl)
 |0,_,o=>some (cg lA (cV [i64] (vO o) (0,())))
 |f+1,i,o=>ckN (C i o) (goW W C X f (i+1) (cV [] (pX (vO o) W (i:Int) (X i)) ()))
abbrev zV:Vy:=cV [] rZ ()
def sgW(y:Vy)(w i:Int):Int:=(sw (sX (vO y) w i)).1
def exX(y:Vy)(w:Nat)(sd:Bool)(b i:Nat):Int:=bif sd then cI .u64 (sgW y (w:Int) ((i+b*(64 / w):Nat):Int))else gX (vO y) (w:Int) ((i+b*(64 / w):Nat):Int)
def ckE(i:Nat)(o:Vy):List Bool:=bif Nat.beq i 0 then []else [kb (vO o)]
def adX(y:Vy)(w:Nat)(sd:Bool)(i:Nat):Int:=bif sd then cI .u64 (jR .i64 (sgW y (w:Int) ((2*i:Nat):Int)) (sgW y (w:Int) ((2*i+1:Nat):Int)))else jR .u64 (gX (vO y) (w:Int) ((2*i:Nat):Int)) (gX (vO y) (w:Int) ((2*i+1:Nat):Int))
def UnP(op:Int)(W N:Nat)(C:Vy->Nat->Vy->List Bool)(X:Vy->Nat->Int):Prop:= ∀ y:Vy,(t155 (op,y)).val=goW (W:Int) (C y) (X y) N 0 zV
def BnP(op:Int)(W N:Nat)(C:Vy->Vy->Nat->Vy->List Bool)(X:Vy->Vy->Nat->Int):Prop:= ∀ a b:Vy,(t159 (op,cV (tV []) (vO a) (cV [] (vO b) ()))).val=goW (W:Int) (C a b) (X a b) N 0 zV
def aBV(a b:Vy)(i:Nat):Int:=cI .u64 (min (qR .i64 (jR .i64 (V0 .i64 (sgW a 16 (i:Int)) (sgW b 16 (i:Int))) 16384) 15) 32767)
def aBW(a b:Vy)(i:Nat):Int:=cI .u64 (jR .i64 (V0 .i64 (sgW a 16 ((2*i:Nat):Int)) (sgW b 16 ((2*i:Nat):Int))) (V0 .i64 (sgW a 16 ((2*i+1:Nat):Int)) (sgW b 16 ((2*i+1:Nat):Int))))
def goN(w:Nat)(X Y:Nat->Int):Nat->Nat->Vy->Option (List Pl)
 |0,_,o=>some (cg lA (cV [i64] (vO o) (0,())))
 |f+1,i,o=>ckN (ckE i o) (let o1:Vy:=cV [] (pX (vO o) (w:Int) (i:Int) (X i)) ();ckN [kb (vO o1)] (goN w X Y f (i+1) (cV [] (pX (vO o1) (w:Int) ((64 / w+i:Nat):Int) (Y i)) ())))
def naX(y:Vy)(w:Nat)(lo hi:Int)(i:Nat):Int:=cI .u64 (min (max (sgW y ((2*w:Nat):Int) (i:Int)) lo) hi)
def NaP(op:Int)(w:Nat)(lo hi:Int):Prop:= ∀ a b:Vy,(t159 (op,cV (tV []) (vO a) (cV [] (vO b) ()))).val=goN w (naX a w lo hi) (naX b w lo hi) (64 / w) 0 zV
abbrev ru:List Ty:=tV (tV (tV (tV [i64])))
abbrev tw:List Ty:=tV (tV [])
def Kn:qV:=⟨0,mV Tryz.x66.code 0,[2,4,5,8,9],(Ps [.pt 0 pU,.pt 0 pU,.pt 0 pU,.ag pU,.n .i64]),[⟨.s7,[4,5],(Ps [.pt 0 pU,.pt 0 pU])⟩]⟩
def AM:List Pl->Lf.T Rs:=Kn.step (fun _=>none) (j7 [] 3) 3
def Zc:mB:=vY Kn AM ru tw
theorem TQ{cb:cx}(W:Vd.World cb):lE Rx.w Zc (fun n d=>nO (cb n d) n (.bl 0 (.lp Kn.body))):=mg (W.in .nil 3) (cp _) (m:=3) ru tw
def aBX:Nat->Option mB:=vF [(0,Zc)]
def brF{β:Type}(n:Int)(F:Nat->Option β):Nat->Nat->Option β
 |0,_=>none
 |f+1,j=>bif Nat.beq f 0 then cy (decide (n=Int.ofNat j)) (F j)else bif decide (n=Int.ofNat j)then F j else brF n F f (j+1)
abbrev Po(a r v b:Nat->Int)(i:Int):ca ru:=cV (tV (tV (tV [i64]))) a (cV (tV (tV [i64])) r (cV (tV [i64]) v (cV [i64] b (i,()))))
def TT(v:Nat->Int)(m:Nat)(x:Int):Nat->Int:=fun j=>bif Nat.beq j m then x else v j
def Pp(b:Nat->Int):List Int:=[b 0,b 1,b 2,b 3,b 4,b 5,b 6,b 7,b 8,b 9,b 10,b 11,b 12,b 13,b 14,b 15]
theorem Q1(ya yr yv yb:ca (tV []))(i:Int):Tw ru tw [] (AM (cg ru (Po (vO ya) (vO yr) (vO yv) (vO yb) i)))=bif decide (i<16)then
 cy (jA i 16) (bif decide ((Pp (vO yb)).getD i.toNat 0<16)then brF ((Pp (vO yb)).getD i.toNat 0) (fun j=>brF i (fun m=>some (.nx (Po (vO ya) (vO yr) (TT (vO yv) m (vO ya j)) (vO yb) (jR .i64 i 1)))) 16 0) 16 0
  else some (.nx (Po (vO ya) (vO yr) (vO yv) (vO yb) (jR .i64 i 1))))
 else some (.o0 (cV (tV []) (vO yr) (cV [] (vO yv) ()))):=by kernel_rfl
abbrev kM:List Ty:=tV (tV (tV (tV (tV [i64]))))
abbrev oH:List Ty:=tV (tV [])
abbrev oI:List Ty:=tV [i64]
def Ko:qV:=⟨0,mV Tryz.x64.code 0,[4,5,6,8,11,12],(Ps [.pt 0 pU,.pt 0 pU,.pt 0 pU,.pt 0 pU,.ag pU,.n .i64]),[⟨.s7,[6,8],(Ps [.pt 0 pU,.pt 0 pU])⟩,⟨.rt,[6,7],(Ps [.pt 0 pU,.n .i64])⟩]⟩
def pf:List Pl->Lf.T Rs:=Ko.step (fun _=>none) (j7 [] 3) 3
def Zd:mB:=F9 Ko pf kM oH oI
theorem TW{cb:cx}(W:Vd.World cb):lE Rx.w Zd (fun n d=>nO (cb n d) n (.bl 0 (.lp Ko.body))):=rR (W.in .nil 3) (cp _) (m:=3) kM oH oI
def aBY:Nat->Option mB:=vF [(0,Zd)]
abbrev zw(a b r v s:Nat->Int)(i:Int):ca kM:=cV (tV (tV (tV (tV [i64])))) a (cV (tV (tV (tV [i64]))) b (cV (tV (tV [i64])) r (cV (tV [i64]) v (cV [i64] s (i,())))))
theorem Q2(ya yb yr yv ys:ca (tV []))(i:Int):Tw kM oH oI (pf (cg kM (zw (vO ya) (vO yb) (vO yr) (vO yv) (vO ys) i)))=bif decide (i<16)then
 cy (jA i 16) (bif decide (32<=(Pp (vO ys)).getD i.toNat 0)then some (.o1 (cV [i64] rZ (1,())))
  else bif decide (16<=(Pp (vO ys)).getD i.toNat 0)then brF (jF .u8 ((Pp (vO ys)).getD i.toNat 0) 16) (fun j=>brF i (fun m=>some (.nx (zw (vO ya) (vO yb) (vO yr) (TT (vO yv) m (vO yb j)) (vO ys) (jR .i64 i 1)))) 16 0) 16 0
  else brF ((Pp (vO ys)).getD i.toNat 0) (fun j=>brF i (fun m=>some (.nx (zw (vO ya) (vO yb) (vO yr) (TT (vO yv) m (vO ya j)) (vO ys) (jR .i64 i 1)))) 16 0) 16 0)
 else some (.o0 (cV (tV []) (vO yr) (cV [] (vO yv) ()))):=by kernel_rfl
end Go.Proofs.Vv
