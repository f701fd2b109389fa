import Derived.Test.YtjeanplhkkpdmaaGreatDoorVvI
noncomputable section
namespace Go.Proofs.Vv
open Go.Ab Go.Ab.Lf Go.Proofs.Vd
set_option maxRecDepth 100000
theorem AN{β:Type}{F:Nat->Option β}{k:Nat}: ∀ (f j:Nat),j<=k->k<j+f->brF (k:Int) F f j=F k
 |0,j,h1,h2=>by omega
 |f+1,j,h1,h2=>by
  show(bif Nat.beq f 0 then cy (decide ((k:Int)=Int.ofNat j)) (F j)else bif decide ((k:Int)=Int.ofNat j)then F j else brF (k:Int) F f (j+1))=_;by_cases e:k=j
  ·subst e;rw[show decide ((k:Int)=Int.ofNat k)=true from decide_eq_true rfl];cases Nat.beq f 0<;>rfl
  ·have h0:Nat.beq f 0=false:=by
    cases hf:Nat.beq f 0 with
    |false=>rfl
    |true=>have:=Nat.eq_of_beq_eq_true hf;omega
   rw[h0,show decide ((k:Int)=Int.ofNat j)=false from decide_eq_false (fun q=>e (Int.ofNat.inj q)),cond_false,cond_false];exact AN f (j+1) (by omega) (by omega)
theorem M6(v:Nat->Int){i:Nat}(h:i<16):(Pp v).getD i 0=v i:=by
 match i,h with
 |0,_=>rfl|1,_=>rfl|2,_=>rfl|3,_=>rfl|4,_=>rfl|5,_=>rfl|6,_=>rfl|7,_=>rfl
 |8,_=>rfl|9,_=>rfl|10,_=>rfl|11,_=>rfl|12,_=>rfl|13,_=>rfl|14,_=>rfl|15,_=>rfl
 | _+16,h=>exact absurd h (by omega)
theorem avt{i:Nat}(h:i<16):jA (i:Int) 16=true:=by
 unfold jA;rw[decide_eq_true (show(0:Int)<=(i:Int) by omega),decide_eq_true (show(i:Int)<16 by omega)];rfl
def t151(x:ca (tV (tV []))):Lf.T (List Pl):=mN (Ps [.ag pU,.ag pU]) [] (Ps [.ag pU]) aBX Tryz.x66 3 (j7 [] 3) (cg (tV (tV [])) x)
def Zh(x:ca (tV (tV []))):Bool:=j5 (mf (tV []) (t151 x))
def TX(x:ca (tV (tV []))):ca (tV []):=j5 (j9 (tV []) (t151 x))
def avu:jJ:=kR (Ps [.ag pU,.ag pU]) [] (Ps [.ag pU]) (tV (tV [])) (tV []) fun x=>.ck (Zh x) (.ok (TX x))
theorem afu{cb:cx}(W:Vd.World cb):avu.Ok 66 cb:=
 jP (W.in .nil 3) (W.st 66 _ rfl) rfl (mz.pH (.cons (b:=Kn.body) (by kernel_rfl) (TQ W) .nil)) (m:=3) rfl (fun _=>cf _) (fun _=>cf _)
theorem avv(ya yb:Vy)(x:ca ru)(hx:x=Po (vO ya) rZ rZ (vO yb) 0)(y:ca tw)(hy:y=qb AM ru tw x):(t151 (cV (tV []) (vO ya) (cV [] (vO yb) ()))).val=cy (uF AM ru tw x) (some (cg (tV []) (y.2.2.2.2.2.2.2.2.2.2.2.2.2.2.2.2:ca (tV [])))):=by
 subst hy;subst hx
 kernel_rfl
def t148(x:ca (tV (tV (tV [])))):Lf.T (List Pl):=mN (Ps [.ag pU,.ag pU,.ag pU]) [] (Ps [.tu (Ps [.ag pU,.n .i64])]) aBY Tryz.x64 3 (j7 [] 3) (cg (tV (tV (tV []))) x)
def M7(x:ca (tV (tV (tV [])))):Bool:=j5 (mf lA (t148 x))
def Ht(x:ca (tV (tV (tV [])))):ca lA:=j5 (j9 lA (t148 x))
def avw:jJ:=kR (Ps [.ag pU,.ag pU,.ag pU]) [] (Ps [.tu (Ps [.ag pU,.n .i64])]) (tV (tV (tV []))) lA fun x=>.ck (M7 x) (.ok (Ht x))
theorem afv{cb:cx}(W:Vd.World cb):avw.Ok 64 cb:=
 jP (W.in .nil 3) (W.st 64 _ rfl) rfl (mz.pH (.cons (b:=Ko.body) (by kernel_rfl) (TW W) .nil)) (m:=3) rfl (fun _=>cf _) (fun _=>cf _)
theorem avx(ys ya yb:Vy)(x:ca kM)(hx:x=zw (vO ya) (vO yb) rZ rZ (vO ys) 0)(y:ca oH)(hy:y=qb pf kM oH x)(z:ca oI)(hz:z=qb pf kM oI x):
 (t148 (cV (tV (tV [])) (vO ys) (cV (tV []) (vO ya) (cV [] (vO yb) ())))).val=cy (GU pf kM oH oI x) (bif Ez pf kM x then some (cg lA (cV [i64] (vO (y.2.2.2.2.2.2.2.2.2.2.2.2.2.2.2.2:ca (tV []))) (0,())))else some (cg lA z)):=by
 subst hy;subst hx;subst hz
 kernel_rfl
def ByI(y:Nat->Int):Prop:= ∀ m,m<16->0<=y m/\y m<256
theorem Zi(v:Nat->Int){m:Nat}(h:m<16):vO (cV [] v ()) m=v m:=by
 match m,h with
 |0,_=>rfl|1,_=>rfl|2,_=>rfl|3,_=>rfl|4,_=>rfl|5,_=>rfl|6,_=>rfl|7,_=>rfl
 |8,_=>rfl|9,_=>rfl|10,_=>rfl|11,_=>rfl|12,_=>rfl|13,_=>rfl|14,_=>rfl|15,_=>rfl
 | _+16,h=>exact absurd h (by omega)
theorem aB3(ya yb:Vy)(hb:ByI (vO yb)): ∃ y:Vy,Zh (cV (tV []) (vO ya) (cV [] (vO yb) ()))=true/\TX (cV (tV []) (vO ya) (cV [] (vO yb) ()))=cV [] (vO y) ():=by
 obtain⟨h1,y',h2⟩:=GL (f:=AM) (ti:=ru) (to:=tw) 16 (fun(y:Vy) i=>Po (vO ya) (vO zV) (vO y) (vO yb) (i:Int)) (fun y=>cV (tV []) (vO zV) (cV [] (vO y) ())) (fun y i hi=>by
  have e:=Q1 ya zV y yb (i:Int);rw[show decide ((i:Int)<16)=true from dt (by omega),avt hi,Int.toNat_natCast,M6 _ hi]at e;obtain⟨b0,b1⟩:=hb i hi;cases h:decide (vO yb i<16)with
  |false=>
   rw[h,Ce (by omega)]at e;exact⟨y,e⟩
  |true=>
   have h':vO yb i<16:=of_decide_eq_true h
   obtain⟨n,hn⟩: ∃ n:Nat,vO yb i=(n:Int):=⟨(vO yb i).toNat,by omega⟩
   rw[h,hn,Ce (by omega),AN 16 0 (Nat.zero_le _) (by omega),AN 16 0 (Nat.zero_le _) (by omega)]at e;exact⟨cV [] (TT (vO y) i (vO ya n)) (),e⟩) (fun y=>by
  have e:=Q1 ya zV y yb (16:Int);rw[show decide ((16:Int)<16)=false from rfl]at e
  exact e) zV
 have e:=avv ya yb _ rfl _ rfl;have h1:uF AM ru tw (Po (vO ya) rZ rZ (vO yb) 0)=true:=h1;have h2:qb AM ru tw (Po (vO ya) rZ rZ (vO yb) 0)=cV (tV []) (vO zV) (cV [] (vO y') ()):=h2;rw[h1,h2]at e;obtain⟨a,b⟩:=lH (cf _) (cf _) (k:=Zh (cV (tV []) (vO ya) (cV [] (vO yb) ()))) (m:=TX (cV (tV []) (vO ya) (cV [] (vO yb) ()))) (y:=cV [] (vO y') ()) e;exact⟨y',a,b⟩
theorem avy(ys ya yb:Vy)(hs:ByI (vO ys)):
 ((∀ j,j<16->vO ys j<32)-> ∃ y:Vy,M7 (cV (tV (tV [])) (vO ys) (cV (tV []) (vO ya) (cV [] (vO yb) ())))=true/\Ht (cV (tV (tV [])) (vO ys) (cV (tV []) (vO ya) (cV [] (vO yb) ())))=cV [i64] (vO y) (0,()))/\
 (¬ (∀ j,j<16->vO ys j<32)->M7 (cV (tV (tV [])) (vO ys) (cV (tV []) (vO ya) (cV [] (vO yb) ())))=true/\Ht (cV (tV (tV [])) (vO ys) (cV (tV []) (vO ya) (cV [] (vO yb) ())))=cV [i64] (vO zV) (1,())):=by
 have key: ∀ d i (y:Vy),i+d=16->((∀ j,i<=j->j<16->vO ys j<32)-> ∃ y':Vy,oU pf (cg kM (zw (vO ya) (vO yb) rZ (vO y) (vO ys) (i:Int))) 0 (cg oH (cV (tV []) rZ (cV [] (vO y') ()))))/\
  (¬ (∀ j,i<=j->j<16->vO ys j<32)->oU pf (cg kM (zw (vO ya) (vO yb) rZ (vO y) (vO ys) (i:Int))) 1 (cg oI (cV [i64] rZ (1,())))):=by
  intro d
  induction d with
  |zero=>
   intro i y hi
   obtain rfl:i=16:=by omega
   have e:Tw kM oH oI (pf (cg kM (zw (vO ya) (vO yb) rZ (vO y) (vO ys) ((16:Nat):Int))))=some (.o0 (cV (tV []) rZ (cV [] (vO y) ()))):=Q2 ya yb zV y ys (16:Int);exact⟨fun _=>⟨y,.last (Dg e)⟩,fun h=>absurd (fun j h1 h2=>by omega) h⟩
  |succ d ih=>
   intro i y hi
   have afw:i<16:=by omega
   have e:=Q2 ya yb zV y ys (i:Int);rw[show decide ((i:Int)<16)=true from dt (by omega),avt afw,Int.toNat_natCast,M6 _ afw]at e;obtain⟨b0,b1⟩:=hs i afw;by_cases h32:32<=vO ys i
   ·rw[dt h32]at e;refine⟨fun h=>absurd (h i (Nat.le_refl _) afw) (by omega),fun _=>.last (Dg (e:Tw kM oH oI (pf (cg kM (zw (vO ya) (vO yb) rZ (vO y) (vO ys) (i:Int))))=some (.o1 (cV [i64] rZ (1,())))))⟩
   ·have st: ∃ y1:Vy,Tw kM oH oI (pf (cg kM (zw (vO ya) (vO yb) rZ (vO y) (vO ys) (i:Int))))=some (.nx (zw (vO ya) (vO yb) rZ (vO y1) (vO ys) ((i+1:Nat):Int))):=by
     obtain⟨n,hn⟩: ∃ n:Nat,vO ys i=(n:Int):=⟨(vO ys i).toNat,by omega⟩
     rw[df h32,hn]at e
     by_cases h16:(16:Int)<=(n:Int)
     ·have Wn:jF .u8 (n:Int) 16=((n - 16:Nat):Int):=by
       show Int.emod ((n:Int) - 16) 256=_;refine(Int.emod_eq_of_lt (by omega) (by omega)).trans (by omega)
      rw[dt h16,Wn,Ce (by omega),cond_false,cond_true,cond_true,AN 16 0 (Nat.zero_le _) (by omega),AN 16 0 (Nat.zero_le _) (by omega)]at e;exact⟨cV [] (TT (vO y) i (vO yb (n - 16))) (),e⟩
     ·rw[df h16,Ce (by omega),cond_false,cond_false,cond_true,AN 16 0 (Nat.zero_le _) (by omega),AN 16 0 (Nat.zero_le _) (by omega)]at e;exact⟨cV [] (TT (vO y) i (vO ya n)) (),e⟩
    obtain⟨y1,s1⟩:=st;obtain⟨a,b⟩:=ih (i+1) y1 (by omega);refine⟨fun h=>?_,fun h=>.more (Dg s1) (b fun k=>h fun j h1 h2=>?_)⟩
    ·obtain⟨y2,r⟩:=a fun j h1 h2=>h j (by omega) h2
     exact⟨y2,.more (Dg s1) r⟩
    ·by_cases q:j=i
     ·subst q;omega
     ·exact k j (by omega) h2
 obtain⟨a,b⟩:=key 16 0 zV rfl;have e:=avx ys ya yb _ rfl _ rfl _ rfl;refine⟨fun h=>?_,fun h=>?_⟩
 ·obtain⟨y,r⟩:=a fun j _=>h j
  obtain⟨h1,h2,h3⟩:=JF (t1:=oI) r;have h1:GU pf kM oH oI (zw (vO ya) (vO yb) rZ rZ (vO ys) 0)=true:=h1;have h2:Ez pf kM (zw (vO ya) (vO yb) rZ rZ (vO ys) 0)=true:=h2;have h3:qb pf kM oH (zw (vO ya) (vO yb) rZ rZ (vO ys) 0)=cV (tV []) rZ (cV [] (vO y) ()):=h3;rw[h1,h2,h3]at e;obtain⟨q1,q2⟩:=lH (cf _) (cf _) (k:=M7 (cV (tV (tV [])) (vO ys) (cV (tV []) (vO ya) (cV [] (vO yb) ())))) (m:=Ht (cV (tV (tV [])) (vO ys) (cV (tV []) (vO ya) (cV [] (vO yb) ())))) (y:=cV [i64] (vO y) (0,())) e;exact⟨y,q1,q2⟩
 ·obtain⟨h1,h2,h3⟩:=OM (t0:=oH) (b fun k=>h fun j hj=>k j (Nat.zero_le _) hj);have h1:GU pf kM oH oI (zw (vO ya) (vO yb) rZ rZ (vO ys) 0)=true:=h1;have h2:Ez pf kM (zw (vO ya) (vO yb) rZ rZ (vO ys) 0)=false:=h2;have h3:qb pf kM oI (zw (vO ya) (vO yb) rZ rZ (vO ys) 0)=cV [i64] rZ (1,()):=h3;rw[h1,h2,h3]at e;exact lH (cf _) (cf _) (k:=M7 (cV (tV (tV [])) (vO ys) (cV (tV []) (vO ya) (cV [] (vO yb) ())))) (m:=Ht (cV (tV (tV [])) (vO ys) (cV (tV []) (vO ya) (cV [] (vO yb) ())))) (y:=cV [i64] (vO zV) (1,())) e
end Go.Proofs.Vv
noncomputable section
namespace Go.Proofs.Vv
open Go.Ab Go.Ab.Lf Go.Proofs.Vd
set_option maxRecDepth 1000000
abbrev cN(a b:Int):Nat->Int:=fun m=>bif Nat.blt m 8 then cI .u8 (qR .u64 a (Int.ofNat (8*m)))else cI .u8 (qR .u64 b (Int.ofNat (8*(m - 8))))
abbrev zW(y:ca (tV [i64])):Vy:=(mF y (y.2.2.2.2.2.2.2.2.2.2.2.1,y.2.2.2.2.2.2.2.2.2.2.2.2.1,y.2.2.2.2.2.2.2.2.2.2.2.2.2.1,y.2.2.2.2.2.2.2.2.2.2.2.2.2.2.1,y.2.2.2.2.2.2.2.2.2.2.2.2.2.2.2.1,()))
abbrev GV(y:ca (tV [i64])):Int:=y.2.2.2.2.2.2.2.2.2.2.2.2.2.2.2.2.1
abbrev rF:List Ty:=[i64,i64,i64,u64,u64,.cq i64,.cq u64]
abbrev sx:List Ty:=[.cq u64,i64]
abbrev okD(l:List Int):Option (List Pl):=some (cg sx (l,0,()))
abbrev mK:Option (List Pl):=some (cg sx ([],1,()))
abbrev M8(v:Nat->Int):Option (List Pl):=okD [n6 v 0 8,n6 v 8 8]
abbrev vy(a b:Int):Vy:=cV [] (cN a b) ()
def wC:jJ:=⟨.nil,[],.nil,fun _=>.bad⟩
theorem mm{f:Nat}{cb:cx}:wC.Ok f cb:=fun _ _ _ _ _ _ _ h=>by cases h
def wlk{α:Type}:List Bool->Lf.T α->Lf.T α
 | [],t=>t
 |false::l,.br c x y=>wlk l (bif c then x else y)
 |true::l,.br _ _ y=>wlk l y
 | _::l,.ck _ y=>wlk l y
 | _::l,t=>wlk l t
def c88(I O:List Int)(op:Int):Bool:= @decide (zn op=true/\(kZ op).1=1/\(kZ op).2.2.2.1=I/\(kZ op).2.2.2.2.1=O) (Classical.propDecidable _)
def aod(I O:List Int):jJ:=kR (Ps [.n .i64]) [] (Ps [.tu (Ps [.ag (Ps [.n .i64,.n .i64,.bo,.im i64,.im i64]),.bo])]) [i64] o25 fun x=>.ck (c88 I O x.1) (.ok (1,(kZ x.1).2.1,(kZ x.1).2.2.1,I,O,true,()))
theorem Q4{cb:cx}(W:Vd.World cb)(I O:List Int):(aod I O).Ok 25 cb:=by
 refine oG (C6 W) fun x y h=>?_
 obtain⟨h1,h⟩:=Lf.T.cw h;cases h;obtain⟨f,a,d,e⟩:= @of_decide_eq_true _ (Classical.propDecidable _) h1;show some ((kZ x.1).1,(kZ x.1).2.1,(kZ x.1).2.2.1,(kZ x.1).2.2.2.1,(kZ x.1).2.2.2.2.1,zn x.1,())=_;rw[a,d,e,f]
abbrev tVc:Ty:=.pair u8 (.pair u8 (.pair u8 (.pair u8 (.pair u8 (.pair u8 (.pair u8 (.pair u8 (.pair u8 (.pair u8 (.pair u8 (.pair u8 (.pair u8 (.pair u8 (.pair u8 u8))))))))))))))
abbrev Zj:List Ty:=[i64,.cq tVc]
abbrev aju:List Ty:=tV [i64]
def t153(x:ca Zj):Lf.T (List Pl):=mN (Ps [.n .i64,.im tVc]) [] (Ps [.tu (Ps [pV,.n .i64])]) (fun _=>none) Tryz.x68 0 (j7 [] 0) (cg Zj x)
def Ec(op:Int):Bool:=bif decide (jF .i64 op 64768<77)then true else decide (82<jF .i64 op 64768)
theorem avA(op:Int)(vs:List (den tVc)):(t153 (op,vs,())).val=bif Ec op then some (cg aju (cV [i64] rZ (1,())))else(wlk [true] (t153 (op,vs,()))).val:=by kernel_rfl
def ajv:jJ:=kR (Ps [.n .i64,.im tVc]) [] (Ps [.tu (Ps [pV,.n .i64])]) Zj aju fun x=>.ck (Ec x.1) (.ok (cV [i64] rZ (1,())))
theorem Zk{cb:cx}(W:Vd.World cb):ajv.Ok 68 cb:=by
 refine j4 (W.in .nil 0) (W.st 68 _ rfl) rfl (cp _) (m:=0) rfl ?_;rintro⟨op,vs,⟨⟩⟩ y h;obtain⟨h1,h⟩:=Lf.T.cw h;cases h;have h1:Ec op=true:=h1;refine(avA op vs).trans ?_;rw[h1];rfl
def ajw(e:Int):jJ:=kR (Ps [.n .i64,.ag pU]) [] (Ps [.tu (Ps [.ag pU,.n .i64])]) Iy Cc fun x=>.ck (TK x) (.ck (decide (GV (GH x)=e)) (.ok (cV [i64] (vO (zW (GH x))) (e,()))))
theorem Zl{cb:cx}(W:Vd.World cb)(e:Int):(ajw e).Ok 69 cb:=by
 refine oG (afj W) fun x y h=>?_
 obtain⟨hk,h⟩:=Lf.T.cw h;obtain⟨h1,h⟩:=Lf.T.cw h;cases h;rw[<-of_decide_eq_true h1];show(Lf.T.ck (TK x) (.ok (GH x))).val=_;rw[hk];rfl
def ajx(e:Int):jJ:=kR (Ps [.n .i64,.ag pU,.n .u32]) [] (Ps [.tu (Ps [.ag pU,.n .i64])]) Ix Cb fun x=>.ck (TH x) (.ck (decide (GV (Dj x)=e)) (.ok (cV [i64] (vO (zW (Dj x))) (e,()))))
theorem Zm{cb:cx}(W:Vd.World cb)(e:Int):(ajx e).Ok 71 cb:=by
 refine oG (afh W) fun x y h=>?_
 obtain⟨hk,h⟩:=Lf.T.cw h;obtain⟨h1,h⟩:=Lf.T.cw h;cases h;rw[<-of_decide_eq_true h1];show(Lf.T.ck (TH x) (.ok (Dj x))).val=_;rw[hk];rfl
def ajy(e:Int):jJ:=kR (Ps [.n .i64,.ag pU,.ag pU]) [] (Ps [.tu (Ps [.ag pU,.n .i64])]) Iw B9 fun x=>.ck (MV x) (.ck (decide (GV (Ca x)=e)) (.ok (cV [i64] (vO (zW (Ca x))) (e,()))))
theorem Zn{cb:cx}(W:Vd.World cb)(e:Int):(ajy e).Ok 72 cb:=by
 refine oG (aff W) fun x y h=>?_
 obtain⟨hk,h⟩:=Lf.T.cw h;obtain⟨h1,h⟩:=Lf.T.cw h;cases h;rw[<-of_decide_eq_true h1];show(Lf.T.ck (MV x) (.ok (Ca x))).val=_;rw[hk];rfl
def ajz(e:Int):jJ:=kR (Ps [.n .i64,.ag pU,.ag pU]) [] (Ps [.tu (Ps [.ag pU,.n .i64])]) Iz Cd fun x=>.ck (TN x) (.ck (decide (GV (GJ x)=e)) (.ok (cV [i64] (vO (zW (GJ x))) (e,()))))
theorem Zo{cb:cx}(W:Vd.World cb)(e:Int):(ajz e).Ok 73 cb:=by
 refine oG (afl W) fun x y h=>?_
 obtain⟨hk,h⟩:=Lf.T.cw h;obtain⟨h1,h⟩:=Lf.T.cw h;cases h;rw[<-of_decide_eq_true h1];show(Lf.T.ck (TN x) (.ok (GJ x))).val=_;rw[hk];rfl
def ajA:jJ:=kR (Ps [.n .i64,.ag pU]) [] (Ps [.tu (Ps [.n .u32,.n .i64])]) IA wB fun x=>.ck (Eb x) (.ck (decide ((zu x).2.1=0)) (.ok ((zu x).1,0,())))
theorem Zp{cb:cx}(W:Vd.World cb):ajA.Ok 62 cb:=by
 refine oG (afn W) fun x y h=>?_
 obtain⟨hk,h⟩:=Lf.T.cw h;obtain⟨h1,h⟩:=Lf.T.cw h;cases h;rw[<-of_decide_eq_true h1];show(Lf.T.ck (Eb x) (.ok (zu x))).val=_;rw[hk];rfl
abbrev Cl:=List Int×List Int×Int×Bool
def e38(c:Cl):List (Nat×jJ):=bif c.2.2.2 then [(25,aod c.1 c.2.1),(62,wC),(63,wC),(64,wC),(65,wC),(66,wC),(67,wC),(69,wC),(70,wC),(71,wC),(72,wC),(73,wC),(74,wC)]else
 [(25,aod c.1 c.2.1),(62,ajA),(63,wC),(64,wC),(65,wC),(66,wC),(67,wC),(68,ajv),(69,ajw 0),(70,wC),(71,ajx 0),(72,ajy c.2.2.1),(73,ajz 0),(74,wC)]
theorem aoe{cb:cx}(W:Vd.World cb)(c:Cl):j1 cb (e38 c):=by
 obtain⟨I,O,e,b⟩:=c;cases b with
 |true=>exact(.cons (Q4 W I O) (.cons mm (.cons mm (.cons mm (.cons mm (.cons mm (.cons mm (.cons mm (.cons mm (.cons mm (.cons mm (.cons mm (.cons mm .nil)))))))))))))
 |false=>exact(.cons (Q4 W I O) (.cons (Zp W) (.cons mm (.cons mm (.cons mm (.cons mm (.cons mm (.cons (Zk W) (.cons (Zl W 0) (.cons mm (.cons (Zm W 0) (.cons (Zn W e) (.cons (Zo W 0) (.cons mm .nil))))))))))))))
def t38(c:Cl)(x:ca rF):Lf.T (List Pl):=mN (Ps [.ag (Ps [.n .i64,.n .i64,.n .i64,.n .u64,.n .u64,.im i64]),.im u64]) [] (Ps [.tu (Ps [.ow u64,.n .i64])]) (fun _=>none) Tryz.x7 20 (j7 (e38 c) 20) (cg rF x)
def k38(c:Cl)(x:ca rF):Bool:=j5 (mf sx (t38 c x))
def m38(c:Cl)(x:ca rF):ca sx:=j5 (j9 sx (t38 c x))
def s38(c:Cl):jJ:=kR (Ps [.ag (Ps [.n .i64,.n .i64,.n .i64,.n .u64,.n .u64,.im i64]),.im u64]) [] (Ps [.tu (Ps [.ow u64,.n .i64])]) rF sx fun x=>.ck (k38 c x) (.ok (m38 c x))
theorem As{cb:cx}(W:Vd.World cb)(c:Cl):(s38 c).Ok 7 cb:=
 jP (W.in (aoe W c) 20) (W.st 7 _ rfl) rfl (cp _) (m:=20) rfl (fun _=>cf _) (fun _=>cf _)
abbrev pre(I O:List Int)(op:Int)(r:Option (List Pl)):Option (List Pl):=cy (c88 I O op) (bif !(bif decide (64768<=op)then true else false)then mK else cy (c88 I O op) r)
abbrev made(op:Int)(r:Option (List Pl)):Option (List Pl):=bif decide (op=64782)then none else cy (Ec op) r
section
variable (op A B lo hi:Int)(L:List Int)(a b c d e:Int)
theorem afy:(t38 ([123,123],[123],0,false) (op,A,B,lo,hi,L,[],())).val=pre [123,123] [123] op mK:=by kernel_rfl
theorem afz:(t38 ([123,123],[123],0,false) (op,A,B,lo,hi,L,[a],())).val=pre [123,123] [123] op mK:=by kernel_rfl
theorem afA:(t38 ([123,123],[123],0,false) (op,A,B,lo,hi,L,[a,b],())).val=pre [123,123] [123] op mK:=by kernel_rfl
theorem afB:(t38 ([123,123],[123],0,false) (op,A,B,lo,hi,L,[a,b,c],())).val=pre [123,123] [123] op mK:=by kernel_rfl
theorem afC:(t38 ([123,123],[123],0,false) (op,A,B,lo,hi,L,[a,b,c,d,e],())).val=pre [123,123] [123] op mK:=by kernel_rfl
theorem afD:(t38 ([123,123],[123],1,false) (op,A,B,lo,hi,L,[],())).val=pre [123,123] [123] op mK:=by kernel_rfl
theorem afE:(t38 ([123,123],[123],1,false) (op,A,B,lo,hi,L,[a],())).val=pre [123,123] [123] op mK:=by kernel_rfl
theorem afF:(t38 ([123,123],[123],1,false) (op,A,B,lo,hi,L,[a,b],())).val=pre [123,123] [123] op mK:=by kernel_rfl
theorem afG:(t38 ([123,123],[123],1,false) (op,A,B,lo,hi,L,[a,b,c],())).val=pre [123,123] [123] op mK:=by kernel_rfl
theorem afH:(t38 ([123,123],[123],1,false) (op,A,B,lo,hi,L,[a,b,c,d,e],())).val=pre [123,123] [123] op mK:=by kernel_rfl
theorem aof:(t38 ([123],[123],0,false) (op,A,B,lo,hi,L,[],())).val=pre [123] [123] op mK:=by kernel_rfl
theorem aog:(t38 ([123],[123],0,false) (op,A,B,lo,hi,L,[a],())).val=pre [123] [123] op mK:=by kernel_rfl
theorem aoh:(t38 ([123],[123],0,false) (op,A,B,lo,hi,L,[a,b,c],())).val=pre [123] [123] op mK:=by kernel_rfl
theorem aoi:(t38 ([123],[123],0,false) (op,A,B,lo,hi,L,[a,b,c,d],())).val=pre [123] [123] op mK:=by kernel_rfl
theorem aoj:(t38 ([123],[123],0,false) (op,A,B,lo,hi,L,[a,b,c,d,e],())).val=pre [123] [123] op mK:=by kernel_rfl
theorem aok:(t38 ([123,127],[123],0,false) (op,A,B,lo,hi,L,[],())).val=pre [123,127] [123] op mK:=by kernel_rfl
theorem aol:(t38 ([123,127],[123],0,false) (op,A,B,lo,hi,L,[a],())).val=pre [123,127] [123] op mK:=by kernel_rfl
theorem aom:(t38 ([123,127],[123],0,false) (op,A,B,lo,hi,L,[a,b],())).val=pre [123,127] [123] op mK:=by kernel_rfl
theorem aon:(t38 ([123,127],[123],0,false) (op,A,B,lo,hi,L,[a,b,c,d],())).val=pre [123,127] [123] op mK:=by kernel_rfl
theorem aoo:(t38 ([123,127],[123],0,false) (op,A,B,lo,hi,L,[a,b,c,d,e],())).val=pre [123,127] [123] op mK:=by kernel_rfl
theorem aop:(t38 ([123],[127],0,false) (op,A,B,lo,hi,L,[],())).val=pre [123] [127] op mK:=by kernel_rfl
theorem aoq:(t38 ([123],[127],0,false) (op,A,B,lo,hi,L,[a],())).val=pre [123] [127] op mK:=by kernel_rfl
theorem aor:(t38 ([123],[127],0,false) (op,A,B,lo,hi,L,[a,b,c],())).val=pre [123] [127] op mK:=by kernel_rfl
theorem aos:(t38 ([123],[127],0,false) (op,A,B,lo,hi,L,[a,b,c,d],())).val=pre [123] [127] op mK:=by kernel_rfl
theorem aot:(t38 ([123],[127],0,false) (op,A,B,lo,hi,L,[a,b,c,d,e],())).val=pre [123] [127] op mK:=by kernel_rfl
theorem avB:(t38 ([123,123],[123],0,false) (op,A,B,lo,hi,L,[a,b,c,d],())).val=pre [123,123] [123] op (made op (
 cy (MV (op,cV (tV []) (cN a b) (cV [] (cN c d) ()))) (cy (decide (GV (Ca (op,cV (tV []) (cN a b) (cV [] (cN c d) ())))=0)) (M8 (vO (zW (Ca (op,cV (tV []) (cN a b) (cV [] (cN c d) ()))))))))):=by kernel_rfl
theorem avC:(t38 ([123,123],[123],1,false) (op,A,B,lo,hi,L,[a,b,c,d],())).val=pre [123,123] [123] op (made op (
 cy (MV (op,cV (tV []) (cN a b) (cV [] (cN c d) ()))) (cy (decide (GV (Ca (op,cV (tV []) (cN a b) (cV [] (cN c d) ())))=1)) (
 cy (TN (op,cV (tV []) (cN a b) (cV [] (cN c d) ()))) (cy (decide (GV (GJ (op,cV (tV []) (cN a b) (cV [] (cN c d) ())))=0)) (M8 (vO (zW (GJ (op,cV (tV []) (cN a b) (cV [] (cN c d) ()))))))))))):=by kernel_rfl
theorem aB4:(t38 ([123],[123],0,false) (op,A,B,lo,hi,L,[a,b],())).val=pre [123] [123] op (made op (
 cy (TK (op,cV [] (cN a b) ())) (cy (decide (GV (GH (op,cV [] (cN a b) ()))=0)) (M8 (vO (zW (GH (op,cV [] (cN a b) ())))))))):=by kernel_rfl
end
abbrev Q5(c:Int):Int:=cI .u32 (n6 (cN (wY .u64 c 4294967295) 0) 0 4)
section
variable (op A B lo hi:Int)(L:List Int)(a b c d e:Int)
theorem aB5:(t38 ([123,127],[123],0,false) (op,A,B,lo,hi,L,[a,b,c],())).val=pre [123,127] [123] op (made op (cy (decide (op=op)) (cy (kb (cN a b)) (
 cy (TH (op,cV [u32] (cN a b) (Q5 c,()))) (cy (decide (GV (Dj (op,cV [u32] (cN a b) (Q5 c,())))=0)) (M8 (vO (zW (Dj (op,cV [u32] (cN a b) (Q5 c,()))))))))))):=by kernel_rfl
theorem aB6:(t38 ([123],[127],0,false) (op,A,B,lo,hi,L,[a,b],())).val=pre [123] [127] op (
 cy (Eb (op,cV [] (cN a b) ())) (cy (decide ((zu (op,cV [] (cN a b) ())).2.1=0)) (okD [cI .u64 (zu (op,cV [] (cN a b) ())).1]))):=by kernel_rfl
end
end Go.Proofs.Vv
noncomputable section
namespace Go.Proofs.Vv
open Go.Ab Go.Ab.Lf Go.Proofs.Vd
set_option maxRecDepth 1000000
def eLn:List (Nat×jJ):=[(37,J9),(42,MO),(80,Za)]
theorem Pq{cb:cx}(W:Vd.World cb):j1 cb eLn:=.cons (u0 W) (.cons (xn W) (.cons (MY W) .nil))
abbrev M9:List Ty:=i64::i64::tV []
abbrev Cf:List Ty:=[u64,i64]
def t147(x:ca M9):Lf.T (List Pl):=mN (Ps [.n .i64,.n .i64,.ag pU]) [] (Ps [.tu (Ps [.n .u64,.n .i64])]) (fun _=>none) Tryz.x63 12 (j7 eLn 12) (cg M9 x)
def Hu(x:ca M9):Bool:=j5 (mf Cf (t147 x))
def sy(x:ca M9):ca Cf:=j5 (j9 Cf (t147 x))
def avD:jJ:=kR (Ps [.n .i64,.n .i64,.ag pU]) [] (Ps [.tu (Ps [.n .u64,.n .i64])]) M9 Cf fun x=>.ck (Hu x) (.ok (sy x))
theorem afI{cb:cx}(W:Vd.World cb):avD.Ok 63 cb:=
 jP (W.in (Pq W) 12) (W.st 63 _ rfl) rfl (cp _) (m:=12) rfl (fun _=>cf _) (fun _=>cf _)
abbrev Na:List Ty:=i64::i64::tV [u64]
def t149(x:ca Na):Lf.T (List Pl):=mN (Ps [.n .i64,.n .i64,.ag pU,.n .u64]) [] (Ps [.tu (Ps [.ag pU,.n .i64])]) (fun _=>none) Tryz.x65 12 (j7 eLn 12) (cg Na x)
def Nb(x:ca Na):Bool:=j5 (mf lA (t149 x))
def Hv(x:ca Na):ca lA:=j5 (j9 lA (t149 x))
def avE:jJ:=kR (Ps [.n .i64,.n .i64,.ag pU,.n .u64]) [] (Ps [.tu (Ps [.ag pU,.n .i64])]) Na lA fun x=>.ck (Nb x) (.ok (Hv x))
theorem afJ{cb:cx}(W:Vd.World cb):avE.Ok 65 cb:=
 jP (W.in (Pq W) 12) (W.st 65 _ rfl) rfl (cp _) (m:=12) rfl (fun _=>cf _) (fun _=>cf _)
abbrev Nc:List Ty:=[i64,u64]
def t152(x:ca Nc):Lf.T (List Pl):=mN (Ps [.n .i64,.n .u64]) [] (Ps [.tu (Ps [.ag pU,.n .i64])]) (fun _=>none) Tryz.x67 40 (j7 eLn 40) (cg Nc x)
def Pr(x:ca Nc):Bool:=j5 (mf lA (t152 x))
def Kp(x:ca Nc):ca lA:=j5 (j9 lA (t152 x))
def avF:jJ:=kR (Ps [.n .i64,.n .u64]) [] (Ps [.tu (Ps [.ag pU,.n .i64])]) Nc lA fun x=>.ck (Pr x) (.ok (Kp x))
theorem afK{cb:cx}(W:Vd.World cb):avF.Ok 67 cb:=
 jP (W.in (Pq W) 40) (W.st 67 _ rfl) rfl (cp _) (m:=40) rfl (fun _=>cf _) (fun _=>cf _)
def Ul(I:den kE)(x:Int):Bool:= @decide (zn x=true/\(kZ x).1=I.1/\(kZ x).2.1=I.2.1/\(kZ x).2.2.1=I.2.2.1/\(kZ x).2.2.2.1=I.2.2.2.1/\(kZ x).2.2.2.2.1=I.2.2.2.2) (Classical.propDecidable _)
def avG(I:den kE):jJ:=kR (Ps [.n .i64]) [] (Ps [.tu (Ps [.ag (Ps [.n .i64,.n .i64,.bo,.im i64,.im i64]),.bo])]) [i64] o25 fun x=>.ck (Ul I x.1) (.ok (I.1,I.2.1,I.2.2.1,I.2.2.2.1,I.2.2.2.2,true,()))
theorem afL{cb:cx}(W:Vd.World cb)(I:den kE):(avG I).Ok 25 cb:=by
 refine oG (C6 W) fun x y h=>?_
 obtain⟨h1,h⟩:=Lf.T.cw h;cases h;obtain⟨a,b,c,d,e,f⟩:= @of_decide_eq_true _ (Classical.propDecidable _) h1;show some ((kZ x.1).1,(kZ x.1).2.1,(kZ x.1).2.2.1,(kZ x.1).2.2.2.1,(kZ x.1).2.2.2.2.1,zn x.1,())=_;rw[a,b,c,d,e,f]
def avH(I:den kE):List (Nat×jJ):=[(25,avG I),(37,J9),(42,MO),(63,avD),(65,avE),(67,avF),(70,avm),(74,avn),(66,avu),(64,avw)]
theorem afM{cb:cx}(W:Vd.World cb)(I:den kE):j1 cb (avH I):=.cons (afL W I) (.cons (u0 W) (.cons (xn W) (.cons (afI W) (.cons (afJ W) (.cons (afK W) (.cons (afo W) (.cons (afp W) (.cons (afu W) (.cons (afv W) .nil)))))))))
def cP(I:den kE)(x:ca rF):Lf.T (List Pl):=mN (Ps [.ag (Ps [.n .i64,.n .i64,.n .i64,.n .u64,.n .u64,.im i64]),.im u64]) [] (Ps [.tu (Ps [.ow u64,.n .i64])]) (fun _=>none) Tryz.x7 40 (j7 (avH I) 40) (cg rF x)
def avI(I:den kE)(x:ca rF):Bool:=j5 (mf sx (cP I x))
def avJ(I:den kE)(x:ca rF):ca sx:=j5 (j9 sx (cP I x))
def aB7(I:den kE):jJ:=kR (Ps [.ag (Ps [.n .i64,.n .i64,.n .i64,.n .u64,.n .u64,.im i64]),.im u64]) [] (Ps [.tu (Ps [.ow u64,.n .i64])]) rF sx fun x=>.ck (avI I x) (.ok (avJ I x))
theorem ry{cb:cx}(W:Vd.World cb)(I:den kE):(aB7 I).Ok 7 cb:=
 jP (W.in (afM W I) 40) (W.st 7 _ rfl) rfl (cp _) (m:=40) rfl (fun _=>cf _) (fun _=>cf _)
abbrev Hw(e:Int):Option (List Pl):=some (cg sx ([],e,()))
abbrev pq(I:den kE)(op:Int)(r:Option (List Pl)):Option (List Pl):=cy (Ul I op) (bif !(bif decide (64768<=op)then true else false)then mK else cy (Ul I op) r)
abbrev lB(k:Bool)(m:ca lA):Option (List Pl):=cy k (bif !decide (GV m=0)then Hw (GV m)else M8 (vO (zW m)))
abbrev mX:den kE:=(1,0,true,[123],[123])
abbrev jB:den kE:=(1,0,true,[123,123],[123])
abbrev mY(n t:Int):den kE:=(13,n,true,[123],[t])
abbrev pg(n t:Int):den kE:=(13,n,true,[123,t],[123])
abbrev pP(t:Int):den kE:=(1,0,true,[t],[123])
abbrev Dm:den kE:=(12,0,true,[123,123],[123])
abbrev Dn:den kE:=(11,0,true,[],[123])
abbrev Nd:den kE:=(1,0,true,[123,123,123],[123])
section
variable (op A B lo hi:Int)(L:List Int)(a b c d e:Int)
theorem Zq:(cP mX (op,A,B,lo,hi,L,[],())).val=pq mX op mK:=by kernel_rfl
theorem Zr:(cP mX (op,A,B,lo,hi,L,[a],())).val=pq mX op mK:=by kernel_rfl
theorem Zs:(cP mX (op,A,B,lo,hi,L,[a,b,c],())).val=pq mX op mK:=by kernel_rfl
theorem Zt:(cP mX (op,A,B,lo,hi,L,[a,b,c,d],())).val=pq mX op mK:=by kernel_rfl
theorem Zu:(cP mX (op,A,B,lo,hi,L,[a,b,c,d,e],())).val=pq mX op mK:=by kernel_rfl
theorem Kq:(cP jB (op,A,B,lo,hi,L,[],())).val=pq jB op mK:=by kernel_rfl
theorem Ks:(cP jB (op,A,B,lo,hi,L,[a],())).val=pq jB op mK:=by kernel_rfl
theorem Kt:(cP jB (op,A,B,lo,hi,L,[a,b],())).val=pq jB op mK:=by kernel_rfl
theorem Ku:(cP jB (op,A,B,lo,hi,L,[a,b,c],())).val=pq jB op mK:=by kernel_rfl
theorem Kv:(cP jB (op,A,B,lo,hi,L,[a,b,c,d,e],())).val=pq jB op mK:=by kernel_rfl
theorem afN(n:Int):(cP (mY n 127) (op,A,B,lo,hi,L,[],())).val=pq (mY n 127) op mK:=by kernel_rfl
theorem afO(n:Int):(cP (mY n 127) (op,A,B,lo,hi,L,[a],())).val=pq (mY n 127) op mK:=by kernel_rfl
theorem afP(n:Int):(cP (mY n 127) (op,A,B,lo,hi,L,[a,b,c],())).val=pq (mY n 127) op mK:=by kernel_rfl
theorem afQ(n:Int):(cP (mY n 127) (op,A,B,lo,hi,L,[a,b,c,d],())).val=pq (mY n 127) op mK:=by kernel_rfl
theorem afR(n:Int):(cP (mY n 127) (op,A,B,lo,hi,L,[a,b,c,d,e],())).val=pq (mY n 127) op mK:=by kernel_rfl
theorem afS(n:Int):(cP (mY n 126) (op,A,B,lo,hi,L,[],())).val=pq (mY n 126) op mK:=by kernel_rfl
theorem afT(n:Int):(cP (mY n 126) (op,A,B,lo,hi,L,[a],())).val=pq (mY n 126) op mK:=by kernel_rfl
theorem afU(n:Int):(cP (mY n 126) (op,A,B,lo,hi,L,[a,b,c],())).val=pq (mY n 126) op mK:=by kernel_rfl
theorem afV(n:Int):(cP (mY n 126) (op,A,B,lo,hi,L,[a,b,c,d],())).val=pq (mY n 126) op mK:=by kernel_rfl
theorem afW(n:Int):(cP (mY n 126) (op,A,B,lo,hi,L,[a,b,c,d,e],())).val=pq (mY n 126) op mK:=by kernel_rfl
theorem afX(n:Int):(cP (pg n 127) (op,A,B,lo,hi,L,[],())).val=pq (pg n 127) op mK:=by kernel_rfl
theorem afY(n:Int):(cP (pg n 127) (op,A,B,lo,hi,L,[a],())).val=pq (pg n 127) op mK:=by kernel_rfl
theorem afZ(n:Int):(cP (pg n 127) (op,A,B,lo,hi,L,[a,b],())).val=pq (pg n 127) op mK:=by kernel_rfl
theorem af0(n:Int):(cP (pg n 127) (op,A,B,lo,hi,L,[a,b,c,d],())).val=pq (pg n 127) op mK:=by kernel_rfl
theorem af1(n:Int):(cP (pg n 127) (op,A,B,lo,hi,L,[a,b,c,d,e],())).val=pq (pg n 127) op mK:=by kernel_rfl
theorem af2(n:Int):(cP (pg n 126) (op,A,B,lo,hi,L,[],())).val=pq (pg n 126) op mK:=by kernel_rfl
theorem af3(n:Int):(cP (pg n 126) (op,A,B,lo,hi,L,[a],())).val=pq (pg n 126) op mK:=by kernel_rfl
theorem af4(n:Int):(cP (pg n 126) (op,A,B,lo,hi,L,[a,b],())).val=pq (pg n 126) op mK:=by kernel_rfl
theorem af5(n:Int):(cP (pg n 126) (op,A,B,lo,hi,L,[a,b,c,d],())).val=pq (pg n 126) op mK:=by kernel_rfl
theorem af6(n:Int):(cP (pg n 126) (op,A,B,lo,hi,L,[a,b,c,d,e],())).val=pq (pg n 126) op mK:=by kernel_rfl
theorem af7:(cP (pP 127) (op,A,B,lo,hi,L,[],())).val=pq (pP 127) op mK:=by kernel_rfl
theorem af8:(cP (pP 127) (op,A,B,lo,hi,L,[a,b],())).val=pq (pP 127) op mK:=by kernel_rfl
theorem af9:(cP (pP 127) (op,A,B,lo,hi,L,[a,b,c],())).val=pq (pP 127) op mK:=by kernel_rfl
theorem af':(cP (pP 127) (op,A,B,lo,hi,L,[a,b,c,d],())).val=pq (pP 127) op mK:=by kernel_rfl
theorem aga:(cP (pP 127) (op,A,B,lo,hi,L,[a,b,c,d,e],())).val=pq (pP 127) op mK:=by kernel_rfl
theorem agb:(cP (pP 126) (op,A,B,lo,hi,L,[],())).val=pq (pP 126) op mK:=by kernel_rfl
theorem agc:(cP (pP 126) (op,A,B,lo,hi,L,[a,b],())).val=pq (pP 126) op mK:=by kernel_rfl
theorem agd:(cP (pP 126) (op,A,B,lo,hi,L,[a,b,c],())).val=pq (pP 126) op mK:=by kernel_rfl
theorem age:(cP (pP 126) (op,A,B,lo,hi,L,[a,b,c,d],())).val=pq (pP 126) op mK:=by kernel_rfl
theorem agf:(cP (pP 126) (op,A,B,lo,hi,L,[a,b,c,d,e],())).val=pq (pP 126) op mK:=by kernel_rfl
theorem agh:(cP Dm (op,A,B,lo,hi,L,[],())).val=pq Dm op mK:=by kernel_rfl
theorem agi:(cP Dm (op,A,B,lo,hi,L,[a],())).val=pq Dm op mK:=by kernel_rfl
theorem agj:(cP Dm (op,A,B,lo,hi,L,[a,b],())).val=pq Dm op mK:=by kernel_rfl
theorem agk:(cP Dm (op,A,B,lo,hi,L,[a,b,c],())).val=pq Dm op mK:=by kernel_rfl
theorem agl:(cP Dm (op,A,B,lo,hi,L,[a,b,c,d,e],())).val=pq Dm op mK:=by kernel_rfl
theorem agm:(cP Dn (op,A,B,lo,hi,L,[a],())).val=pq Dn op mK:=by kernel_rfl
theorem agn:(cP Dn (op,A,B,lo,hi,L,[a,b],())).val=pq Dn op mK:=by kernel_rfl
theorem ago:(cP Dn (op,A,B,lo,hi,L,[a,b,c],())).val=pq Dn op mK:=by kernel_rfl
theorem agp:(cP Dn (op,A,B,lo,hi,L,[a,b,c,d],())).val=pq Dn op mK:=by kernel_rfl
theorem agq:(cP Dn (op,A,B,lo,hi,L,[a,b,c,d,e],())).val=pq Dn op mK:=by kernel_rfl
theorem aou:(cP Nd (op,A,B,lo,hi,L,[],())).val=pq Nd op mK:=by kernel_rfl
theorem aov:(cP Nd (op,A,B,lo,hi,L,[a],())).val=pq Nd op mK:=by kernel_rfl
theorem aow:(cP Nd (op,A,B,lo,hi,L,[a,b],())).val=pq Nd op mK:=by kernel_rfl
theorem aox:(cP Nd (op,A,B,lo,hi,L,[a,b,c],())).val=pq Nd op mK:=by kernel_rfl
theorem aoy:(cP Nd (op,A,B,lo,hi,L,[a,b,c,d],())).val=pq Nd op mK:=by kernel_rfl
theorem aoz:(cP Nd (op,A,B,lo,hi,L,[a,b,c,d,e],())).val=pq Nd op mK:=by kernel_rfl
end
end Go.Proofs.Vv
noncomputable section
namespace Go.Proofs.Vv
open Go.Ab Go.Ab.Lf Go.Proofs.Vd
set_option maxRecDepth 1000000
section
variable (A B lo hi:Int)(L:List Int)(a b c d:Int)
theorem agr:(cP mX (64892,A,B,lo,hi,L,[a,b],())).val=pq mX 64892 (lB (xp (64892,vy a b)) (vD (64892,vy a b))):=by kernel_rfl
theorem ags:(cP mX (64903,A,B,lo,hi,L,[a,b],())).val=pq mX 64903 (lB (xp (64903,vy a b)) (vD (64903,vy a b))):=by kernel_rfl
theorem agt:(cP mX (64935,A,B,lo,hi,L,[a,b],())).val=pq mX 64935 (lB (xp (64935,vy a b)) (vD (64935,vy a b))):=by kernel_rfl
theorem agu:(cP mX (64967,A,B,lo,hi,L,[a,b],())).val=pq mX 64967 (lB (xp (64967,vy a b)) (vD (64967,vy a b))):=by kernel_rfl
theorem agv:(cP jB (64869,A,B,lo,hi,L,[a,b,c,d],())).val=pq jB 64869 (lB (vE (64869,cV (tV []) (cN a b) (cV [] (cN c d) ()))) (ui (64869,cV (tV []) (cN a b) (cV [] (cN c d) ())))):=by kernel_rfl
theorem agw:(cP jB (64902,A,B,lo,hi,L,[a,b,c,d],())).val=pq jB 64902 (lB (vE (64902,cV (tV []) (cN a b) (cV [] (cN c d) ()))) (ui (64902,cV (tV []) (cN a b) (cV [] (cN c d) ())))):=by kernel_rfl
theorem agx:(cP jB (64927,A,B,lo,hi,L,[a,b,c,d],())).val=pq jB 64927 (lB (vE (64927,cV (tV []) (cN a b) (cV [] (cN c d) ()))) (ui (64927,cV (tV []) (cN a b) (cV [] (cN c d) ())))):=by kernel_rfl
theorem agy:(cP jB (64958,A,B,lo,hi,L,[a,b,c,d],())).val=pq jB 64958 (lB (vE (64958,cV (tV []) (cN a b) (cV [] (cN c d) ()))) (ui (64958,cV (tV []) (cN a b) (cV [] (cN c d) ())))):=by kernel_rfl
theorem agz:(cP jB (64990,A,B,lo,hi,L,[a,b,c,d],())).val=pq jB 64990 (lB (vE (64990,cV (tV []) (cN a b) (cV [] (cN c d) ()))) (ui (64990,cV (tV []) (cN a b) (cV [] (cN c d) ())))):=by kernel_rfl
theorem agA:(cP (mY 8 127) (64792,A,B,lo,hi,L,[a,b],())).val=pq (mY 8 127) 64792 (cy (Hu (64792,A,vy a b)) (bif !decide ((sy (64792,A,vy a b)).2.1=0)then Hw (sy (64792,A,vy a b)).2.1 else okD [(sy (64792,A,vy a b)).1])):=by kernel_rfl
theorem agB:(cP (pg 16 127) (64791,A,B,lo,hi,L,[a,b,c],())).val=pq (pg 16 127) 64791 (cy (decide (A=A)) (cy (kb (cN a b)) (lB (Nb (64791,A,cV [u64] (cN a b) (gX (cN (wY .u64 c 4294967295) 0) 64 0,()))) (Hv (64791,A,cV [u64] (cN a b) (gX (cN (wY .u64 c 4294967295) 0) 64 0,())))))):=by kernel_rfl
theorem agC:(cP (pP 127) (64783,A,B,lo,hi,L,[a],())).val=pq (pP 127) 64783 (lB (Pr (64783,gX (cN (wY .u64 a 4294967295) 0) 64 0,())) (Kp (64783,gX (cN (wY .u64 a 4294967295) 0) 64 0,()))):=by kernel_rfl
theorem Q6:(cP Dm (64781,A,B,lo,hi,L,[a,b,c,d],())).val=pq Dm 64781 (lB (M7 (cV (tV (tV [])) (cN lo hi) (cV (tV []) (cN a b) (cV [] (cN c d) ())))) (Ht (cV (tV (tV [])) (cN lo hi) (cV (tV []) (cN a b) (cV [] (cN c d) ()))))):=by kernel_rfl
theorem agD:(cP jB (64846,A,B,lo,hi,L,[a,b,c,d],())).val=pq jB 64846 (cy (kb (cN c d)) (M8 (fun m=>wY .u8 (cN a b m) (cN c d m)))):=by kernel_rfl
end
end Go.Proofs.Vv
noncomputable section
namespace Go.Proofs.Vv
open Go.Ab Go.Ab.Lf Go.Proofs.Vd
set_option maxRecDepth 1000000
section
variable (A B lo hi:Int)(L:List Int)(a b c d:Int)
theorem agE:(cP mX (64893,A,B,lo,hi,L,[a,b],())).val=pq mX 64893 (lB (xp (64893,vy a b)) (vD (64893,vy a b))):=by kernel_rfl
theorem agG:(cP mX (64904,A,B,lo,hi,L,[a,b],())).val=pq mX 64904 (lB (xp (64904,vy a b)) (vD (64904,vy a b))):=by kernel_rfl
theorem agH:(cP mX (64936,A,B,lo,hi,L,[a,b],())).val=pq mX 64936 (lB (xp (64936,vy a b)) (vD (64936,vy a b))):=by kernel_rfl
theorem agI:(cP mX (64968,A,B,lo,hi,L,[a,b],())).val=pq mX 64968 (lB (xp (64968,vy a b)) (vD (64968,vy a b))):=by kernel_rfl
theorem agJ:(cP jB (64870,A,B,lo,hi,L,[a,b,c,d],())).val=pq jB 64870 (lB (vE (64870,cV (tV []) (cN a b) (cV [] (cN c d) ()))) (ui (64870,cV (tV []) (cN a b) (cV [] (cN c d) ())))):=by kernel_rfl
theorem agK:(cP jB (64924,A,B,lo,hi,L,[a,b,c,d],())).val=pq jB 64924 (lB (vE (64924,cV (tV []) (cN a b) (cV [] (cN c d) ()))) (ui (64924,cV (tV []) (cN a b) (cV [] (cN c d) ())))):=by kernel_rfl
theorem agL:(cP jB (64954,A,B,lo,hi,L,[a,b,c,d],())).val=pq jB 64954 (lB (vE (64954,cV (tV []) (cN a b) (cV [] (cN c d) ()))) (ui (64954,cV (tV []) (cN a b) (cV [] (cN c d) ())))):=by kernel_rfl
theorem agM:(cP jB (64959,A,B,lo,hi,L,[a,b,c,d],())).val=pq jB 64959 (lB (vE (64959,cV (tV []) (cN a b) (cV [] (cN c d) ()))) (ui (64959,cV (tV []) (cN a b) (cV [] (cN c d) ())))):=by kernel_rfl
theorem agN:(cP jB (64991,A,B,lo,hi,L,[a,b,c,d],())).val=pq jB 64991 (lB (vE (64991,cV (tV []) (cN a b) (cV [] (cN c d) ()))) (ui (64991,cV (tV []) (cN a b) (cV [] (cN c d) ())))):=by kernel_rfl
theorem agO:(cP (mY 8 127) (64793,A,B,lo,hi,L,[a,b],())).val=pq (mY 8 127) 64793 (cy (Hu (64793,A,vy a b)) (bif !decide ((sy (64793,A,vy a b)).2.1=0)then Hw (sy (64793,A,vy a b)).2.1 else okD [(sy (64793,A,vy a b)).1])):=by kernel_rfl
theorem agP:(cP (pg 8 127) (64794,A,B,lo,hi,L,[a,b,c],())).val=pq (pg 8 127) 64794 (cy (decide (A=A)) (cy (kb (cN a b)) (lB (Nb (64794,A,cV [u64] (cN a b) (gX (cN (wY .u64 c 4294967295) 0) 64 0,()))) (Hv (64794,A,cV [u64] (cN a b) (gX (cN (wY .u64 c 4294967295) 0) 64 0,())))))):=by kernel_rfl
theorem agQ:(cP (pP 127) (64784,A,B,lo,hi,L,[a],())).val=pq (pP 127) 64784 (lB (Pr (64784,gX (cN (wY .u64 a 4294967295) 0) 64 0,())) (Kp (64784,gX (cN (wY .u64 a 4294967295) 0) 64 0,()))):=by kernel_rfl
theorem agR:(cP jB (64782,A,B,lo,hi,L,[a,b,c,d],())).val=pq jB 64782 (cy (Zh (cV (tV []) (cN a b) (cV [] (cN c d) ()))) (M8 (vO (TX (cV (tV []) (cN a b) (cV [] (cN c d) ())))))):=by kernel_rfl
theorem agS:(cP jB (64847,A,B,lo,hi,L,[a,b,c,d],())).val=pq jB 64847 (cy (kb (cN c d)) (M8 (fun m=>Qd .u8 (cN a b m) (cN c d m)))):=by kernel_rfl
end
end Go.Proofs.Vv
noncomputable section
namespace Go.Proofs.Vv
open Go.Ab Go.Ab.Lf Go.Proofs.Vd
set_option maxRecDepth 1000000
section
variable (A B lo hi:Int)(L:List Int)(a b c d:Int)
theorem agT:(cP mX (64894,A,B,lo,hi,L,[a,b],())).val=pq mX 64894 (lB (xp (64894,vy a b)) (vD (64894,vy a b))):=by kernel_rfl
theorem agU:(cP mX (64905,A,B,lo,hi,L,[a,b],())).val=pq mX 64905 (lB (xp (64905,vy a b)) (vD (64905,vy a b))):=by kernel_rfl
theorem agV:(cP mX (64937,A,B,lo,hi,L,[a,b],())).val=pq mX 64937 (lB (xp (64937,vy a b)) (vD (64937,vy a b))):=by kernel_rfl
theorem agW:(cP mX (64969,A,B,lo,hi,L,[a,b],())).val=pq mX 64969 (lB (xp (64969,vy a b)) (vD (64969,vy a b))):=by kernel_rfl
theorem agX:(cP jB (64898,A,B,lo,hi,L,[a,b,c,d],())).val=pq jB 64898 (lB (vE (64898,cV (tV []) (cN a b) (cV [] (cN c d) ()))) (ui (64898,cV (tV []) (cN a b) (cV [] (cN c d) ())))):=by kernel_rfl
theorem agY:(cP jB (64925,A,B,lo,hi,L,[a,b,c,d],())).val=pq jB 64925 (lB (vE (64925,cV (tV []) (cN a b) (cV [] (cN c d) ()))) (ui (64925,cV (tV []) (cN a b) (cV [] (cN c d) ())))):=by kernel_rfl
theorem agZ:(cP jB (64956,A,B,lo,hi,L,[a,b,c,d],())).val=pq jB 64956 (lB (vE (64956,cV (tV []) (cN a b) (cV [] (cN c d) ()))) (ui (64956,cV (tV []) (cN a b) (cV [] (cN c d) ())))):=by kernel_rfl
theorem ag0:(cP jB (64988,A,B,lo,hi,L,[a,b,c,d],())).val=pq jB 64988 (lB (vE (64988,cV (tV []) (cN a b) (cV [] (cN c d) ()))) (ui (64988,cV (tV []) (cN a b) (cV [] (cN c d) ())))):=by kernel_rfl
theorem ag1:(cP (mY 16 127) (64789,A,B,lo,hi,L,[a,b],())).val=pq (mY 16 127) 64789 (cy (Hu (64789,A,vy a b)) (bif !decide ((sy (64789,A,vy a b)).2.1=0)then Hw (sy (64789,A,vy a b)).2.1 else okD [(sy (64789,A,vy a b)).1])):=by kernel_rfl
theorem ag2:(cP (mY 4 127) (64795,A,B,lo,hi,L,[a,b],())).val=pq (mY 4 127) 64795 (cy (Hu (64795,A,vy a b)) (bif !decide ((sy (64795,A,vy a b)).2.1=0)then Hw (sy (64795,A,vy a b)).2.1 else okD [(sy (64795,A,vy a b)).1])):=by kernel_rfl
theorem ag3:(cP (pg 4 127) (64796,A,B,lo,hi,L,[a,b,c],())).val=pq (pg 4 127) 64796 (cy (decide (A=A)) (cy (kb (cN a b)) (lB (Nb (64796,A,cV [u64] (cN a b) (gX (cN (wY .u64 c 4294967295) 0) 64 0,()))) (Hv (64796,A,cV [u64] (cN a b) (gX (cN (wY .u64 c 4294967295) 0) 64 0,())))))):=by kernel_rfl
theorem ag4:(cP (pP 127) (64785,A,B,lo,hi,L,[a],())).val=pq (pP 127) 64785 (lB (Pr (64785,gX (cN (wY .u64 a 4294967295) 0) 64 0,())) (Kp (64785,gX (cN (wY .u64 a 4294967295) 0) 64 0,()))):=by kernel_rfl
theorem ag5:(cP Dn (64780,A,B,lo,hi,L,[],())).val=pq Dn 64780 (M8 (cN lo hi)):=by kernel_rfl
theorem ag6:(cP jB (64848,A,B,lo,hi,L,[a,b,c,d],())).val=pq jB 64848 (cy (kb (cN c d)) (M8 (fun m=>Cw .u8 (cN a b m) (cN c d m)))):=by kernel_rfl
end
end Go.Proofs.Vv
noncomputable section
namespace Go.Proofs.Vv
open Go.Ab Go.Ab.Lf Go.Proofs.Vd
set_option maxRecDepth 1000000
section
variable (A B lo hi:Int)(L:List Int)(a b c d:Int)
theorem ag7:(cP mX (64895,A,B,lo,hi,L,[a,b],())).val=pq mX 64895 (lB (xp (64895,vy a b)) (vD (64895,vy a b))):=by kernel_rfl
theorem ag8:(cP mX (64906,A,B,lo,hi,L,[a,b],())).val=pq mX 64906 (lB (xp (64906,vy a b)) (vD (64906,vy a b))):=by kernel_rfl
theorem ag9:(cP mX (64938,A,B,lo,hi,L,[a,b],())).val=pq mX 64938 (lB (xp (64938,vy a b)) (vD (64938,vy a b))):=by kernel_rfl
theorem ag':(cP mX (64970,A,B,lo,hi,L,[a,b],())).val=pq mX 64970 (lB (xp (64970,vy a b)) (vD (64970,vy a b))):=by kernel_rfl
theorem aha:(cP jB (64901,A,B,lo,hi,L,[a,b,c,d],())).val=pq jB 64901 (lB (vE (64901,cV (tV []) (cN a b) (cV [] (cN c d) ()))) (ui (64901,cV (tV []) (cN a b) (cV [] (cN c d) ())))):=by kernel_rfl
theorem ahb:(cP jB (64926,A,B,lo,hi,L,[a,b,c,d],())).val=pq jB 64926 (lB (vE (64926,cV (tV []) (cN a b) (cV [] (cN c d) ()))) (ui (64926,cV (tV []) (cN a b) (cV [] (cN c d) ())))):=by kernel_rfl
theorem ahc:(cP jB (64957,A,B,lo,hi,L,[a,b,c,d],())).val=pq jB 64957 (lB (vE (64957,cV (tV []) (cN a b) (cV [] (cN c d) ()))) (ui (64957,cV (tV []) (cN a b) (cV [] (cN c d) ())))):=by kernel_rfl
theorem ahd:(cP jB (64989,A,B,lo,hi,L,[a,b,c,d],())).val=pq jB 64989 (lB (vE (64989,cV (tV []) (cN a b) (cV [] (cN c d) ()))) (ui (64989,cV (tV []) (cN a b) (cV [] (cN c d) ())))):=by kernel_rfl
theorem ahe:(cP (mY 16 127) (64790,A,B,lo,hi,L,[a,b],())).val=pq (mY 16 127) 64790 (cy (Hu (64790,A,vy a b)) (bif !decide ((sy (64790,A,vy a b)).2.1=0)then Hw (sy (64790,A,vy a b)).2.1 else okD [(sy (64790,A,vy a b)).1])):=by kernel_rfl
theorem ahf:(cP (mY 2 126) (64797,A,B,lo,hi,L,[a,b],())).val=pq (mY 2 126) 64797 (cy (Hu (64797,A,vy a b)) (bif !decide ((sy (64797,A,vy a b)).2.1=0)then Hw (sy (64797,A,vy a b)).2.1 else okD [(sy (64797,A,vy a b)).1])):=by kernel_rfl
theorem ahg:(cP (pg 2 126) (64798,A,B,lo,hi,L,[a,b,c],())).val=pq (pg 2 126) 64798 (cy (decide (A=A)) (cy (kb (cN a b)) (lB (Nb (64798,A,cV [u64] (cN a b) (gX (cN c 0) 64 0,()))) (Hv (64798,A,cV [u64] (cN a b) (gX (cN c 0) 64 0,())))))):=by kernel_rfl
theorem ahh:(cP (pP 126) (64786,A,B,lo,hi,L,[a],())).val=pq (pP 126) 64786 (lB (Pr (64786,gX (cN a 0) 64 0,())) (Kp (64786,gX (cN a 0) 64 0,()))):=by kernel_rfl
theorem ahi:(cP mX (64845,A,B,lo,hi,L,[a,b],())).val=pq mX 64845 (cy (kb (cN a b)) (M8 (fun m=>akr .u8 (cN a b m)))):=by kernel_rfl
theorem ahj:(cP jB (64849,A,B,lo,hi,L,[a,b,c,d],())).val=pq jB 64849 (cy (kb (cN c d)) (M8 (fun m=>asd .u8 (cN a b m) (cN c d m)))):=by kernel_rfl
end
end Go.Proofs.Vv
noncomputable section
namespace Go.Proofs.Vv
open Go.Ab Go.Ab.Lf Go.Proofs.Vd
set_option maxRecDepth 1000000
abbrev sA(a:Int):Int:=wY .u64 a 4294967295
def Hx:List Int->List Int->List Int
 | [],l=>l
 |t::ts,l=>bif decide (t=123)then(match l with
  |a::b::r=>a::b::Hx ts r
  |r=>r)
  else(match l with
   |a::r=>(bif decide (t=127)then sA a else a)::Hx ts r
   | []=>[])
abbrev PD:n9:=Ps [.ag (Ps [.n .i64,.n .i64,.n .i64,.n .u64,.n .u64,.im i64]),.im u64]
abbrev QD:n9:=Ps [.tu (Ps [.ow u64,.n .i64])]
abbrev Nf:den kE:=(1,0,true,[123,127],[123])
abbrev tD:den kE:=(1,0,true,[123],[127])
def GI(I:den kE)(A lo hi:Int):Prop:=((I.1:Int)=13-> ¬ (A<0∨I.2.1<=A))/\((I.1:Int)=12-> ∀ j,j<16->cN lo hi j<32)
theorem Zv{I:den kE}{A lo hi:Int}(h:(I.1:Int)=1):GI I A lo hi:=⟨fun k=>absurd (h.symm.trans k) (by decide),fun k=>absurd (h.symm.trans k) (by decide)⟩
structure DoA(kD:ca rF->Bool)(mD:ca rF->ca sx)(op:Int)(N Lr:Nat)(I:den kE):Prop where
 ok: ∀ cb,Vd.World cb->(kR PD [] QD rF sx fun x=>.ck (kD x) (.ok (mD x))).Ok 7 cb
 wr: ∀ (A B lo hi:Int) (L l:List Int),l.length<6->l.length≠N->kD (op,A,B,lo,hi,L,l,())=true/\mD (op,A,B,lo,hi,L,l,())=([],1,())
 ri:N<6-> ∀ A B lo hi:Int,(GI I A lo hi/\ ∃ W:List Int->List Int,(∀ L l:List Int,l.length=N->kD (op,A,B,lo,hi,L,l,())=true/\mD (op,A,B,lo,hi,L,l,())=(W l,0,()))/\(∀ l,l.length=N->(W l).length=Lr)/\ ∀ l,l.length=N->(∀ x,x∈l->U x)->W (Hx I.2.2.2.1 l)=W l)∨
  ∀ L l:List Int,l.length=N->kD (op,A,B,lo,hi,L,l,())=true/\mD (op,A,B,lo,hi,L,l,())=([],1,())
def KR(op:Int)(N Lr:Nat)(I:den kE):Prop:= ∃ kD mD,DoA kD mD op N Lr I
theorem nV{P:List Int->Prop}{N:Nat}(h0:N≠0->P [])(h1:N≠1-> ∀ a,P [a])(h2:N≠2-> ∀ a b,P [a,b])(h3:N≠3-> ∀ a b c,P [a,b,c])(h4:N≠4-> ∀ a b c d,P [a,b,c,d])(h5:N≠5-> ∀ a b c d e,P [a,b,c,d,e]): ∀ l:List Int,l.length<6->l.length≠N->P l
 | [],_,h=>h0 fun e=>h e.symm
 | [_],_,h=>h1 (fun e=>h e.symm) _
 | [_,_],_,h=>h2 (fun e=>h e.symm) _ _
 | [_,_,_],_,h=>h3 (fun e=>h e.symm) _ _ _
 | [_,_,_,_],_,h=>h4 (fun e=>h e.symm) _ _ _ _
 | [_,_,_,_,_],_,h=>h5 (fun e=>h e.symm) _ _ _ _ _
 | _::_::_::_::_::_::_,h,_=>absurd h (by simp only[List.length_cons];omega)
theorem aB8{P:List Int->Prop}(h:P []): ∀ l:List Int,l.length=0->P l
 | [],_=>h
theorem avK{P:List Int->Prop}(h: ∀ a,P [a]): ∀ l:List Int,l.length=1->P l
 | [_],_=>h _
theorem GM{P:List Int->Prop}(h: ∀ a b,P [a,b]): ∀ l:List Int,l.length=2->P l
 | [_,_],_=>h _ _
theorem Zw{P:List Int->Prop}(h: ∀ a b c,P [a,b,c]): ∀ l:List Int,l.length=3->P l
 | [_,_,_],_=>h _ _ _
theorem Dp{P:List Int->Prop}(h: ∀ a b c d,P [a,b,c,d]): ∀ l:List Int,l.length=4->P l
 | [_,_,_,_],_=>h _ _ _ _
theorem Q7{a:Int}(h:U a):sA (sA a)=sA a:=by
 obtain⟨n,rfl⟩: ∃ n:Nat,a=n:=⟨a.toNat,by have:=h.1;omega⟩
 have hn:n<18446744073709551616:=by have:=h.2;omega
 have e:sA (n:Int)=((n &&& 4294967295:Nat):Int):=J8 n 4294967295 hn (by decide);have hl:n &&& 4294967295<18446744073709551616:=Nat.lt_of_le_of_lt Nat.and_le_left hn;rw[e];refine(J8 (n &&& 4294967295) 4294967295 hl (by decide)).trans ?_;rw[Nat.and_assoc,Nat.and_self]
theorem Q8(x:Int):0<=cI .u8 x/\cI .u8 x<256:=⟨Int.emod_nonneg _ (by decide),Int.emod_lt_of_pos _ (by decide)⟩
theorem aoA(a b:Int):ByI (cN a b):=fun m _=>by
 show 0<=(bif Nat.blt m 8 then _ else _)/\(bif Nat.blt m 8 then _ else _)<_;cases Nat.blt m 8 with
 |true=>exact Q8 _
 |false=>exact Q8 _
theorem mO{I O:List Int}{op:Int}{r:Option (List Pl)}(h1:c88 I O op=true)(h2:64768<=op):pre I O op r=r:=by
 show cy (c88 I O op) (bif !(bif decide (64768<=op)then true else false)then mK else cy (c88 I O op) r)=r;rw[h1,dt h2];rfl
theorem Kw{op:Int}{r:Option (List Pl)}(h1: ¬ op=64782)(h2:Ec op=true):made op r=r:=by
 show(bif decide (op=64782)then none else cy (Ec op) r)=r;rw[df h1,h2];rfl
theorem zX{c:Cl}{x:ca rF}{l:List Int}{e:Int}(h:(t38 c x).val=some (cg sx (l,e,()))):k38 c x=true/\m38 c x=(l,e,()):=lH (cf _) (cf _) h
theorem rG{I:den kE}{x:ca rF}{l:List Int}{e:Int}(h:(cP I x).val=some (cg sx (l,e,()))):avI I x=true/\avJ I x=(l,e,()):=lH (cf _) (cf _) h
structure Cq(I O:List Int)(op:Int):Prop where
 c:c88 I O op=true
 g:64768<=op
theorem ahk{v:Nat}(hv:v<256)(C:Cq [123,123] [123] (jG v))(h1: ¬ jG v=64782)(h2:Ec (jG v)=true)(he:M4 v=false):KR (jG v) 4 2 jB:=
 ⟨_,_,fun _ W=>As W ([123,123],[123],0,false),fun A B lo hi L=>nV (fun _=>zX ((afy (jG v) A B lo hi L).trans (mO C.c C.g))) (fun _ a=>zX ((afz (jG v) A B lo hi L a).trans (mO C.c C.g))) (fun _ a b=>zX ((afA (jG v) A B lo hi L a b).trans (mO C.c C.g))) (fun _ a b c=>zX ((afB (jG v) A B lo hi L a b c).trans (mO C.c C.g))) (fun h=>absurd rfl h) (fun _ a b c d e=>zX ((afC (jG v) A B lo hi L a b c d e).trans (mO C.c C.g))),
  fun _ A B lo hi=>.inl ⟨Zv rfl,fun l=>let X:=(jG v,cV (tV []) (cN (l.getD 0 0) (l.getD 1 0)) (cV [] (cN (l.getD 2 0) (l.getD 3 0)) ()));[n6 (vO (zW (Ca X))) 0 8,n6 (vO (zW (Ca X))) 8 8],fun L=>Dp fun a b c d=>zX (by
   obtain⟨y,k,m⟩:=avq hv (vy a b) (vy c d);have k:MV (jG v,cV (tV []) (cN a b) (cV [] (cN c d) ()))=true:=k;have m:Ca (jG v,cV (tV []) (cN a b) (cV [] (cN c d) ()))=CA y (bE (M4 v)):=m;rw[avB,mO C.c C.g,Kw h1 h2,k,show decide (GV (Ca (jG v,cV (tV []) (cN a b) (cV [] (cN c d) ())))=0)=true from dt (by rw[m,he];rfl)]
   rfl),fun _ _=>rfl,Dp fun _ _ _ _ _=>rfl⟩⟩
theorem ahl{v:Nat}(hv:v<256)(C:Cq [123,123] [123] (jG v))(h1: ¬ jG v=64782)(h2:Ec (jG v)=true)(he:M4 v=true)(hc:Zg v=false):KR (jG v) 4 2 jB:=
 ⟨_,_,fun _ W=>As W ([123,123],[123],1,false),fun A B lo hi L=>nV (fun _=>zX ((afD (jG v) A B lo hi L).trans (mO C.c C.g))) (fun _ a=>zX ((afE (jG v) A B lo hi L a).trans (mO C.c C.g))) (fun _ a b=>zX ((afF (jG v) A B lo hi L a b).trans (mO C.c C.g))) (fun _ a b c=>zX ((afG (jG v) A B lo hi L a b c).trans (mO C.c C.g))) (fun h=>absurd rfl h) (fun _ a b c d e=>zX ((afH (jG v) A B lo hi L a b c d e).trans (mO C.c C.g))),
  fun _ A B lo hi=>.inl ⟨Zv rfl,fun l=>let X:=(jG v,cV (tV []) (cN (l.getD 0 0) (l.getD 1 0)) (cV [] (cN (l.getD 2 0) (l.getD 3 0)) ()));[n6 (vO (zW (GJ X))) 0 8,n6 (vO (zW (GJ X))) 8 8],fun L=>Dp fun a b c d=>zX (by
   obtain⟨y,k,m⟩:=avq hv (vy a b) (vy c d);have k:MV (jG v,cV (tV []) (cN a b) (cV [] (cN c d) ()))=true:=k;have m:Ca (jG v,cV (tV []) (cN a b) (cV [] (cN c d) ()))=CA y (bE (M4 v)):=m;obtain⟨y',k',m'⟩:=aB0 hv (vy a b) (vy c d);have k':TN (jG v,cV (tV []) (cN a b) (cV [] (cN c d) ()))=true:=k';have m':GJ (jG v,cV (tV []) (cN a b) (cV [] (cN c d) ()))=CA y' (bE (Zg v)):=m';rw[avC,mO C.c C.g,Kw h1 h2,k,show decide (GV (Ca (jG v,cV (tV []) (cN a b) (cV [] (cN c d) ())))=1)=true from dt (by rw[m,he];rfl),k',show decide (GV (GJ (jG v,cV (tV []) (cN a b) (cV [] (cN c d) ())))=0)=true from dt (by rw[m',hc];rfl)]
   rfl),fun _ _=>rfl,Dp fun _ _ _ _ _=>rfl⟩⟩
theorem aoB{v:Nat}(hv:v<256)(C:Cq [123] [123] (jG v))(h1: ¬ jG v=64782)(h2:Ec (jG v)=true)(he:eUn v=false):KR (jG v) 2 2 mX:=
 ⟨_,_,fun _ W=>As W ([123],[123],0,false),fun A B lo hi L=>nV (fun _=>zX ((aof (jG v) A B lo hi L).trans (mO C.c C.g))) (fun _ a=>zX ((aog (jG v) A B lo hi L a).trans (mO C.c C.g))) (fun h=>absurd rfl h) (fun _ a b c=>zX ((aoh (jG v) A B lo hi L a b c).trans (mO C.c C.g))) (fun _ a b c d=>zX ((aoi (jG v) A B lo hi L a b c d).trans (mO C.c C.g))) (fun _ a b c d e=>zX ((aoj (jG v) A B lo hi L a b c d e).trans (mO C.c C.g))),
  fun _ A B lo hi=>.inl ⟨Zv rfl,fun l=>let X:=(jG v,cV [] (cN (l.getD 0 0) (l.getD 1 0)) ());[n6 (vO (zW (GH X))) 0 8,n6 (vO (zW (GH X))) 8 8],fun L=>GM fun a b=>zX (by
   obtain⟨y,k,m⟩:=aB1 hv (vy a b);have k:TK (jG v,cV [] (cN a b) ())=true:=k;have m:GH (jG v,cV [] (cN a b) ())=CA y (bE (eUn v)):=m;rw[aB4,mO C.c C.g,Kw h1 h2,k,show decide (GV (GH (jG v,cV [] (cN a b) ()))=0)=true from dt (by rw[m,he];rfl)]
   rfl),fun _ _=>rfl,GM fun _ _ _=>rfl⟩⟩
theorem aoC(c:Int):0<=Q5 c:=Int.emod_nonneg _ (by decide)
theorem aoD{c:Int}(h:U c):Q5 (sA c)=Q5 c:=by
 show cI .u32 (n6 (cN (sA (sA c)) 0) 0 4)=cI .u32 (n6 (cN (sA c) 0) 0 4);rw[Q7 h]
theorem aoE{v:Nat}(hv:v<256)(C:Cq [123,127] [123] (jG v))(h1: ¬ jG v=64782)(h2:Ec (jG v)=true)(he:eSh v=false):KR (jG v) 3 2 Nf:=
 ⟨_,_,fun _ W=>As W ([123,127],[123],0,false),fun A B lo hi L=>nV (fun _=>zX ((aok (jG v) A B lo hi L).trans (mO C.c C.g))) (fun _ a=>zX ((aol (jG v) A B lo hi L a).trans (mO C.c C.g))) (fun _ a b=>zX ((aom (jG v) A B lo hi L a b).trans (mO C.c C.g))) (fun h=>absurd rfl h) (fun _ a b c d=>zX ((aon (jG v) A B lo hi L a b c d).trans (mO C.c C.g))) (fun _ a b c d e=>zX ((aoo (jG v) A B lo hi L a b c d e).trans (mO C.c C.g))),
  fun _ A B lo hi=>.inl ⟨Zv rfl,fun l=>let X:=(jG v,cV [u32] (cN (l.getD 0 0) (l.getD 1 0)) (Q5 (l.getD 2 0),()));[n6 (vO (zW (Dj X))) 0 8,n6 (vO (zW (Dj X))) 8 8],fun L=>Zw fun a b c=>zX (by
   obtain⟨y,k,m⟩:=aB2 hv (vy a b) (Q5 c) (aoC c);have k:TH (jG v,cV [u32] (cN a b) (Q5 c,()))=true:=k;have m:Dj (jG v,cV [u32] (cN a b) (Q5 c,()))=CA y (bE (eSh v)):=m;rw[aB5,mO C.c C.g,Kw h1 h2,dt rfl,mJ,k,show decide (GV (Dj (jG v,cV [u32] (cN a b) (Q5 c,())))=0)=true from dt (by rw[m,he];rfl)];rfl),fun _ _=>rfl,Zw fun a b c h=>by
   have e:Q5 (sA c)=Q5 c:=aoD (h c (by simp));show(let X:=(jG v,cV [u32] (cN a b) (Q5 (sA c),()));[n6 (vO (zW (Dj X))) 0 8,n6 (vO (zW (Dj X))) 8 8])=_;rw[e]
   rfl⟩⟩
theorem xq{op:Int}(C:Cq [123] [127] op)(T: ∀ ya:Vy,Eb (op,cV [] (vO ya) ())=true/\ ∃ x:Int,zu (op,cV [] (vO ya) ())=(x,0,())):KR op 2 1 tD:=
 ⟨_,_,fun _ W=>As W ([123],[127],0,false),fun A B lo hi L=>nV (fun _=>zX ((aop op A B lo hi L).trans (mO C.c C.g))) (fun _ a=>zX ((aoq op A B lo hi L a).trans (mO C.c C.g))) (fun h=>absurd rfl h) (fun _ a b c=>zX ((aor op A B lo hi L a b c).trans (mO C.c C.g))) (fun _ a b c d=>zX ((aos op A B lo hi L a b c d).trans (mO C.c C.g))) (fun _ a b c d e=>zX ((aot op A B lo hi L a b c d e).trans (mO C.c C.g))),
  fun _ A B lo hi=>.inl ⟨Zv rfl,fun l=>[cI .u64 (zu (op,cV [] (cN (l.getD 0 0) (l.getD 1 0)) ())).1],fun L=>GM fun a b=>zX (by
   obtain⟨k,x,m⟩:=T (vy a b);have k:Eb (op,cV [] (cN a b) ())=true:=k;have m:zu (op,cV [] (cN a b) ())=(x,0,()):=m;rw[aB6,mO C.c C.g,k,show decide ((zu (op,cV [] (cN a b) ())).2.1=0)=true from dt (by rw[m])]
   rfl),fun _ _=>rfl,GM fun _ _ _=>rfl⟩⟩
theorem lj{I:den kE}{op:Int}{r:Option (List Pl)}(h1:Ul I op=true)(h2:64768<=op):pq I op r=r:=by
 show cy (Ul I op) (bif !(bif decide (64768<=op)then true else false)then mK else cy (Ul I op) r)=r;rw[h1,dt h2];rfl
theorem GN{k:Bool}{m:ca lA}{y:Vy}(hk:k=true)(hm:m=CA y 0):lB k m=M8 (vO (zW m)):=by
 show cy k (bif !decide (GV m=0)then Hw (GV m)else M8 (vO (zW m)))=_;rw[hk,show decide (GV m=0)=true from dt (by rw[hm])];rfl
theorem Zx{k:Bool}{m:ca lA}{y:Vy}(hk:k=true)(hm:m=CA y 1):lB k m=mK:=by
 show cy k (bif !decide (GV m=0)then Hw (GV m)else M8 (vO (zW m)))=_;rw[hk,show GV m=1 by rw[hm]];rfl
theorem Zy(a b:Int):ByI (vO (vy a b)):=fun m hm=>by rw[Zi _ hm];exact aoA a b m hm
structure Dq(I:den kE)(op:Int):Prop where
 c:Ul I op=true
 g:64768<=op
theorem Q9{α:Type}: ∀ {l:List Bool} {x:Option α},(∀ c,c∈l->c=true)->ckN l x=x
 | [],_,_=>rfl
 |c::l,x,h=>by
  show cy c (ckN l x)=x;rw[h c List.mem_cons_self]
  exact Q9 fun d hd=>h d (List.mem_cons_of_mem _ hd)
theorem Ra(i:Nat)(o:Vy): ∀ c,c∈ckE i o->c=true:=fun c hc=>by
 unfold ckE at hc;cases h:Nat.beq i 0 with
 |true=>rw[h]at hc;cases hc
 |false=>
  rw[h]at hc;rw[show c=kb (vO o) by simpa using hc];exact mJ _
theorem zY{W:Int}{C:Nat->Vy->List Bool}{X:Nat->Int}(hC: ∀ i o c,c∈C i o->c=true): ∀ (f i:Nat) (o:Vy),∃ y:Vy,goW W C X f i o=some (cg lA (CA y 0))
 |0,_,o=>⟨o,rfl⟩
 |f+1,i,o=>by
  show ∃ y:Vy,ckN (C i o) (goW W C X f (i+1) _)=_;rw[Q9 (hC i o)];exact zY hC f (i+1) _
theorem ajB{w:Nat}{X Y:Nat->Int}: ∀ (f i:Nat) (o:Vy),∃ y:Vy,goN w X Y f i o=some (cg lA (CA y 0))
 |0,_,o=>⟨o,rfl⟩
 |f+1,i,o=>by
  show ∃ y:Vy,ckN (ckE i o) (ckN [kb _] (goN w X Y f (i+1) _))=_;rw[Q9 (Ra i o),Q9 (fun c hc=>by rw[List.mem_singleton.1 hc];exact mJ _)];exact ajB f (i+1) _
def TU(op:Int):Prop:= ∀ y:Vy,∃ y':Vy,(t155 (op,y)).val=some (cg lA (CA y' 0))
def TB(op:Int):Prop:= ∀ a b:Vy,∃ y':Vy,(t159 (op,cV (tV []) (vO a) (cV [] (vO b) ()))).val=some (cg lA (CA y' 0))
theorem sL{op:Int}{W N w b:Nat}{sd:Bool}(U:UnP op W N (fun _=>ckE) (fun y=>exX y w sd b)):TU op:=fun y=>by rw[U y];exact zY (fun i o=>Ra i o) _ _ _
theorem Kx{op:Int}{W N w:Nat}{sd:Bool}(U:UnP op W N (fun y _ _=>bif sd then [kb (vO y),kb (vO y)]else [kb (vO y)]) (fun y=>adX y w sd)):TU op:=fun y=>by
 rw[U y];refine zY (fun i o c hc=>?_) _ _ _;cases sd with
 |true=>
  have hc:c∈[kb (vO y),kb (vO y)]:=hc;rw[show c=kb (vO y) by simpa using hc];exact mJ _
 |false=>
  have hc:c∈[kb (vO y)]:=hc;rw[show c=kb (vO y) by simpa using hc];exact mJ _
theorem sM{op:Int}{W N w b:Nat}{sd:Bool}(U:BnP op W N (fun _ b' i o=>ckE i o++kb (vO b')::ckE i o) (fun a c i=>V0 .u64 (exX a w sd b i) (exX c w sd b i))):TB op:=fun x y=>by
 rw[U x y];refine zY (fun i o c hc=>?_) _ _ _
 rcases List.mem_append.1 hc with h|h
 ·exact Ra i o c h
 ·rcases List.mem_cons.1 h with h|h
  ·rw[h];exact mJ _
  ·exact Ra i o c h
theorem aoF{op:Int}{W N:Nat}(U:BnP op W N (fun _ b _ _=>[kb (vO b)]) aBV):TB op:=fun x y=>by
 rw[U x y];refine zY (fun i o c hc=>?_) _ _ _;rw[show c=kb (vO y) by simpa using hc];exact mJ _
theorem aoG{op:Int}{W N:Nat}(U:BnP op W N (fun _ b _ _=>[kb (vO b),kb (vO b)]) aBW):TB op:=fun x y=>by
 rw[U x y];refine zY (fun i o c hc=>?_) _ _ _;rw[show c=kb (vO y) by simpa using hc];exact mJ _
theorem Ky{op:Int}{w:Nat}{l h:Int}(U:NaP op w l h):TB op:=fun x y=>by rw[U x y];exact ajB _ _ _
theorem pQ{op:Int}(C:Dq mX op)(T:TU op)(d: ∀ (A B lo hi:Int) (L:List Int) (a b:Int),(cP mX (op,A,B,lo,hi,L,[a,b],())).val=pq mX op (lB (xp (op,vy a b)) (vD (op,vy a b)))):KR op 2 2 mX:=
 ⟨_,_,fun _ W=>ry W mX,fun A B lo hi L=>nV (fun _=>rG ((Zq op A B lo hi L).trans (lj C.c C.g))) (fun _ a=>rG ((Zr op A B lo hi L a).trans (lj C.c C.g))) (fun h=>absurd rfl h) (fun _ a b c=>rG ((Zs op A B lo hi L a b c).trans (lj C.c C.g))) (fun _ a b c d=>rG ((Zt op A B lo hi L a b c d).trans (lj C.c C.g))) (fun _ a b c d e=>rG ((Zu op A B lo hi L a b c d e).trans (lj C.c C.g))),
  fun _ A B lo hi=>.inl ⟨Zv rfl,fun l=>[n6 (vO (zW (vD (op,vy (l.getD 0 0) (l.getD 1 0))))) 0 8,n6 (vO (zW (vD (op,vy (l.getD 0 0) (l.getD 1 0))))) 8 8],fun L=>GM fun a b=>rG (by
   obtain⟨y,e⟩:=T (vy a b);obtain⟨k,m⟩:=lH (cf _) (cf _) (k:=xp (op,vy a b)) (m:=vD (op,vy a b)) e;rw[d,lj C.c C.g,GN k m]
   rfl),fun _ _=>rfl,GM fun _ _ _=>rfl⟩⟩
theorem oh{op:Int}(C:Dq jB op)(T:TB op)(d: ∀ (A B lo hi:Int) (L:List Int) (a b c d:Int),(cP jB (op,A,B,lo,hi,L,[a,b,c,d],())).val=pq jB op (lB (vE (op,cV (tV []) (cN a b) (cV [] (cN c d) ()))) (ui (op,cV (tV []) (cN a b) (cV [] (cN c d) ()))))):KR op 4 2 jB:=
 ⟨_,_,fun _ W=>ry W jB,fun A B lo hi L=>nV (fun _=>rG ((Kq op A B lo hi L).trans (lj C.c C.g))) (fun _ a=>rG ((Ks op A B lo hi L a).trans (lj C.c C.g))) (fun _ a b=>rG ((Kt op A B lo hi L a b).trans (lj C.c C.g))) (fun _ a b c=>rG ((Ku op A B lo hi L a b c).trans (lj C.c C.g))) (fun h=>absurd rfl h) (fun _ a b c d e=>rG ((Kv op A B lo hi L a b c d e).trans (lj C.c C.g))),
  fun _ A B lo hi=>.inl ⟨Zv rfl,fun l=>[n6 (vO (zW (ui (op,cV (tV []) (cN (l.getD 0 0) (l.getD 1 0)) (cV [] (cN (l.getD 2 0) (l.getD 3 0)) ()))))) 0 8,n6 (vO (zW (ui (op,cV (tV []) (cN (l.getD 0 0) (l.getD 1 0)) (cV [] (cN (l.getD 2 0) (l.getD 3 0)) ()))))) 8 8],fun L=>Dp fun a b c e=>rG (by
   obtain⟨y,q⟩:=T (vy a b) (vy c e);obtain⟨k,m⟩:=lH (cf _) (cf _) (k:=vE (op,cV (tV []) (cN a b) (cV [] (cN c e) ()))) (m:=ui (op,cV (tV []) (cN a b) (cV [] (cN c e) ()))) q;rw[d,lj C.c C.g,GN k m]
   rfl),fun _ _=>rfl,Dp fun _ _ _ _ _=>rfl⟩⟩
def TE(op n:Int):Prop:= ∀ (A:Int) (y:Vy),(¬ (A<0∨n<=A)-> ∃ x:Int,(t147 (op,A,y)).val=some (cg Cf (x,0,())))/\((A<0∨n<=A)->(t147 (op,A,y)).val=some (cg Cf (0,1,())))
def TR(op n:Int):Prop:= ∀ (A x:Int) (y:Vy),(¬ (A<0∨n<=A)-> ∃ y':Vy,(t149 (op,A,cV [u64] (vO y) (x,()))).val=some (cg lA (CA y' 0)))/\((A<0∨n<=A)-> ∃ y':Vy,(t149 (op,A,cV [u64] (vO y) (x,()))).val=some (cg lA (CA y' 1)))
theorem ajC{w n:Nat}(hW:Wq w)(hn:n=128 / w){A:Int}(h: ¬ (A<0∨(n:Int)<=A)):qe (w:Int) A=true:=by
 obtain⟨k,rfl⟩: ∃ k:Nat,A=(k:Int):=⟨A.toNat,by omega⟩
 exact AK hW (by omega)
theorem IC{op:Int}{w n:Nat}(hW:Wq w)(hn:n=128 / w)(X:Int->Vy->Int)(e: ∀ (A:Int) (y:Vy),(t147 (op,A,y)).val=bif decide (A<0)then some (cg Cf (0,1,()))else bif decide ((n:Int)<=A)then some (cg Cf (0,1,()))else cy (qe (w:Int) A) (some (cg Cf (X A y,0,())))):TE op (n:Int):=fun A y=>by
 refine⟨fun h=>⟨X A y,?_⟩,fun h=>?_⟩
 ·rw[e,df (fun q=>h (.inl q)),df (fun q=>h (.inr q)),ajC hW hn h];rfl
 ·rw[e];by_cases q:A<0
  ·rw[dt q];rfl
  ·rw[df q,dt (h.resolve_left q)];rfl
theorem Rb{op:Int}{w n:Nat}(hW:Wq w)(hn:n=128 / w)(e: ∀ (A x:Int) (y:Vy),(t149 (op,A,cV [u64] (vO y) (x,()))).val=bif decide (A<0)then some (cg lA (cV [i64] rZ (1,())))else bif decide ((n:Int)<=A)then some (cg lA (cV [i64] rZ (1,())))else cy (qe (w:Int) A) (some (cg lA (cV [i64] (pX (vO y) (w:Int) A x) (0,()))))):TR op (n:Int):=fun A x y=>by
 refine⟨fun h=>⟨cV [] (pX (vO y) (w:Int) A x) (),?_⟩,fun h=>⟨zV,?_⟩⟩
 ·rw[e,df (fun q=>h (.inl q)),df (fun q=>h (.inr q)),ajC hW hn h];rfl
 ·rw[e];by_cases q:A<0
  ·rw[dt q];rfl
  ·rw[df q,dt (h.resolve_left q)];rfl
theorem Dr{op n t:Int}(C:Dq (mY n t) op)(T:TE op n)(hw: ∀ (A B lo hi:Int) (L l:List Int),l.length<6->l.length≠2->(cP (mY n t) (op,A,B,lo,hi,L,l,())).val=pq (mY n t) op mK)
 (d: ∀ (A B lo hi:Int) (L:List Int) (a b:Int),(cP (mY n t) (op,A,B,lo,hi,L,[a,b],())).val=pq (mY n t) op (cy (Hu (op,A,vy a b)) (bif !decide ((sy (op,A,vy a b)).2.1=0)then Hw (sy (op,A,vy a b)).2.1 else okD [(sy (op,A,vy a b)).1]))):KR op 2 1 (mY n t):=
 ⟨_,_,fun _ W=>ry W (mY n t),fun A B lo hi L l h1 h2=>rG ((hw A B lo hi L l h1 h2).trans (lj C.c C.g)),fun _ A B lo hi=>by
  by_cases hA:A<0∨n<=A
  ·refine .inr fun L=>GM fun a b=>rG ?_
   obtain⟨k,m⟩:=lH (cf _) (cf _) (k:=Hu (op,A,vy a b)) (m:=sy (op,A,vy a b)) ((T A (vy a b)).2 hA);rw[d,lj C.c C.g,k,m];rfl
  ·refine .inl ⟨⟨fun _=>hA,fun h=>absurd h (by decide: ¬ ((13:Int)=12))⟩,fun l=>[(sy (op,A,vy (l.getD 0 0) (l.getD 1 0))).1],fun L=>GM fun a b=>rG ?_,fun _ _=>rfl,GM fun _ _ _=>rfl⟩;obtain⟨x,e⟩:=(T A (vy a b)).1 hA;obtain⟨k,m⟩:=lH (cf _) (cf _) (k:=Hu (op,A,vy a b)) (m:=sy (op,A,vy a b)) e;rw[d,lj C.c C.g,k,show decide ((sy (op,A,vy a b)).2.1=0)=true from dt (by rw[m])]
   rfl⟩
def mT(t c:Int):Int:=bif decide (t=126)then c else sA c
theorem Zz{t c:Int}(ht:t=126∨t=127)(h:U c):mT t (bif decide (t=127)then sA c else c)=mT t c:=by
 rcases ht with rfl|rfl
 ·rfl
 ·exact Q7 h
theorem Kz{op n t:Int}(ht:t=126∨t=127)(C:Dq (pg n t) op)(T:TR op n)(hw: ∀ (A B lo hi:Int) (L l:List Int),l.length<6->l.length≠3->(cP (pg n t) (op,A,B,lo,hi,L,l,())).val=pq (pg n t) op mK)
 (d: ∀ (A B lo hi:Int) (L:List Int) (a b c:Int),(cP (pg n t) (op,A,B,lo,hi,L,[a,b,c],())).val=pq (pg n t) op (cy (decide (A=A)) (cy (kb (cN a b)) (lB (Nb (op,A,cV [u64] (cN a b) (gX (cN (mT t c) 0) 64 0,()))) (Hv (op,A,cV [u64] (cN a b) (gX (cN (mT t c) 0) 64 0,()))))))):KR op 3 2 (pg n t):=
 ⟨_,_,fun _ W=>ry W (pg n t),fun A B lo hi L l h1 h2=>rG ((hw A B lo hi L l h1 h2).trans (lj C.c C.g)),fun _ A B lo hi=>by
  by_cases hA:A<0∨n<=A
  ·refine .inr fun L=>Zw fun a b c=>rG ?_
   obtain⟨y',e⟩:=(T A (gX (cN (mT t c) 0) 64 0) (vy a b)).2 hA;obtain⟨k,m⟩:=lH (cf _) (cf _) (k:=Nb (op,A,cV [u64] (cN a b) (gX (cN (mT t c) 0) 64 0,()))) (m:=Hv (op,A,cV [u64] (cN a b) (gX (cN (mT t c) 0) 64 0,()))) e;rw[d,lj C.c C.g,dt rfl,mJ,Zx k m];rfl
  ·refine .inl ⟨⟨fun _=>hA,fun h=>absurd h (by decide: ¬ ((13:Int)=12))⟩,fun l=>[n6 (vO (zW (Hv (op,A,cV [u64] (cN (l.getD 0 0) (l.getD 1 0)) (gX (cN (mT t (l.getD 2 0)) 0) 64 0,()))))) 0 8,n6 (vO (zW (Hv (op,A,cV [u64] (cN (l.getD 0 0) (l.getD 1 0)) (gX (cN (mT t (l.getD 2 0)) 0) 64 0,()))))) 8 8],fun L=>Zw fun a b c=>rG ?_,fun _ _=>rfl,Zw fun a b c h=>?_⟩
   ·obtain⟨y',e⟩:=(T A (gX (cN (mT t c) 0) 64 0) (vy a b)).1 hA;obtain⟨k,m⟩:=lH (cf _) (cf _) (k:=Nb (op,A,cV [u64] (cN a b) (gX (cN (mT t c) 0) 64 0,()))) (m:=Hv (op,A,cV [u64] (cN a b) (gX (cN (mT t c) 0) 64 0,()))) e;rw[d,lj C.c C.g,dt rfl,mJ,GN k m];rfl
   ·have e:Hx [123,t] [a,b,c]=[a,b,bif decide (t=127)then sA c else c]:=by
     rcases ht with rfl|rfl<;>rfl
    have q:mT t ((Hx [123,t] [a,b,c]).getD 2 0)=mT t c:=by rw[e];exact Zz ht (h c (by simp))
    have q0:(Hx [123,t] [a,b,c]).getD 0 0=a:=by rw[e];rfl
    have q1:(Hx [123,t] [a,b,c]).getD 1 0=b:=by rw[e];rfl
    show [_,_]=[_,_]
    rw[q,q0,q1]
    rfl⟩
def TS(op:Int):Prop:= ∀ x:Int,∃ y':Vy,(t152 (op,x,())).val=some (cg lA (CA y' 0))
theorem KA{op t:Int}(ht:t=126∨t=127)(C:Dq (pP t) op)(T:TS op)(hw: ∀ (A B lo hi:Int) (L l:List Int),l.length<6->l.length≠1->(cP (pP t) (op,A,B,lo,hi,L,l,())).val=pq (pP t) op mK)
 (d: ∀ (A B lo hi:Int) (L:List Int) (a:Int),(cP (pP t) (op,A,B,lo,hi,L,[a],())).val=pq (pP t) op (lB (Pr (op,gX (cN (mT t a) 0) 64 0,())) (Kp (op,gX (cN (mT t a) 0) 64 0,())))):KR op 1 2 (pP t):=
 ⟨_,_,fun _ W=>ry W (pP t),fun A B lo hi L l h1 h2=>rG ((hw A B lo hi L l h1 h2).trans (lj C.c C.g)),fun _ A B lo hi=>.inl ⟨Zv rfl,fun l=>[n6 (vO (zW (Kp (op,gX (cN (mT t (l.getD 0 0)) 0) 64 0,())))) 0 8,n6 (vO (zW (Kp (op,gX (cN (mT t (l.getD 0 0)) 0) 64 0,())))) 8 8],fun L=>avK fun a=>rG (by
   obtain⟨y',e⟩:=T (gX (cN (mT t a) 0) 64 0);obtain⟨k,m⟩:=lH (cf _) (cf _) (k:=Pr (op,gX (cN (mT t a) 0) 64 0,())) (m:=Kp (op,gX (cN (mT t a) 0) 64 0,())) e;rw[d,lj C.c C.g,GN k m];rfl),fun _ _=>rfl,avK fun a h=>by
    have e:Hx [t] [a]=[bif decide (t=127)then sA a else a]:=by
     rcases ht with rfl|rfl<;>rfl
    have q:mT t ((Hx [t] [a]).getD 0 0)=mT t a:=by rw[e];exact Zz ht (h a (by simp))
    show [_,_]=[_,_]
    rw[q]
    rfl⟩⟩
theorem ahm(C:Dq jB 64782):KR 64782 4 2 jB:=
 have op:Int:=64782
 ⟨_,_,fun _ W=>ry W jB,fun A B lo hi L=>nV (fun _=>rG ((Kq 64782 A B lo hi L).trans (lj C.c C.g))) (fun _ a=>rG ((Ks 64782 A B lo hi L a).trans (lj C.c C.g))) (fun _ a b=>rG ((Kt 64782 A B lo hi L a b).trans (lj C.c C.g))) (fun _ a b c=>rG ((Ku 64782 A B lo hi L a b c).trans (lj C.c C.g))) (fun h=>absurd rfl h) (fun _ a b c d e=>rG ((Kv 64782 A B lo hi L a b c d e).trans (lj C.c C.g))),
  fun _ A B lo hi=>.inl ⟨Zv rfl,fun l=>[n6 (vO (TX (cV (tV []) (cN (l.getD 0 0) (l.getD 1 0)) (cV [] (cN (l.getD 2 0) (l.getD 3 0)) ())))) 0 8,n6 (vO (TX (cV (tV []) (cN (l.getD 0 0) (l.getD 1 0)) (cV [] (cN (l.getD 2 0) (l.getD 3 0)) ())))) 8 8],fun L=>Dp fun a b c e=>rG (by
   obtain⟨y,k,m⟩:=aB3 (vy a b) (vy c e) (Zy c e);have k:Zh (cV (tV []) (cN a b) (cV [] (cN c e) ()))=true:=k;rw[agR,lj C.c C.g,k]
   rfl),fun _ _=>rfl,Dp fun _ _ _ _ _=>rfl⟩⟩
theorem ahn(C:Dq Dm 64781):KR 64781 4 2 Dm:=
 have op:Int:=64781
 ⟨_,_,fun _ W=>ry W Dm,fun A B lo hi L=>nV (fun _=>rG ((agh 64781 A B lo hi L).trans (lj C.c C.g))) (fun _ a=>rG ((agi 64781 A B lo hi L a).trans (lj C.c C.g))) (fun _ a b=>rG ((agj 64781 A B lo hi L a b).trans (lj C.c C.g))) (fun _ a b c=>rG ((agk 64781 A B lo hi L a b c).trans (lj C.c C.g))) (fun h=>absurd rfl h) (fun _ a b c d e=>rG ((agl 64781 A B lo hi L a b c d e).trans (lj C.c C.g))),
  fun _ A B lo hi=>by
   by_cases hs: ∀ j,j<16->cN lo hi j<32
   ·refine .inl ⟨⟨fun h=>absurd h (by decide: ¬ ((12:Int)=13)),fun _=>hs⟩,fun l=>[n6 (vO (zW (Ht (cV (tV (tV [])) (cN lo hi) (cV (tV []) (cN (l.getD 0 0) (l.getD 1 0)) (cV [] (cN (l.getD 2 0) (l.getD 3 0)) ())))))) 0 8,n6 (vO (zW (Ht (cV (tV (tV [])) (cN lo hi) (cV (tV []) (cN (l.getD 0 0) (l.getD 1 0)) (cV [] (cN (l.getD 2 0) (l.getD 3 0)) ())))))) 8 8],fun L=>Dp fun a b c e=>rG ?_,fun _ _=>rfl,Dp fun _ _ _ _ _=>rfl⟩
    obtain⟨y,k,m⟩:=(avy (vy lo hi) (vy a b) (vy c e) (Zy lo hi)).1 fun j hj=>(Zi (cN lo hi) hj).symm▸hs j hj
    have k:M7 (cV (tV (tV [])) (cN lo hi) (cV (tV []) (cN a b) (cV [] (cN c e) ())))=true:=k;have m:Ht (cV (tV (tV [])) (cN lo hi) (cV (tV []) (cN a b) (cV [] (cN c e) ())))=CA y 0:=m;rw[Q6,lj C.c C.g,GN k m];rfl
   ·refine .inr fun L=>Dp fun a b c e=>rG ?_
    obtain⟨k,m⟩:=(avy (vy lo hi) (vy a b) (vy c e) (Zy lo hi)).2 fun h=>hs fun j hj=>(Zi (cN lo hi) hj)▸h j hj
    have k:M7 (cV (tV (tV [])) (cN lo hi) (cV (tV []) (cN a b) (cV [] (cN c e) ())))=true:=k;have m:Ht (cV (tV (tV [])) (cN lo hi) (cV (tV []) (cN a b) (cV [] (cN c e) ())))=CA zV 1:=m
    rw[Q6,lj C.c C.g,Zx k m]⟩
theorem aho(C:Dq Dn 64780):KR 64780 0 2 Dn:=
 have op:Int:=64780
 ⟨_,_,fun _ W=>ry W Dn,fun A B lo hi L=>nV (fun h=>absurd rfl h) (fun _ a=>rG ((agm 64780 A B lo hi L a).trans (lj C.c C.g))) (fun _ a b=>rG ((agn 64780 A B lo hi L a b).trans (lj C.c C.g))) (fun _ a b c=>rG ((ago 64780 A B lo hi L a b c).trans (lj C.c C.g))) (fun _ a b c d=>rG ((agp 64780 A B lo hi L a b c d).trans (lj C.c C.g))) (fun _ a b c d e=>rG ((agq 64780 A B lo hi L a b c d e).trans (lj C.c C.g))),
  fun _ A B lo hi=>.inl ⟨⟨fun h=>absurd h (by decide: ¬ ((11:Int)=13)),fun h=>absurd h (by decide: ¬ ((11:Int)=12))⟩,fun _=>[n6 (cN lo hi) 0 8,n6 (cN lo hi) 8 8],fun L=>aB8 (rG (by
   rw[ag5,lj C.c C.g])),fun _ _=>rfl,fun _ _ _=>rfl⟩⟩
theorem aoH{op:Int}{F:Int->Int->Nat->Int}(C:Dq mX op)(d: ∀ (A B lo hi:Int) (L:List Int) (a b:Int),(cP mX (op,A,B,lo,hi,L,[a,b],())).val=pq mX op (cy (kb (cN a b)) (M8 (F a b)))):KR op 2 2 mX:=
 ⟨_,_,fun _ W=>ry W mX,fun A B lo hi L=>nV (fun _=>rG ((Zq op A B lo hi L).trans (lj C.c C.g))) (fun _ a=>rG ((Zr op A B lo hi L a).trans (lj C.c C.g))) (fun h=>absurd rfl h) (fun _ a b c=>rG ((Zs op A B lo hi L a b c).trans (lj C.c C.g))) (fun _ a b c d=>rG ((Zt op A B lo hi L a b c d).trans (lj C.c C.g))) (fun _ a b c d e=>rG ((Zu op A B lo hi L a b c d e).trans (lj C.c C.g))),
  fun _ A B lo hi=>.inl ⟨Zv rfl,fun l=>[n6 (F (l.getD 0 0) (l.getD 1 0)) 0 8,n6 (F (l.getD 0 0) (l.getD 1 0)) 8 8],fun L=>GM fun a b=>rG (by
   rw[d,lj C.c C.g,mJ]
   rfl),fun _ _=>rfl,GM fun _ _ _=>rfl⟩⟩
theorem KB{op:Int}{F:Int->Int->Int->Int->Nat->Int}(C:Dq jB op)(d: ∀ (A B lo hi:Int) (L:List Int) (a b c d:Int),(cP jB (op,A,B,lo,hi,L,[a,b,c,d],())).val=pq jB op (cy (kb (cN c d)) (M8 (F a b c d)))):KR op 4 2 jB:=
 ⟨_,_,fun _ W=>ry W jB,fun A B lo hi L=>nV (fun _=>rG ((Kq op A B lo hi L).trans (lj C.c C.g))) (fun _ a=>rG ((Ks op A B lo hi L a).trans (lj C.c C.g))) (fun _ a b=>rG ((Kt op A B lo hi L a b).trans (lj C.c C.g))) (fun _ a b c=>rG ((Ku op A B lo hi L a b c).trans (lj C.c C.g))) (fun h=>absurd rfl h) (fun _ a b c d e=>rG ((Kv op A B lo hi L a b c d e).trans (lj C.c C.g))),
  fun _ A B lo hi=>.inl ⟨Zv rfl,fun l=>[n6 (F (l.getD 0 0) (l.getD 1 0) (l.getD 2 0) (l.getD 3 0)) 0 8,n6 (F (l.getD 0 0) (l.getD 1 0) (l.getD 2 0) (l.getD 3 0)) 8 8],fun L=>Dp fun a b c e=>rG (by
   rw[d,lj C.c C.g,mJ]
   rfl),fun _ _=>rfl,Dp fun _ _ _ _ _=>rfl⟩⟩
theorem aoI{op:Int}(C:Dq Nd op):KR op 6 2 Nd:=
 ⟨_,_,fun _ W=>ry W Nd,fun A B lo hi L=>nV (fun _=>rG ((aou op A B lo hi L).trans (lj C.c C.g))) (fun _ a=>rG ((aov op A B lo hi L a).trans (lj C.c C.g))) (fun _ a b=>rG ((aow op A B lo hi L a b).trans (lj C.c C.g))) (fun _ a b c=>rG ((aox op A B lo hi L a b c).trans (lj C.c C.g))) (fun _ a b c d=>rG ((aoy op A B lo hi L a b c d).trans (lj C.c C.g))) (fun _ a b c d e=>rG ((aoz op A B lo hi L a b c d e).trans (lj C.c C.g))),fun h=>absurd h (by decide)⟩
theorem ZA:TU 64903:=sL (W:=16) (N:=8) (w:=8) (b:=0) (sd:=true) fun y=>by kernel_rfl
theorem ZB:TU 64905:=sL (W:=16) (N:=8) (w:=8) (b:=0) (sd:=false) fun y=>by kernel_rfl
theorem ZC:TU 64935:=sL (W:=32) (N:=4) (w:=16) (b:=0) (sd:=true) fun y=>by kernel_rfl
theorem ZD:TU 64937:=sL (W:=32) (N:=4) (w:=16) (b:=0) (sd:=false) fun y=>by kernel_rfl
theorem ZE:TU 64967:=sL (W:=64) (N:=2) (w:=32) (b:=0) (sd:=true) fun y=>by kernel_rfl
theorem ZF:TU 64969:=sL (W:=64) (N:=2) (w:=32) (b:=0) (sd:=false) fun y=>by kernel_rfl
theorem ZG:TU 64892:=Kx (W:=16) (N:=8) (w:=8) (sd:=true) fun y=>by kernel_rfl
theorem ZH:TB 64898:=aoF (W:=16) (N:=8) fun a b=>by kernel_rfl
theorem ZI:TB 64901:=Ky (w:=16) (l:=(-32768)) (h:=32767) fun a b=>by kernel_rfl
theorem ZJ:TE 64792 8:=IC (w:=16) (n:=8) (.inr (.inl rfl)) rfl (fun A y=>cI .u64 (cI .u32 (sw (sX (vO y) 16 A)).1)) fun A y=>by kernel_rfl
theorem ZK:TR 64791 16:=Rb (w:=8) (n:=16) (.inl rfl) rfl fun A x y=>by kernel_rfl
theorem ZL:TS 64783:=fun x=>by rw[show(t152 (64783,x,())).val=goW 8 (fun _ _=>[]) (fun _=>x) 16 0 zV from by kernel_rfl];exact zY (fun _ _ _ h=>by cases h) _ _ _
end Go.Proofs.Vv
