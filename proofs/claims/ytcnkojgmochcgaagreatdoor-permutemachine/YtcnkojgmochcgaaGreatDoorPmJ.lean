import Derived.Test.YtcnkojgmochcgaaGreatDoorSvO
import Derived.Test.YtcnkojgmochcgaaGreatDoorVrD
noncomputable section
namespace Go.Proofs.Vq
open Go.Ab Go.Ab.Lf Go.Proofs.Sw
set_option maxRecDepth 100000
theorem OJ{α:Type}: ∀ {l:List Bool} {x:Option α},(∀ c,c∈l->c=true)->ckN l x=x
 | [],_,_=>rfl
 |c::l,x,h=>by
  show cF c (ckN l x)=x
  rw[h c List.mem_cons_self]
  exact OJ fun d hd=>h d (List.mem_cons_of_mem _ hd)
theorem OK(i:Nat)(o:Vy): ∀ c,c∈ckE i o->c=true:=fun c hc=>by
 unfold ckE at hc
 cases h:Nat.beq i 0 with
 |true=>rw[h]at hc;cases hc
 |false=>
  rw[h]at hc
  rw[show c=o9 (vO o) by simpa using hc]
  exact rX _
theorem Ll{W N:Nat}(hW:Wq W)(hN:N<=128 / W){C:Nat->Vy->List Bool}{X:Nat->Int}{F:Nat->Int}(hC: ∀ i o c,c∈C i o->c=true)(hX: ∀ i,i<N->X i=((nz (F i):Nat):Int)):
 ∀ (f i:Nat) (o:Vy),i+f=N->Bl (W / 8) o (fun j=>if j<i then nz (F j)else 0)-> ∃ y:Vy,goW (W:Int) C X f i o=some (cq qK (cV [i64] (vO y) (0,())))/\Bl (W / 8) y (fun j=>if j<N then nz (F j)else 0)
 |0,i,o,h,hb=>by
  obtain rfl:i=N:=by omega
  exact⟨o,rfl,hb⟩
 |f+1,i,o,h,hb=>by
  show ∃ y:Vy,ckN (C i o) (goW (W:Int) C X f (i+1) (cV [] (pX (vO o) (W:Int) (i:Int) (X i)) ()))=_/\_
  rw[OJ (hC i o),hX i (by omega)]
  refine Ll hW hN hC hX f (i+1) _ (by omega) ?_
  refine(Bl.set hW hb (by omega) (nz (F i))).cg (fun j _=>?_) (hW.c).2.1
  by_cases e:j=i
  ·subst e
   rw[if_pos rfl,if_pos (Nat.lt_succ_self j)]
  ·rw[if_neg e]
   by_cases e2:j<i
   ·rw[if_pos e2,if_pos (by omega)]
   ·rw[if_neg e2,if_neg (by omega)]
theorem abb(c:Nat):Bl c zV (fun j=>if j<0 then nz 0 else 0):=fun m h=>by
 have e:vO zV m=0:=wy wW h
 rw[e]
 simp[ln]
theorem Gs{W:Nat}(hW:Wq W){F:Nat->Int}{y:Vy}(h:Bl (W / 8) y (fun j=>if j<128 / W then nz (F j)else 0)):[pd (vO y) 8 8,pd (vO y) 0 8]=(qJ W F).map fun n=>((n:Nat):Int):=by
 have e:128 / W=2*(64 / W):=(hW.c).2.2.2.2.2.1
 have alG:W<=64:=by rcases hW with rfl|rfl|rfl|rfl<;>decide
 have a:(fun i=>(fun j=>if j<128 / W then nz (F j)else 0) i % 2 ^ W)=fun i=>(if i<128 / W then nz (F i)else 0) % 2 ^ W:=rfl
 have e1:pk W (64 / W) (fun i=>(if i<128 / W then nz (F i)else 0) % 2 ^ W)=pk W (64 / W) (fun i=>(F i % ((2 ^ W:Nat):Int)).toNat):=cS fun i hi=>by rw[if_pos (by omega)];exact Le _ alG
 have e2:pk W (64 / W) (fun i=>(if 64 / W+i<128 / W then nz (F (64 / W+i))else 0) % 2 ^ W)=pk W (64 / W) (fun i=>(F (64 / W+i) % ((2 ^ W:Nat):Int)).toNat):=cS fun i hi=>by rw[if_pos (by omega)];exact Le _ alG
 rw[h.lo hW,h.hi hW,e1,e2]
 rfl
theorem De(x:Int):cb .u64 x=((nz x:Nat):Int):=(xR x).symm
theorem VH{y:Vy}{x0 x1:Nat}(h:By y (rb x0 x1)){w i:Nat}(hw:Wq w)(hi:i<128 / w):Qw y (w:Int) (i:Int)=sw (w - 1) (l2 w x0 x1 i):=by
 unfold Qw
 rw[(atl h hw hi).2]
 rfl
theorem g_v{y:Vy}{x0 x1:Nat}(h:By y (rb x0 x1)){w i:Nat}(hw:Wq w)(hi:i<128 / w):gX (vO y) (w:Int) (i:Int)=((l2 w x0 x1 i:Nat):Int):=Oq h hw hi
theorem _root_.Go.Proofs.Sw.Wp.w{w:Nat}(h:Wp w):Wq w:=by rcases h.q with rfl|rfl|rfl<;>simp[Wq]
theorem ade{w:Nat}(h:Wp w)(x y i:Nat):l2 w x y i<nh:=Nat.lt_of_lt_of_le (AB _ _ _ _) (by rw[vi];exact Nat.pow_le_pow_right (by decide) (by have:=h.f.2.1;omega))
theorem VI{y:Vy}{x0 x1:Nat}(h:By y (rb x0 x1)){w b i:Nat}(W:Wp w)(sd:Bool)(hi:i+b*(64 / w)<128 / w):exX y w sd b i=((nz (iv w sd (l2 w x0 x1 (i+b*(64 / w)))):Nat):Int):=by
 unfold exX
 cases sd with
 |true=>
  rw[cond_true,VH h W.w hi,De]
  rfl
 |false=>
  rw[cond_false,g_v h W.w hi]
  have:iv w false (l2 w x0 x1 (i+b*(64 / w)))=((l2 w x0 x1 (i+b*(64 / w)):Nat):Int):=rfl
  rw[this,Db (ade W _ _ _)]
theorem agH(x y:Int):w7 .u64 ((nz x:Nat):Int) ((nz y:Nat):Int)=((nz (x*y):Nat):Int):=by
 show(((nz x:Nat):Int)*((nz y:Nat):Int)) % 18446744073709551616=_
 rw[<-Vv,Int.natCast_emod,Int.natCast_mul]
 rfl
theorem agI(x y:Int):cY .u64 ((nz x:Nat):Int) ((nz y:Nat):Int)=((nz (x+y):Nat):Int):=by
 show(((nz x:Nat):Int)+((nz y:Nat):Int)) % 18446744073709551616=_
 rw[<-Ld,Int.natCast_emod,Int.natCast_add]
 rfl
theorem alI{y:Vy}{x0 x1:Nat}(h:By y (rb x0 x1)){w i:Nat}(W:Wp w)(sd:Bool)(hi:2*i+1<128 / w):adX y w sd i=((nz (iv w sd (l2 w x0 x1 (2*i))+iv w sd (l2 w x0 x1 (2*i+1))):Nat):Int):=by
 have r: ∀ k,-2147483648<=sw (w - 1) (l2 w x0 x1 k)/\sw (w - 1) (l2 w x0 x1 k)<2147483648:=fun k=>by
  have h0:=W.f.1
  have hl:=AB w x0 x1 k
  have:=Dd (p:=w - 1) (by have:=W.f.2.1;omega) (by rw[show w - 1+1=w by omega];exact hl)
  have hp:2 ^ (w - 1)<=2 ^ 31:=Nat.pow_le_pow_right (by decide) (by rcases W.q with rfl|rfl|rfl<;>decide)
  have e:(2 ^ 31:Nat)=2147483648:=by decide
  omega
 unfold adX
 cases sd with
 |true=>
  have r1:=r (2*i);have r2:=r (2*i+1)
  rw[cond_true,VH h W.w (by omega),VH h W.w hi]
  have e:cY .i64 (sw (w - 1) (l2 w x0 x1 (2*i))) (sw (w - 1) (l2 w x0 x1 (2*i+1)))=sw (w - 1) (l2 w x0 x1 (2*i))+sw (w - 1) (l2 w x0 x1 (2*i+1)):=wrap_i64 (by omega) (by omega)
  rw[e,De]
  rfl
 |false=>
  rw[cond_false,g_v h W.w (by omega),g_v h W.w hi]
  have e: ∀ k,((l2 w x0 x1 k:Nat):Int)=((nz (iv w false (l2 w x0 x1 k)):Nat):Int):=fun k=>by
   have:iv w false (l2 w x0 x1 k)=((l2 w x0 x1 k:Nat):Int):=rfl
   rw[this,Db (ade W _ _ _)]
  rw[e,e,agI]
theorem Qx(x0 x1 k:Nat): -32768<=sw 15 (l2 16 x0 x1 k)/\sw 15 (l2 16 x0 x1 k)<32768:=by
 have:=Dd (p:=15) (by decide) (AB 16 x0 x1 k)
 have e:((2 ^ 15:Nat):Int)=32768:=by decide
 rw[e]at this
 exact this
theorem VJ{x y:Int}(a1: -32768<=x/\x<32768)(a2: -32768<=y/\y<32768): -1073741824<=x*y/\x*y<=1073741824:=by
 have hx:x.natAbs<=32768:=by omega
 have hy:y.natAbs<=32768:=by omega
 have h:=Nat.mul_le_mul hx hy
 rw[<-Int.natAbs_mul]at h
 omega
theorem Qy{y:Vy}{x0 x1 k:Nat}(h:By y (rb x0 x1))(hk:k<8):Qw y 16 (k:Int)=sw 15 (l2 16 x0 x1 k):=VH (w:=16) h (.inr (.inl rfl)) hk
theorem agJ{a b:Vy}{x0 x1 x2 x3:Nat}(ha:By a (rb x0 x1))(hb:By b (rb x2 x3)){i:Nat}(hi:i<4):agG a b i=((nz (iv 16 true (l2 16 x0 x1 (2*i))*iv 16 true (l2 16 x2 x3 (2*i))+iv 16 true (l2 16 x0 x1 (2*i+1))*iv 16 true (l2 16 x2 x3 (2*i+1))):Nat):Int):=by
 unfold agG
 rw[Qy ha (by omega),Qy hb (by omega),Qy ha (by omega),Qy hb (by omega)]
 have m1:=VJ (Qx x0 x1 (2*i)) (Qx x2 x3 (2*i))
 have m2:=VJ (Qx x0 x1 (2*i+1)) (Qx x2 x3 (2*i+1))
 show cb .u64 (cY .i64 (w7 .i64 (sw 15 (l2 16 x0 x1 (2*i))) (sw 15 (l2 16 x2 x3 (2*i)))) (w7 .i64 (sw 15 (l2 16 x0 x1 (2*i+1))) (sw 15 (l2 16 x2 x3 (2*i+1)))))=((nz (sw 15 (l2 16 x0 x1 (2*i))*sw 15 (l2 16 x2 x3 (2*i))+sw 15 (l2 16 x0 x1 (2*i+1))*sw 15 (l2 16 x2 x3 (2*i+1))):Nat):Int)
 have e1:w7 .i64 (sw 15 (l2 16 x0 x1 (2*i))) (sw 15 (l2 16 x2 x3 (2*i)))=sw 15 (l2 16 x0 x1 (2*i))*sw 15 (l2 16 x2 x3 (2*i)):=wrap_i64 (by omega) (by omega)
 have e2:w7 .i64 (sw 15 (l2 16 x0 x1 (2*i+1))) (sw 15 (l2 16 x2 x3 (2*i+1)))=sw 15 (l2 16 x0 x1 (2*i+1))*sw 15 (l2 16 x2 x3 (2*i+1)):=wrap_i64 (by omega) (by omega)
 rw[e1,e2]
 have e3:cY .i64 (sw 15 (l2 16 x0 x1 (2*i))*sw 15 (l2 16 x2 x3 (2*i))) (sw 15 (l2 16 x0 x1 (2*i+1))*sw 15 (l2 16 x2 x3 (2*i+1)))=sw 15 (l2 16 x0 x1 (2*i))*sw 15 (l2 16 x2 x3 (2*i))+sw 15 (l2 16 x0 x1 (2*i+1))*sw 15 (l2 16 x2 x3 (2*i+1)):=wrap_i64 (by omega) (by omega)
 rw[e3,De]
theorem agK{a b:Vy}{x0 x1 x2 x3:Nat}(ha:By a (rb x0 x1))(hb:By b (rb x2 x3)){i:Nat}(hi:i<8):agF a b i=((nz (min ((iv 16 true (l2 16 x0 x1 i)*iv 16 true (l2 16 x2 x3 i)+16384) / 32768) 32767):Nat):Int):=by
 unfold agF
 rw[Qy ha hi,Qy hb hi]
 have m1:=VJ (Qx x0 x1 i) (Qx x2 x3 i)
 have e1:w7 .i64 (sw 15 (l2 16 x0 x1 i)) (sw 15 (l2 16 x2 x3 i))=sw 15 (l2 16 x0 x1 i)*sw 15 (l2 16 x2 x3 i):=wrap_i64 (by omega) (by omega)
 rw[e1]
 show cb .u64 (min (oP .i64 (cY .i64 (sw 15 (l2 16 x0 x1 i)*sw 15 (l2 16 x2 x3 i)) 16384) 15) 32767)=((nz (min ((sw 15 (l2 16 x0 x1 i)*sw 15 (l2 16 x2 x3 i)+16384) / 32768) 32767):Nat):Int)
 have e2:cY .i64 (sw 15 (l2 16 x0 x1 i)*sw 15 (l2 16 x2 x3 i)) 16384=sw 15 (l2 16 x0 x1 i)*sw 15 (l2 16 x2 x3 i)+16384:=wrap_i64 (by omega) (by omega)
 have e3: ∀ z:Int,oP .i64 z 15=z / 32768:=fun z=>(show oP .i64 z 15=z.fdiv 32768 from rfl).trans (Int.fdiv_eq_ediv_of_nonneg _ (by decide))
 rw[e2,e3,De]
theorem adf{y:Vy}{x0 x1:Nat}(h:By y (rb x0 x1)){w i:Nat}(W:Wp (2*w))(hi:i<128 / (2*w))(lo vw:Int):naX y w lo vw i=((nz (min (max (iv (2*w) true (l2 (2*w) x0 x1 i)) lo) vw):Nat):Int):=by
 unfold naX
 rw[VH (w:=2*w) h W.w hi,De]
 rfl
end Go.Proofs.Vq

noncomputable section
namespace Go.Proofs.Vq
open Go.Ab Go.Ab.Lf Go.Proofs.Sw
set_option maxRecDepth 100000
theorem VK{w:Nat}(hw:w=8∨w=16){X Y:Nat->Int}{F G:Nat->Int}(hX: ∀ i,i<64 / w->X i=((nz (F i):Nat):Int))(hY: ∀ i,i<64 / w->Y i=((nz (G i):Nat):Int)):
 ∀ (f i:Nat) (o:Vy),i+f=64 / w->Bl (w / 8) o (fun j=>if j<i then nz (F j)else if 64 / w<=j/\j<64 / w+i then nz (G (j - 64 / w))else 0)->
  ∃ y:Vy,goN w X Y f i o=some (cq qK (cV [i64] (vO y) (0,())))/\Bl (w / 8) y (fun j=>if j<128 / w then nz (if j<64 / w then F j else G (j - 64 / w))else 0)
 |0,i,o,h,hb=>by
  obtain rfl:i=64 / w:=by omega
  have hW:Wq w:=by rcases hw with rfl|rfl<;>simp[Wq]
  have e:128 / w=2*(64 / w):=(hW.c).2.2.2.2.2.1
  refine⟨o,rfl,hb.cg (fun j _=>?_) (hW.c).2.1⟩
  by_cases h1:j<64 / w
  ·rw[if_pos h1,if_pos (by omega),if_pos h1]
  ·by_cases h2:j<64 / w+64 / w
   ·rw[if_neg h1,if_pos ⟨by omega,h2⟩,if_pos (by omega),if_neg h1]
   ·rw[if_neg h1,if_neg (fun q=>h2 q.2),if_neg (by omega)]
 |f+1,i,o,h,hb=>by
  have hW:Wq w:=by rcases hw with rfl|rfl<;>simp[Wq]
  have e:128 / w=2*(64 / w):=(hW.c).2.2.2.2.2.1
  show ∃ y:Vy,ckN (ckE i o) (ckN [o9 (vO (cV [] (pX (vO o) (w:Int) (i:Int) (X i)) ():Vy))] (goN w X Y f (i+1) (cV [] (pX (vO (cV [] (pX (vO o) (w:Int) (i:Int) (X i)) ():Vy)) (w:Int) ((64 / w+i:Nat):Int) (Y i)) ())))=_/\_
  rw[OJ (OK i o),OJ (fun c hc=>by rw[show c=o9 _ by simpa using hc];exact rX _),hX i (by omega),hY i (by omega)]
  refine VK hw hX hY f (i+1) _ (by omega) ?_
  have b1:=Bl.set hW hb (show i<128 / w by omega) (nz (F i))
  have b2:=Bl.set hW b1 (show 64 / w+i<128 / w by omega) (nz (G i))
  refine b2.cg (fun j _=>?_) (hW.c).2.1
  by_cases h0:j=64 / w+i
  ·rw[if_pos h0,if_neg (show ¬ j<i+1 by omega),if_pos (show 64 / w<=j/\j<64 / w+(i+1)from⟨by omega,by omega⟩),h0,Nat.add_sub_cancel_left]
  ·rw[if_neg h0]
   by_cases h1:j=i
   ·rw[if_pos h1,if_pos (show j<i+1 by omega),h1]
   ·rw[if_neg h1]
    by_cases h2:j<i
    ·rw[if_pos h2,if_pos (show j<i+1 by omega)]
    ·rw[if_neg h2,if_neg (show ¬ j<i+1 by omega)]
     by_cases h3:64 / w<=j/\j<64 / w+i
     ·rw[if_pos h3,if_pos (show 64 / w<=j/\j<64 / w+(i+1)from⟨h3.1,by omega⟩)]
     ·rw[if_neg h3,if_neg (show ¬ (64 / w<=j/\j<64 / w+(i+1))from fun q=>h3 ⟨q.1,by omega⟩)]
def Wid(k:Bool)(m:cf qK)(W:Nat)(F:Nat->Int):Prop:= ∃ y:Vy,k=true/\m=cV [i64] (vO y) (0,())/\[pd (vO y) 8 8,pd (vO y) 0 8]=(qJ W F).map fun n=>((n:Nat):Int)
theorem alJ{op:Int}{W:Nat}{C:Vy->Nat->Vy->List Bool}{X:Vy->Nat->Int}{F:Nat->Int}(hW:Wq W)(h:UnP op W (128 / W) C X){y:Vy}(hC: ∀ i o c,c∈C y i o->c=true)(hX: ∀ i,i<128 / W->X y i=((nz (F i):Nat):Int)):Wid (Qu (op,y)) (IV (op,y)) W F:=by
 obtain⟨z,e,b⟩:=Ll hW (Nat.le_refl _) hC hX (128 / W) 0 zV (Nat.zero_add _) ((abb _).cg (fun j _=>by rw[if_neg (Nat.not_lt_zero j),if_neg (Nat.not_lt_zero j)]) (hW.c).2.1)
 obtain⟨q1,q2⟩:=mO (ca _) (ca _) (k:=Qu (op,y)) (m:=IV (op,y)) ((h y).trans e)
 exact⟨z,q1,q2,Gs hW b⟩
theorem agL{op:Int}{W:Nat}{C:Vy->Vy->Nat->Vy->List Bool}{X:Vy->Vy->Nat->Int}{F:Nat->Int}(hW:Wq W)(h:BnP op W (128 / W) C X){a b:Vy}(hC: ∀ i o c,c∈C a b i o->c=true)(hX: ∀ i,i<128 / W->X a b i=((nz (F i):Nat):Int)):Wid (IX (op,cV (tV []) (vO a) (cV [] (vO b) ()))) (DP (op,cV (tV []) (vO a) (cV [] (vO b) ()))) W F:=by
 obtain⟨z,e,q⟩:=Ll hW (Nat.le_refl _) hC hX (128 / W) 0 zV (Nat.zero_add _) ((abb _).cg (fun j _=>by rw[if_neg (Nat.not_lt_zero j),if_neg (Nat.not_lt_zero j)]) (hW.c).2.1)
 obtain⟨q1,q2⟩:=mO (ca _) (ca _) (k:=IX (op,cV (tV []) (vO a) (cV [] (vO b) ()))) (m:=DP (op,cV (tV []) (vO a) (cV [] (vO b) ()))) ((h a b).trans e)
 exact⟨z,q1,q2,Gs hW q⟩
theorem atB{op:Int}{w:Nat}{lo hi:Int}(hw:w=8∨w=16)(h:NaP op w lo hi){a b:Vy}{x0 x1 x2 x3:Nat}(ha:By a (rb x0 x1))(hb:By b (rb x2 x3)):Wid (IX (op,cV (tV []) (vO a) (cV [] (vO b) ()))) (DP (op,cV (tV []) (vO a) (cV [] (vO b) ()))) w (fun i=>min (max (iv (2*w) true (if i<64 / w then l2 (2*w) x0 x1 i else l2 (2*w) x2 x3 (i - 64 / w))) lo) hi):=by
 have hW:Wq w:=by rcases hw with rfl|rfl<;>simp[Wq]
 have W2:Wp (2*w):=⟨by rcases hw with rfl|rfl<;>decide⟩
 have e2:128 / (2*w)=64 / w:=by rcases hw with rfl|rfl<;>decide
 obtain⟨z,e,q⟩:=VK hw (X:=naX a w lo hi) (Y:=naX b w lo hi) (F:=fun i=>min (max (iv (2*w) true (l2 (2*w) x0 x1 i)) lo) hi) (G:=fun i=>min (max (iv (2*w) true (l2 (2*w) x2 x3 i)) lo) hi) (fun i vw=>adf ha W2 (by omega) lo hi) (fun i vw=>adf hb W2 (by omega) lo hi) (64 / w) 0 zV (Nat.zero_add _) ((abb _).cg (fun j _=>by rw[if_neg (Nat.not_lt_zero j),if_neg (Nat.not_lt_zero j),if_neg (by omega)]) (hW.c).2.1)
 obtain⟨q1,q2⟩:=mO (ca _) (ca _) (k:=IX (op,cV (tV []) (vO a) (cV [] (vO b) ()))) (m:=DP (op,cV (tV []) (vO a) (cV [] (vO b) ()))) ((h a b).trans e)
 refine⟨z,q1,q2,Gs hW (F:=fun i=>min (max (iv (2*w) true (if i<64 / w then l2 (2*w) x0 x1 i else l2 (2*w) x2 x3 (i - 64 / w))) lo) hi) (q.cg (fun j _=>?_) (hW.c).2.1)⟩
 by_cases h1:j<64 / w
 ·simp only[h1,if_true]
 ·simp only[h1,if_false]
end Go.Proofs.Vq

noncomputable section
namespace Go.Proofs.Vq
open Go.Ab Go.Ab.Lf Go.Proofs.Sw
set_option maxRecDepth 100000
theorem xU{β:Type}{F:Nat->Option β}{k:Nat}: ∀ (f j:Nat),j<=k->k<j+f->brF (k:Int) F f j=F k
 |0,j,h1,h2=>by omega
 |f+1,j,h1,h2=>by
  show(bif Nat.beq f 0 then cF (decide ((k:Int)=Int.ofNat j)) (F j)else bif decide ((k:Int)=Int.ofNat j)then F j else brF (k:Int) F f (j+1))=_
  by_cases e:k=j
  ·subst e
   rw[show decide ((k:Int)=Int.ofNat k)=true from decide_eq_true rfl]
   cases Nat.beq f 0<;>rfl
  ·have h0:Nat.beq f 0=false:=by
    cases hf:Nat.beq f 0 with
    |false=>rfl
    |true=>have:=Nat.eq_of_beq_eq_true hf;omega
   rw[h0,show decide ((k:Int)=Int.ofNat j)=false from decide_eq_false (fun q=>e (Int.ofNat.inj q)),cond_false,cond_false]
   exact xU f (j+1) (by omega) (by omega)
theorem IY(v:Nat->Int){i:Nat}(h:i<16):(Gr v).getD i 0=v i:=by
 match i,h with
 |0,_=>rfl|1,_=>rfl|2,_=>rfl|3,_=>rfl|4,_=>rfl|5,_=>rfl|6,_=>rfl|7,_=>rfl
 |8,_=>rfl|9,_=>rfl|10,_=>rfl|11,_=>rfl|12,_=>rfl|13,_=>rfl|14,_=>rfl|15,_=>rfl
 | _+16,h=>exact absurd h (by omega)
theorem Bl1{y:Vy}{L:Nat->Nat}{m:Nat}(h:Bl 1 y L)(hm:m<16):vO y m=((L m % 256:Nat):Int):=by
 rw[h m hm,Nat.div_one,Nat.mod_one]
 simp[ln]
theorem Lm{y:Vy}{L:Nat->Nat}(h: ∀ m,m<16->vO y m=((L m % 256:Nat):Int)):Bl 1 y L:=fun m hm=>by
 rw[h m hm,Nat.div_one,Nat.mod_one]
 simp[ln]
theorem Bl1.put{y:Vy}{L:Nat->Nat}(h:Bl 1 y L){i X:Nat}(hX:X<256):Bl 1 (cV [] (Gq (vO y) i (X:Int)) ()) (fun j=>if j=i then X else L j):=Lm fun m hm=>by
 rw[wy _ hm]
 unfold Gq
 by_cases e:m=i
 ·subst e
  rw[show Nat.beq m m=true from Nat.beq_refl m,if_pos rfl,Nat.mod_eq_of_lt hX]
  rfl
 ·rw[show Nat.beq m i=false by cases q:Nat.beq m i with|false=>rfl|true=>exact absurd (Nat.eq_of_beq_eq_true q) e,if_neg e]
  exact Bl1 h hm
theorem alK{i:Nat}(h:i<16):cZ (i:Int) 16=true:=by
 unfold cZ
 rw[decide_eq_true (show(0:Int)<=(i:Int) by omega),decide_eq_true (show(i:Int)<16 by omega)]
 rfl
def t151(x:cf (tV (tV []))):Lf.T (List Pl):=qA (Ps [.ag pU,.ag pU]) [] (Ps [.ag pU]) aty Tryz.ae' 3 (pY [] 3) (cq (tV (tV [])) x)
def VL(x:cf (tV (tV []))):Bool:=cO (oy (tV []) (t151 x))
def VM(x:cf (tV (tV []))):cf (tV []):=cO (nq (tV []) (t151 x))
def alL:ny:=pW (Ps [.ag pU,.ag pU]) [] (Ps [.ag pU]) (tV (tV [])) (tV []) fun x=>.ck (VL x) (.ok (VM x))
theorem abc{cr:cx}(W:WQ cr):alL.Ok 151 cr:=
 mC (W.in .nil 3) (W.st 151 _ rfl) rfl (vD.wL (.cons (b:=Gp.body) (by kernel_rfl) (Qv W) .nil)) (m:=3) rfl (fun _=>ca _) (fun _=>ca _)
theorem alM(ya yb:Vy)(x:cf q9)(hx:x=Lk (vO ya) wW wW (vO yb) 0)(y:cf sR)(hy:y=lo1 xS q9 sR x):(t151 (cV (tV []) (vO ya) (cV [] (vO yb) ()))).val=cF (ND xS q9 sR x) (some (cq (tV []) (y.2.2.2.2.2.2.2.2.2.2.2.2.2.2.2.2:cf (tV [])))):=by
 subst hy;subst hx
 kernel_rfl
theorem atC{ya yb:Vy}{fa fb:Nat->Nat}(ha:By ya fa)(hb:By yb fb): ∃ y:Vy,VL (cV (tV []) (vO ya) (cV [] (vO yb) ()))=true/\VM (cV (tV []) (vO ya) (cV [] (vO yb) ()))=cV [] (vO y) ()/\Bl 1 y (fun j=>if j<16 then(if fb j<16 then fa (fb j)else 0)else 0):=by
 obtain⟨y',h1,h2,h3⟩:=alb (ti:=q9) (to:=sR) (f:=xS) 1 16 (fun y i=>Lk (vO ya) (vO zV) (vO y) (vO yb) (i:Int)) (fun y=>cV (tV []) (vO zV) (cV [] (vO y) ())) (fun _=>0) (fun j=>if fb j<16 then fa (fb j)else 0)
  (fun y i hi hy=>by
   have e:=OI ya zV y yb (i:Int)
   have hk:(Gr (vO yb)).getD (i:Int).toNat 0=(fb i:Int):=by rw[Int.toNat_natCast,IY _ hi];exact hb.e i hi
   rw[hk,decide_eq_true (show(i:Int)<16 by omega),alK hi,show cY .i64 (i:Int) 1=((i+1:Nat):Int)from ac4 (by omega)]at e
   by_cases hf:fb i<16
   ·rw[decide_eq_true (show(fb i:Int)<16 by omega)]at e
    simp only[cond_true]at e
    rw[xU 16 0 (Nat.zero_le _) (by omega),xU 16 0 (Nat.zero_le _) (by omega),ha.e _ hf]at e
    refine⟨cV [] (Gq (vO y) i (fa (fb i):Int)) (),e,?_⟩
    refine(Bl1.put hy (ha.l _)).cg (fun j _=>?_) (by decide)
    by_cases q:j=i
    ·subst q
     rw[if_pos rfl,if_pos (Nat.lt_succ_self j),if_pos hf]
    ·rw[if_neg q]
     by_cases q2:j<i
     ·rw[if_pos q2,if_pos (show j<i+1 by omega)]
     ·rw[if_neg q2,if_neg (show ¬ j<i+1 by omega)]
   ·rw[decide_eq_false (show ¬ (fb i:Int)<16 by omega)]at e
    refine⟨y,e,hy.cg (fun j _=>?_) (by decide)⟩
    by_cases q:j=i
    ·subst q
     rw[if_neg (Nat.lt_irrefl j),if_pos (Nat.lt_succ_self j),if_neg hf]
    ·by_cases q2:j<i
     ·rw[if_pos q2,if_pos (show j<i+1 by omega)]
     ·rw[if_neg q2,if_neg (show ¬ j<i+1 by omega)])
  (fun y=>OI ya zV y yb 16) (y0:=zV) (Lm fun m hm=>by rw[wy _ hm];rfl)
 have e:=alM ya yb _ rfl _ rfl
 have h1:ND xS q9 sR (Lk (vO ya) wW wW (vO yb) 0)=true:=h1
 have h2:lo1 xS q9 sR (Lk (vO ya) wW wW (vO yb) 0)=cV (tV []) (vO zV) (cV [] (vO y') ()):=h2
 rw[h1,h2]at e
 obtain⟨q1,q2⟩:=mO (ca _) (ca _) (k:=VL (cV (tV []) (vO ya) (cV [] (vO yb) ()))) (m:=VM (cV (tV []) (vO ya) (cV [] (vO yb) ()))) e
 exact⟨y',q1,q2,h3⟩
end Go.Proofs.Vq

noncomputable section
namespace Go.Proofs.Vq
open Go.Ab Go.Ab.Lf Go.Proofs.Sw
set_option maxRecDepth 100000
abbrev nV:List Ty:=tV (tV (tV (tV (tV [i64]))))
abbrev qu:List Ty:=tV (tV [])
abbrev qv:List Ty:=tV [i64]
def Gt:AN:=⟨0,zZ Tryz.ae9.code 0,[4,5,6,8,11,12],(Ps [.pt 0 pU,.pt 0 pU,.pt 0 pU,.pt 0 pU,.ag pU,.n .i64]),[⟨.GG,[6,8],(Ps [.pt 0 pU,.pt 0 pU])⟩,⟨.rt,[6,7],(Ps [.pt 0 pU,.n .i64])⟩]⟩
def qC:List Pl->Lf.T Rs:=Gt.step (fun _=>none) (pY [] 3) 3
def VN:rk:=KN Gt qC nV qu qv
theorem Qz{cr:cx}(W:WQ cr):rQ Rx.w VN (fun n d=>su (cr n d) n (.bl 0 (.lp Gt.body))):=wN (W.in .nil 3) (cD _) (m:=3) nV qu qv
def atD:Nat->Option rk:=JB [(0,VN)]
abbrev zf(a b r v s:Nat->Int)(i:Int):cf nV:=cV (tV (tV (tV (tV [i64])))) a (cV (tV (tV (tV [i64]))) b (cV (tV (tV [i64])) r (cV (tV [i64]) v (cV [i64] s (i,())))))
theorem OL(ya yb yr yv ys:cf (tV []))(i:Int):tr2 nV qu qv (qC (cq nV (zf (vO ya) (vO yb) (vO yr) (vO yv) (vO ys) i)))=bif decide (i<16)then
 cF (cZ i 16) (bif decide (32<=(Gr (vO ys)).getD i.toNat 0)then some (.o1 (cV [i64] wW (1,())))
  else bif decide (16<=(Gr (vO ys)).getD i.toNat 0)then brF (cA .u8 ((Gr (vO ys)).getD i.toNat 0) 16) (fun j=>brF i (fun m=>some (.nx (zf (vO ya) (vO yb) (vO yr) (Gq (vO yv) m (vO yb j)) (vO ys) (cY .i64 i 1)))) 16 0) 16 0
  else brF ((Gr (vO ys)).getD i.toNat 0) (fun j=>brF i (fun m=>some (.nx (zf (vO ya) (vO yb) (vO yr) (Gq (vO yv) m (vO ya j)) (vO ys) (cY .i64 i 1)))) 16 0) 16 0)
 else some (.o0 (cV (tV []) (vO yr) (cV [] (vO yv) ()))):=by kernel_rfl
end Go.Proofs.Vq

noncomputable section
namespace Go.Proofs.Vq
open Go.Ab Go.Ab.Lf Go.Proofs.Sw
set_option maxRecDepth 100000
def t148(x:cf (tV (tV (tV [])))):Lf.T (List Pl):=qA (Ps [.ag pU,.ag pU,.ag pU]) [] (Ps [.tu (Ps [.ag pU,.n .i64])]) atD Tryz.ae9 3 (pY [] 3) (cq (tV (tV (tV []))) x)
def IZ(x:cf (tV (tV (tV [])))):Bool:=cO (oy qK (t148 x))
def DQ(x:cf (tV (tV (tV [])))):cf qK:=cO (nq qK (t148 x))
def alN:ny:=pW (Ps [.ag pU,.ag pU,.ag pU]) [] (Ps [.tu (Ps [.ag pU,.n .i64])]) (tV (tV (tV []))) qK fun x=>.ck (IZ x) (.ok (DQ x))
theorem abd{cr:cx}(W:WQ cr):alN.Ok 148 cr:=
 mC (W.in .nil 3) (W.st 148 _ rfl) rfl (vD.wL (.cons (b:=Gt.body) (by kernel_rfl) (Qz W) .nil)) (m:=3) rfl (fun _=>ca _) (fun _=>ca _)
theorem alO(ys ya yb:Vy)(x:cf nV)(hx:x=zf (vO ya) (vO yb) wW wW (vO ys) 0)(y:cf qu)(hy:y=lo1 qC nV qu x)(z:cf qv)(hz:z=lo1 qC nV qv x):
 (t148 (cV (tV (tV [])) (vO ys) (cV (tV []) (vO ya) (cV [] (vO yb) ())))).val=cF (DH qC nV qu qv x) (bif CO qC nV x then some (cq qK (cV [i64] (vO (y.2.2.2.2.2.2.2.2.2.2.2.2.2.2.2.2:cf (tV []))) (0,())))else some (cq qK z)):=by
 subst hy;subst hx;subst hz
 kernel_rfl
def Q4(fa fb fs:Nat->Nat)(j:Nat):Nat:=if fs j<16 then fa (fs j)else fb (fs j - 16)
theorem atE{k:Nat}(h:16<=k)(h2:k<256):cA .u8 (k:Int) 16=((k - 16:Nat):Int):=by
 show((k:Int) - 16) % 256=_
 omega
theorem alP{ya yb ys:Vy}{fa fb fs:Nat->Nat}(ha:By ya fa)(hb:By yb fb)(hs:By ys fs): ∀ (d i:Nat) (y:Vy),i+d=16->Bl 1 y (fun j=>if j<i then Q4 fa fb fs j else 0)->
 (∀ j,j<i->fs j<32)->((∀ j,j<16->fs j<32)-> ∃ y':Vy,uh qC (cq nV (zf (vO ya) (vO yb) wW (vO y) (vO ys) (i:Int))) 0 (cq qu (cV (tV []) wW (cV [] (vO y') ())))/\Bl 1 y' (fun j=>if j<16 then Q4 fa fb fs j else 0))/\
  ((∃ j,j<16/\32<=fs j)->uh qC (cq nV (zf (vO ya) (vO yb) wW (vO y) (vO ys) (i:Int))) 1 (cq qv (cV [i64] wW (1,())))):=by
 intro d
 induction d with
 |zero=>
  intro i y hi hy hl
  obtain rfl:i=16:=by omega
  refine⟨fun _=>⟨y,.last (Ag (OL ya yb zV y ys 16)),hy⟩,fun⟨j,h1,h2⟩=>?_⟩
  have:=hl j h1
  omega
 |succ d ih=>
  intro i y hi hy hl
  have abe:i<16:=by omega
  have e:=OL ya yb zV y ys (i:Int)
  have hk:(Gr (vO ys)).getD (i:Int).toNat 0=(fs i:Int):=by rw[Int.toNat_natCast,IY _ abe];exact hs.e i abe
  rw[hk,decide_eq_true (show(i:Int)<16 by omega),alK abe,show cY .i64 (i:Int) 1=((i+1:Nat):Int)from ac4 (by omega)]at e
  by_cases h32:32<=fs i
  ·rw[decide_eq_true (show(32:Int)<=(fs i:Int) by omega)]at e
   refine⟨fun h=>?_,fun _=>.last (Ag e)⟩
   have:=h i abe
   omega
  ·rw[decide_eq_false (show ¬ (32:Int)<=(fs i:Int) by omega)]at e
   simp only[cond_true,cond_false]at e
   have stp: ∃ y1:Vy,tr2 nV qu qv (qC (cq nV (zf (vO ya) (vO yb) wW (vO y) (vO ys) (i:Int))))=some (.nx (zf (vO ya) (vO yb) wW (vO y1) (vO ys) ((i+1:Nat):Int)))/\Bl 1 y1 (fun j=>if j<i+1 then Q4 fa fb fs j else 0):=by
    have fin: ∀ X,X<256->X=Q4 fa fb fs i->Bl 1 (cV [] (Gq (vO y) i (X:Int)) ()) (fun j=>if j<i+1 then Q4 fa fb fs j else 0):=fun X hX hXe=>by
     refine(Bl1.put hy hX).cg (fun j _=>?_) (by decide)
     by_cases q:j=i
     ·subst q
      rw[if_pos rfl,if_pos (Nat.lt_succ_self j),hXe]
     ·rw[if_neg q]
      by_cases q2:j<i
      ·rw[if_pos q2,if_pos (show j<i+1 by omega)]
      ·rw[if_neg q2,if_neg (show ¬ j<i+1 by omega)]
    by_cases h16:16<=fs i
    ·rw[decide_eq_true (show(16:Int)<=(fs i:Int) by omega),cond_true,atE h16 (hs.l i),xU 16 0 (Nat.zero_le _) (by omega),xU 16 0 (Nat.zero_le _) (by omega),hb.e _ (show fs i - 16<16 by omega)]at e
     exact⟨cV [] (Gq (vO y) i (fb (fs i - 16):Int)) (),e,fin _ (hb.l _) (by unfold Q4;rw[if_neg (by omega)])⟩
    ·rw[decide_eq_false (show ¬ (16:Int)<=(fs i:Int) by omega),cond_false,xU 16 0 (Nat.zero_le _) (by omega),xU 16 0 (Nat.zero_le _) (by omega),ha.e _ (show fs i<16 by omega)]at e
     exact⟨cV [] (Gq (vO y) i (fa (fs i):Int)) (),e,fin _ (ha.l _) (by unfold Q4;rw[if_pos (by omega)])⟩
   obtain⟨y1,s1,s2⟩:=stp
   obtain⟨a,b⟩:=ih (i+1) y1 (by omega) s2 fun j hj=>by
    by_cases q:j=i
    ·rw[q];omega
    ·exact hl j (by omega)
   refine⟨fun h=>?_,fun h=>.more (Ag s1) (b h)⟩
   obtain⟨y2,r,q⟩:=a h
   exact⟨y2,.more (Ag s1) r,q⟩
theorem alQ{ya yb ys:Vy}{fa fb fs:Nat->Nat}(ha:By ya fa)(hb:By yb fb)(hs:By ys fs):
 ((∀ j,j<16->fs j<32)-> ∃ y:Vy,IZ (cV (tV (tV [])) (vO ys) (cV (tV []) (vO ya) (cV [] (vO yb) ())))=true/\DQ (cV (tV (tV [])) (vO ys) (cV (tV []) (vO ya) (cV [] (vO yb) ())))=cV [i64] (vO y) (0,())/\Bl 1 y (fun j=>if j<16 then Q4 fa fb fs j else 0))/\
 ((∃ j,j<16/\32<=fs j)->IZ (cV (tV (tV [])) (vO ys) (cV (tV []) (vO ya) (cV [] (vO yb) ())))=true/\DQ (cV (tV (tV [])) (vO ys) (cV (tV []) (vO ya) (cV [] (vO yb) ())))=cV [i64] wW (1,())):=by
 obtain⟨a,b⟩:=alP ha hb hs 16 0 zV (Nat.zero_add _) (Lm fun m hm=>by rw[wy _ hm];rfl) fun j hj=>absurd hj (Nat.not_lt_zero j)
 have e:=alO ys ya yb _ rfl _ rfl _ rfl
 refine⟨fun h=>?_,fun h=>?_⟩
 ·obtain⟨y,r,q⟩:=a h
  obtain⟨h1,h2,h3⟩:=z8 (t1:=qv) r
  have h1:DH qC nV qu qv (zf (vO ya) (vO yb) wW wW (vO ys) 0)=true:=h1
  have h2:CO qC nV (zf (vO ya) (vO yb) wW wW (vO ys) 0)=true:=h2
  have h3:lo1 qC nV qu (zf (vO ya) (vO yb) wW wW (vO ys) 0)=cV (tV []) wW (cV [] (vO y) ()):=h3
  rw[h1,h2,h3]at e
  obtain⟨q1,q2⟩:=mO (ca _) (ca _) (k:=IZ (cV (tV (tV [])) (vO ys) (cV (tV []) (vO ya) (cV [] (vO yb) ())))) (m:=DQ (cV (tV (tV [])) (vO ys) (cV (tV []) (vO ya) (cV [] (vO yb) ())))) (y:=cV [i64] (vO y) (0,())) e
  exact⟨y,q1,q2,q⟩
 ·obtain⟨h1,h2,h3⟩:=CP (t0:=qu) (b h)
  have h1:DH qC nV qu qv (zf (vO ya) (vO yb) wW wW (vO ys) 0)=true:=h1
  have h2:CO qC nV (zf (vO ya) (vO yb) wW wW (vO ys) 0)=false:=h2
  have h3:lo1 qC nV qv (zf (vO ya) (vO yb) wW wW (vO ys) 0)=cV [i64] wW (1,()):=h3
  rw[h1,h2,h3]at e
  exact mO (ca _) (ca _) (k:=IZ (cV (tV (tV [])) (vO ys) (cV (tV []) (vO ya) (cV [] (vO yb) ())))) (m:=DQ (cV (tV (tV [])) (vO ys) (cV (tV []) (vO ya) (cV [] (vO yb) ())))) (y:=cV [i64] wW (1,())) e
end Go.Proofs.Vq

noncomputable section
namespace Go.Proofs.Vq
open Go.Ab Go.Ab.Lf Go.Proofs.Sw
set_option maxRecDepth 100000
def t40(x:cf DN):Lf.T (List Pl):=qA (Ps [.ag (Ps [.n .i64,.n .i64,.n .i64,.n .u64,.n .u64,.im i64]),.n .i64]) [] (Ps [.tu (Ps [.ow nd,.n .i64,.n .i64])]) (fun _=>none) Tryz.x40 80 (pY e43 80) (cq DN x)
def k40(x:cf DN):Bool:=cO (oy tG (t40 x))
def m40(x:cf DN):cf tG:=cO (nq tG (t40 x))
def s40:ny:=pW (Ps [.ag (Ps [.n .i64,.n .i64,.n .i64,.n .u64,.n .u64,.im i64]),.n .i64]) [] (Ps [.tu (Ps [.ow nd,.n .i64,.n .i64])]) DN tG fun x=>.ck (k40 x) (.ok (m40 x))
theorem agM{cr:cx}(W:WQ cr):s40.Ok 40 cr:=
 mC (W.in (agn W) 80) (W.st 40 _ rfl) rfl (cD _) (m:=80) rfl (fun _=>ca _) (fun _=>ca _)
end Go.Proofs.Vq

noncomputable section
namespace Go.Proofs.Vq
open Go.Ab Go.Ab.Lf Go.Proofs.Sw
set_option maxRecDepth 100000
abbrev w9:Option (List Pl):=some (cq tG ([],0,1,()))
abbrev atF(b:Int)(p:List Sc×Nat):Option (List Pl):=bif decide (b<0)then w9 else bif decide (4032<b)then w9 else some (cq tG (p.1.map (toC b),(p.2:Int),0,()))
def SqP(op:Int)(p:List Sc×Nat):Prop:= ∀ (A B lo hi:Int) (L:List Int) (b:Int),(t40 (op,A,B,lo,hi,L,b,())).val=atF b p
end Go.Proofs.Vq

noncomputable section
namespace Go.Proofs.Vq
open Go.Ab Go.Ab.Lf Go.Proofs.Sw
set_option maxRecDepth 100000
def alS:List (Nat×ny):=[(88,Lc),(150,aaP),(249,agb),(155,alC),(159,alD),(151,alL),(148,alN)]
theorem abf{cr:cx}(W:WQ cr):nZ cr alS:=.cons (wX W) (.cons (Gk W) (.cons (Ol W) (.cons (aa8 W) (.cons (aa9 W) (.cons (abc W) (.cons (abd W) .nil))))))
abbrev Ln:List Ty:=[i64,i64,i64,u64,u64,.cp i64,.cp u64]
abbrev I0:List Ty:=[.cp u64,i64]
def ra(x:cf Ln):Lf.T (List Pl):=qA (Ps [.ag (Ps [.n .i64,.n .i64,.n .i64,.n .u64,.n .u64,.im i64]),.im u64]) [] (Ps [.tu (Ps [.ow u64,.n .i64])]) (fun _=>none) Tryz.x38 40 (pY alS 40) (cq Ln x)
def DR(x:cf Ln):Bool:=cO (oy I0 (ra x))
def rE(x:cf Ln):cf I0:=cO (nq I0 (ra x))
def atG:ny:=pW (Ps [.ag (Ps [.n .i64,.n .i64,.n .i64,.n .u64,.n .u64,.im i64]),.im u64]) [] (Ps [.tu (Ps [.ow u64,.n .i64])]) Ln I0 fun x=>.ck (DR x) (.ok (rE x))
theorem abg{cr:cx}(W:WQ cr):atG.Ok 38 cr:=
 mC (W.in (abf W) 40) (W.st 38 _ rfl) rfl (cD _) (m:=40) rfl (fun _=>ca _) (fun _=>ca _)
end Go.Proofs.Vq

noncomputable section
namespace Go.Proofs.Vq
open Go.Ab Go.Ab.Lf Go.Proofs.Sw
set_option maxRecDepth 100000
abbrev okD(l:List Int):Option (List Pl):=some (cq I0 (l,0,()))
abbrev DS(e:Int):Option (List Pl):=some (cq I0 ([],e,()))
abbrev hlD(v:Nat->Int):Option (List Pl):=okD [pd v 0 8,pd v 8 8]
abbrev vy(a b:Int):Vy:=cV [] (qa a b) ()
def DU(op:Int):Prop:= ∀ (A B lo hi:Int) (L:List Int) (a b:Int),(ra (op,A,B,lo,hi,L,[a,b],())).val=cF (Qu (op,vy a b)) (bif !decide (pjE (IV (op,vy a b))=0)then DS (pjE (IV (op,vy a b)))else hlD (vO (pjV (IV (op,vy a b)))))
def DB(op:Int):Prop:= ∀ (A B lo hi:Int) (L:List Int) (a b c d:Int),(ra (op,A,B,lo,hi,L,[a,b,c,d],())).val=cF (IX (op,cV (tV []) (qa a b) (cV [] (qa c d) ()))) (bif !decide (pjE (DP (op,cV (tV []) (qa a b) (cV [] (qa c d) ())))=0)then DS (pjE (DP (op,cV (tV []) (qa a b) (cV [] (qa c d) ()))))else hlD (vO (pjV (DP (op,cV (tV []) (qa a b) (cV [] (qa c d) ()))))))
def agN:Prop:= ∀ (A B lo hi:Int) (L:List Int) (a b c d:Int),(ra (64781,A,B,lo,hi,L,[a,b,c,d],())).val=cF (IZ (cV (tV (tV [])) (qa lo hi) (cV (tV []) (qa a b) (cV [] (qa c d) ())))) (bif !decide (pjE (DQ (cV (tV (tV [])) (qa lo hi) (cV (tV []) (qa a b) (cV [] (qa c d) ()))))=0)then DS (pjE (DQ (cV (tV (tV [])) (qa lo hi) (cV (tV []) (qa a b) (cV [] (qa c d) ())))))else hlD (vO (pjV (DQ (cV (tV (tV [])) (qa lo hi) (cV (tV []) (qa a b) (cV [] (qa c d) ())))))))
def atH:Prop:= ∀ (A B lo hi:Int) (L:List Int) (a b c d:Int),(ra (64782,A,B,lo,hi,L,[a,b,c,d],())).val=cF (VL (cV (tV []) (qa a b) (cV [] (qa c d) ()))) (hlD (vO (VM (cV (tV []) (qa a b) (cV [] (qa c d) ())))))
def alT:Prop:= ∀ (A B lo hi:Int) (L:List Int),(ra (64780,A,B,lo,hi,L,[],())).val=hlD (qa lo hi)
def Df(w:Nat)(x:Int):Nat->Vy
 |0=>zV
 |n+1=>cV [] (pX (vO (Df w x n)) (w:Int) (n:Int) x) ()
def atI(op:Int)(w:Nat):Prop:= ∀ (A B lo hi:Int) (L:List Int) (a:Int),(ra (op,A,B,lo,hi,L,[a],())).val=hlD (vO (Df w (gX (qa (bif Nat.beq w 64 then a else mN .u64 a 4294967295) 0) 64 0) (128 / w)))
def agO(op:Int)(w:Nat)(sd:Bool)(A:Nat):Prop:= ∀ (B lo hi:Int) (L:List Int) (a b:Int),(ra (op,(A:Int),B,lo,hi,L,[a,b],())).val=okD [bif sd then cb .u64 (cb .u32 (oP .i64 (uE .i64 (cb .i64 (gX (qa a b) (w:Int) (A:Int))) (64 - w:Nat)) (64 - w:Nat)))else gX (qa a b) (w:Int) (A:Int)]
def atJ(op:Int)(w:Nat)(A:Nat):Prop:= ∀ (B lo hi:Int) (L:List Int) (a b c:Int),(ra (op,(A:Int),B,lo,hi,L,[a,b,c],())).val=cF (o9 (qa a b)) (hlD (pX (qa a b) (w:Int) (A:Int) (gX (qa (bif Nat.beq w 64 then c else mN .u64 c 4294967295) 0) 64 0)))
def DNo(op:Int)(N:Nat):Prop:= ∀ (A B lo hi:Int) (L:List Int) (a b c d:Int),(N=0∨(ra (op,A,B,lo,hi,L,[],())).val=DS 1)/\(N=1∨(ra (op,A,B,lo,hi,L,[a],())).val=DS 1)/\(N=2∨(ra (op,A,B,lo,hi,L,[a,b],())).val=DS 1)/\(N=3∨(ra (op,A,B,lo,hi,L,[a,b,c],())).val=DS 1)/\(N=4∨(ra (op,A,B,lo,hi,L,[a,b,c,d],())).val=DS 1)
end Go.Proofs.Vq

noncomputable section
namespace Go.Proofs.Vq
open Go.Ab Go.Ab.Lf Go.Proofs.Sw
set_option maxRecDepth 100000
def VO:ny:=pW (Ps []) [] (Ps [.bo]) [] [.bool] fun _=>.ok (true,())
structure WP(cr:cx):Prop extends WQ cr where
 aw:VO.Ok 36 cr
 chk:(Uv Qi).Ok 56 cr
def agP(N L:Nat):ny:=pW (Ps [.ag (Ps [.n .i64,.n .i64,.n .i64,.n .u64,.n .u64,.im i64]),.im u64]) [] (Ps [.tu (Ps [.ow u64,.n .i64])]) Ln I0 fun x=>.ck (DR x) (bif Nat.beq (len x.2.2.2.2.2.2.1) N then
 .ck (decide ((rE x).2.1=0)&&decide ((rE x).1.length=L)) (.ok (bif Nat.beq L 2 then [(rE x).1.getD 0 0,(rE x).1.getD 1 0]else bif Nat.beq L 1 then [(rE x).1.getD 0 0]else(rE x).1,(0,())))
 else .ck (decide ((rE x).1.length=0)&&decide ((rE x).2.1=1)) (.ok ([],(1,()))))
theorem OM{cr:cx}(W:WQ cr)(N L:Nat):(agP N L).Ok 38 cr:=by
 refine OA (abg W) fun x y h=>?_
 obtain⟨hk,h⟩:=Lf.T.cP h
 obtain⟨l,e,u⟩: ∃ l e,rE x=(l,(e,())):=⟨_,_,rfl⟩
 have key:y=rE x:=by
  rw[u]at h ⊢
  simp only at h
  cases hb:Nat.beq (len x.2.2.2.2.2.2.1) N with
  |true=>
   rw[hb]at h
   obtain⟨h1,h⟩:=Lf.T.cP h
   rw[Bool.and_eq_true]at h1
   have e0:e=0:=of_decide_eq_true h1.1
   have hL:l.length=L:=of_decide_eq_true h1.2
   cases h
   subst e0
   cases h2:Nat.beq L 2 with
   |true=>rw[cond_true,<-Vm (hL.trans (Nat.eq_of_beq_eq_true h2))]
   |false=>
    rw[cond_false]
    cases h3:Nat.beq L 1 with
    |true=>rw[cond_true,<-Vn (hL.trans (Nat.eq_of_beq_eq_true h3))]
    |false=>rfl
  |false=>
   rw[hb]at h
   obtain⟨h1,h⟩:=Lf.T.cP h
   rw[Bool.and_eq_true]at h1
   cases h
   rw[List.length_eq_zero_iff.1 (of_decide_eq_true h1.1),show e=1 from of_decide_eq_true h1.2]
 subst key
 show(Lf.T.ck (DR x) (.ok (rE x))).val=_
 rw[hk];rfl
abbrev A3:List Ty:=[i64,i64,i64,u64,u64,.cp i64,u64,u64,u64,u64]
def e8w(g:Cg)(N L:Nat):List (Nat×ny):=[(18,s18),(22,s22),(23,s23 g),(25,s25),(38,agP N L),(36,VO),(40,s40),(88,Lc)]
theorem Lp{g:Cg}{cr:cx}(W:WP cr)(hg:(sG g).Ok 73 cr)(N L:Nat):nZ cr (e8w g N L):=.cons (Uw W.toWQ W.chk) (.cons (UB W.toWQ) (.cons (Ut W.toWQ hg) (.cons (UG W.toWQ) (.cons (OM W.toWQ N L) (.cons W.aw (.cons (agM W.toWQ) (.cons (wX W.toWQ) .nil)))))))
def t8w(g:Cg)(N L:Nat)(x:cf A3):Lf.T (List Pl):=qA (Ps [.ag (Ps [.n .i64,.n .i64,.n .i64,.n .u64,.n .u64,.im i64]),.ag (Ps [.n .u64,.n .u64,.n .u64,.n .u64])]) [] (Ps [.bo]) (fun _=>none) Tryz.x8 12 (pY (e8w g N L) 12) (cq A3 x)
end Go.Proofs.Vq

noncomputable section
namespace Go.Proofs.Vq
open Go.Ab Go.Ab.Lf Go.RowKit
set_option maxRecDepth 100000
theorem Gu{k:IntKind}{F:Int->Int}{b:Int}{f:FuncId}(hf: ∀ x:Int,oi (Ps [.n k]) (cq [.int k] (x,())) Lf.e1=some ([.c 0 (.int k) x],[],Lf.e1))(hr: ∀ z x:Int,(qA (Ps [.n k]) [] (Ps [.n .i64]) (fun _=>none) (rC (.int .i64 z)) 3 (fun _ _ _=>.bad) (cq [.int k] (x,()))).val=some (cq [i64] (z,())))(hh:Gd f=false)(hl: ∀ x:Int,0<=x->x<=b->Ay f [.int k x]=some (.int .i64 (F x))):(sBt k F b).Ok f oL:=by
 unfold sBt
 refine UN ?_
 rintro⟨x,⟨⟩⟩ y args H0 E0 h az h1 hP hv hS
 obtain⟨h2,h3⟩:=Lf.T.cP h1
 simp only[Bool.and_eq_true,decide_eq_true_eq]at h2
 have hP2:some (([.c 0 (.int k) x]:List Sv),([]:List Pl),Lf.e1)=some (args,[],H0):=(hf x).symm.trans hP
 cases hP2
 have ha:az=[.int k x]:=by
  cases hv with
  |cons ha hr=>
   cases hr
   cases ha with
   |c kx _=>exact kx
 subst ha
 refine⟨.int .i64 (F x),fun _=>.ok (F x,()),h3,NR ?_,fun n d=>Bq hh (hl x h2.1 h2.2) n (d+1)⟩
 rintro⟨x',⟨⟩⟩ y' h'
 cases h'
 exact hr (F x) x'
theorem Gv{k:IntKind}{b:Int}{F:Int->Int}{x:Int}(h0:0<=x)(h1:x<=b):lkN k b F [.int k x]=some (.int .i64 (F x)):=by
 show(bif decide (k=k)&&(decide (0<=x)&&decide (x<=b))then some (AV.int .i64 (F x))else none)=_
 rw[decide_eq_true rfl,decide_eq_true h0,decide_eq_true h1]
 rfl
theorem abj:s49.Ok 49 oL:=Gu (fun x=>by kernel_rfl) (fun z x=>by kernel_rfl) rfl fun x h0 h1=>Gv h0 h1
theorem abk:s50.Ok 50 oL:=Gu (fun x=>by kernel_rfl) (fun z x=>by kernel_rfl) rfl fun x h0 h1=>Gv h0 h1
theorem abl:s52.Ok 52 oL:=Gu (fun x=>by kernel_rfl) (fun z x=>by kernel_rfl) rfl fun x h0 h1=>Gv h0 h1
theorem abm:s53.Ok 53 oL:=Gu (fun x=>by kernel_rfl) (fun z x=>by kernel_rfl) rfl fun x h0 h1=>Gv h0 h1
theorem abn:VO.Ok 36 oL:=by
 unfold VO
 refine UN ?_
 rintro⟨⟩ y args H0 E0 h az h1 hP hv hS
 have hP2:some (([]:List Sv),([]:List Pl),Lf.e1)=some (args,[],H0):=hP
 cases hP2
 cases hv
 refine⟨.bool true,fun _=>.ok (true,()),h1,NR ?_,fun n d=>Bq rfl rfl n (d+1)⟩
 rintro⟨⟩ y' h'
 cases h'
 kernel_rfl
theorem alU(x:cf tM):(qA (Ps [pMF .im]) [] (Ps [.n .i64]) (fun _=>none) (rC (.int .i64 0)) 3 (fun _ _ _=>.bad) (cq tM x)).val=some (cq [i64] (0,())):=by kernel_rfl
theorem abo:(Uv Qi).Ok 56 oL:=by
 unfold Uv
 refine UN ?_
 intro X y args H0 E0 h az h1 hP hv hS
 obtain⟨h2,h3⟩:=Lf.T.cP h1
 obtain rfl:=KS h2
 refine⟨.int .i64 0,fun _=>.ok (0,()),h3,NR ?_,?_⟩
 ·intro x' y' h'
  cases h'
  exact alU x'
 have hP2:some (([.ag [.c 1 (.cp mc) mM.1,.c 2 (.cp AP) mM.2.1,.c 3 (.cp i64) mM.2.2.1,.c 4 (.cp uj) mM.2.2.2.1,.c 5 (.cp uj) mM.2.2.2.2.1,.c 6 (.cp AQ) mM.2.2.2.2.2.1,.c 7 (.cp AR) mM.2.2.2.2.2.2.1,.c 0 i64 mM.2.2.2.2.2.2.2.1,.c 8 (.cp AU) mM.2.2.2.2.2.2.2.2.1,.c 9 (.cp AW) mM.2.2.2.2.2.2.2.2.2.1,.c 10 (.cp AX) mM.2.2.2.2.2.2.2.2.2.2.1]]:List Sv),([]:List Pl),(⟨11,.nil⟩:Hq))=some (args,[],H0):=by
  rw[<-hP]
  kernel_rfl
 cases hP2
 have hG: ∀ id row,E0.G id=some row->h.cw.get id=some row:=fun id row g=>(hS.g id row g).2.1
 have Q5: ∀ {a:Sv} {l:List Sv} {m:List AV},Vs E0 11 (a::l) m-> ∃ c r,m=c::r/\V E0 11 a c/\Vs E0 11 l r:=by
  intro a l m hm
  cases hm with
  |cons p q=>exact⟨_,_,rfl,p,q⟩
 have alV: ∀ {m:List AV},Vs E0 11 [] m->m=[]:=by
  intro m hm
  cases hm
  rfl
 have ev: ∀ {m:Nat} {t:Ty} {x:den t} {a:AV},V E0 11 (.c m t x) a->EV E0.G t x [a]:=by
  intro m t x a ha
  cases ha with
  |c kx _=>exact kx
 obtain⟨c0,r0,rfl,hag,hr0⟩:=Q5 hv
 obtain rfl:=alV hr0
 obtain⟨m,rfl,hm⟩: ∃ m,c0=.agg m/\Vs E0 11 [.c 1 (.cp mc) mM.1,.c 2 (.cp AP) mM.2.1,.c 3 (.cp i64) mM.2.2.1,.c 4 (.cp uj) mM.2.2.2.1,.c 5 (.cp uj) mM.2.2.2.2.1,.c 6 (.cp AQ) mM.2.2.2.2.2.1,.c 7 (.cp AR) mM.2.2.2.2.2.2.1,.c 0 i64 mM.2.2.2.2.2.2.2.1,.c 8 (.cp AU) mM.2.2.2.2.2.2.2.2.1,.c 9 (.cp AW) mM.2.2.2.2.2.2.2.2.2.1,.c 10 (.cp AX) mM.2.2.2.2.2.2.2.2.2.2.1] m:=by
  cases hag with
  |ag q=>exact⟨_,rfl,q⟩
 obtain⟨b1,m1,rfl,v1,h1z⟩:=Q5 hm
 obtain⟨b2,m2,rfl,v2,h2z⟩:=Q5 h1z
 obtain⟨b3,m3,rfl,v3,h3z⟩:=Q5 h2z
 obtain⟨b4,m4,rfl,v4,h4⟩:=Q5 h3z
 obtain⟨b5,m5,rfl,v5,h5⟩:=Q5 h4
 obtain⟨b6,m6,rfl,v6,h6⟩:=Q5 h5
 obtain⟨b7,m7,rfl,v7,h7⟩:=Q5 h6
 obtain⟨b8,m8,rfl,v8,h8⟩:=Q5 h7
 obtain⟨b9,m9,rfl,v9,h9⟩:=Q5 h8
 obtain⟨b10,m10,rfl,v10,h10⟩:=Q5 h9
 obtain⟨b11,m11,rfl,v11,h11⟩:=Q5 h10
 obtain rfl:=alV h11
 have hE:EV E0.G tMm Iy [b1,b2,b3,b4,b5,b6,b7,b8,b9,b10,b11]:=⟨[b1],_,rfl,ev v1,⟨[b2],_,rfl,ev v2,⟨[b3],_,rfl,ev v3,⟨[b4],_,rfl,ev v4,⟨[b5],_,rfl,ev v5,⟨[b6],_,rfl,ev v6,⟨[b7],_,rfl,ev v7,⟨[b8],_,rfl,ev v8,⟨[b9],_,rfl,ev v9,⟨[b10],_,rfl,ev v10,ev v11⟩⟩⟩⟩⟩⟩⟩⟩⟩⟩
 obtain⟨cs',k1,k2⟩:=Gb hG tMm 7 Iy _ (by decide) hE
 refine fun n d=>UM rfl (az':=[.agg cs']) ?_ ?_ n (d+1)
 ·show(match(match mapA (xD 7 h) _ with|some l=>some (AV.agg l)|none=>none)with|some b=>some [b]|none=>none)=_
  rw[k1]
 ·show(bif @decide (56=56/\EV N0 tMm Iy cs') (Classical.propDecidable _)then some (AV.int .i64 0)else none)=_
  rw[@decide_eq_true _ (Classical.propDecidable _) ⟨rfl,k2⟩]
  rfl
theorem VP:WP oL where
 st:=ED
 c67:=aar
 c69:=aas
 c70:=aau
 c71:=aav
 c72:=aaw
 ajK:=UO
 ajL:=UP
 ajM:=UQ
 ajN:=UR
 ajO:=US
 ajP:=UT
 ajQ:=UU
 ajR:=UW
 ajS:=UX
 b49:=abj
 b50:=abk
 b52:=abl
 b53:=abm
 aw:=abn
 chk:=abo
end Go.Proofs.Vq

noncomputable section
namespace Go.Proofs.Vq
open Go.Ab Go.Ab.Lf Go.Proofs.Sw
set_option maxRecDepth 1000000
def A4(sm:Bool)(x0 x1 x2 x3:Int):Nat->List Int
 |0=>[]
 |1=>[bif sm then ze x0 else x0]
 |2=>[x0,bif sm then ze x1 else x1]
 |3=>[x0,x1,bif sm then ze x2 else x2]
 | _=>[x0,x1,x2,bif sm then ze x3 else x3]
def Xh(n:Nat):List (den nd):=((List.range n).map Sc.g).map (toC 0)
def wsP(Lr:Nat)(l:List Int):List Int:=bif Nat.beq Lr 2 then [l.getD 0 0,l.getD 1 0]else [l.getD 0 0]
def ON(g:Cg)(n:Int)(cs:List (den nd))(tn:List Int)(l w to:List Int)(loc:Int)(q:cf tG)(X:cf DL):Option (List Pl):=
 bif (bif !decide (q.2.2.1=0)then true else false)then some (cq zq (false,()))else
 cF (roomy 24 (cs.length+q.1.length)) (cF (roomy 24 ((app cs q.1).length+1)) (cF (decide (Int.ofNat w.length=Int.ofNat w.length)&&decide (loc=loc)) (cF (k22 X) (cF (k23 g (Vo (m22 X) l)) (
  bif decide ((m23 g (Vo (m22 X) l)).1=0)then cF (k25 ((m23 g (Vo (m22 X) l)).2.2.1,w,())) (some (cq zq (m25 ((m23 g (Vo (m22 X) l)).2.2.1,w,()))))else some (cq zq (false,())))))))
def abp(g:Cg)(o A B lo hi:Int)(L:List Int)(n Lr:Nat)(l w:List Int):Option (List Pl):=
 cF (k40 (o,A,B,lo,hi,L,(n:Int),())) (cF (Qi mM) (ON g (n:Int) (Xh n) (List.replicate n (126:Int)) l w (List.replicate Lr (126:Int)) (m40 (o,A,B,lo,hi,L,(n:Int),())).2.1 (m40 (o,A,B,lo,hi,L,(n:Int),())) (OB (n:Int) (Xh n) (List.replicate n (126:Int)) w (List.replicate Lr (126:Int)) (m40 (o,A,B,lo,hi,L,(n:Int),())).2.1 (m40 (o,A,B,lo,hi,L,(n:Int),())))))
def VQ(g:Cg)(o A B lo hi:Int)(L:List Int)(sm:Bool)(Lr:Nat)(x0 x1 x2 x3:Int):Nat->Nat->Option (List Pl)
 |0,n=>cF (DR (o,A,B,lo,hi,L,A4 sm x0 x1 x2 x3 n,())) (cF (decide ((rE (o,A,B,lo,hi,L,A4 sm x0 x1 x2 x3 n,())).2.1=0)&&decide ((rE (o,A,B,lo,hi,L,A4 sm x0 x1 x2 x3 n,())).1.length=Lr)) (abp g o A B lo hi L n Lr (A4 sm x0 x1 x2 x3 n) (wsP Lr (rE (o,A,B,lo,hi,L,A4 sm x0 x1 x2 x3 n,())).1)))
 |f+1,n=>cF (DR (o,A,B,lo,hi,L,A4 sm x0 x1 x2 x3 n,())) (cF (decide ((rE (o,A,B,lo,hi,L,A4 sm x0 x1 x2 x3 n,())).1.length=0)&&decide ((rE (o,A,B,lo,hi,L,A4 sm x0 x1 x2 x3 n,())).2.1=1)) (VQ g o A B lo hi L sm Lr x0 x1 x2 x3 f (n+1)))
def LE(op:Int)(N Lr:Nat)(sm:Bool):Prop:= ∀ (g:Cg) (A B lo hi:Int) (L:List Int) (x0 x1 x2 x3:Int),(t8w g N Lr (op,A,B,lo,hi,L,x0,x1,x2,x3,())).val=VQ g op A B lo hi L sm Lr x0 x1 x2 x3 N 0
end Go.Proofs.Vq

noncomputable section
namespace Go.Proofs.Vq
open Go.Ab Go.Ab.Lf Go.Proofs.Sw
set_option maxRecDepth 1000000
theorem I1{g:Cg}{n:Int}{cs:List (den nd)}{tn l w to:List Int}{loc:Int}{q:cf tG}{X:cf DL}(h:q.2.2.1=0):ON g n cs tn l w to loc q X=aa2 g n cs tn l w to loc q X:=by
 unfold ON aa2
 rw[h]
 rfl
theorem wY{x:cf Ln}{w:List Int}{e:Int}(h:(ra x).val=some (cq I0 (w,e,()))):DR x=true/\rE x=(w,e,()):=mO (ca _) (ca _) h
structure SqN(op A B lo hi:Int)(L:List Int)(n:Nat)(l:List Sc)(N:Nat):Prop where
 S:(t40 (op,A,B,lo,hi,L,(n:Int),())).val=some (cq tG (l.map (toC (n:Int)),(N:Int),0,()))
 ok: ∀ c,c∈l->Bu N c=true
 len:l.length<=10000
 n:N<=1000
theorem abq(g:Cg){op A B lo hi:Int}{L:List Int}{xs ys:List Nat}{l:List Sc}{N Lr:Nat}{nK:Nat->Nat}(Q:SqN op A B lo hi L xs.length l N)(n6:xs.length<=6)(o2:ys.length<=2)(hL:ys.length=Lr)(hx: ∀ v,v∈xs->v<nh)(hr:run l xs.reverse (fun _=>0)=some (ys.reverse,nK)):
 abp (g1 g) op A B lo hi L xs.length Lr (toI xs) (toI ys)=some (cq zq (true,())):=by
 subst hL
 have q:=mO (k:=k40 (op,A,B,lo,hi,L,(xs.length:Int),())) (m:=m40 (op,A,B,lo,hi,L,(xs.length:Int),())) (ca _) (ca _) Q.S
 have lcs:(Xh xs.length).length=xs.length:=by unfold Xh;rw[List.length_map,List.length_map,List.length_range]
 unfold abp
 rw[q.1,Bp]
 have ct: ∀ r:Option (List Pl),cF true r=r:=fun _=>rfl
 rw[ct,ct,I1 (by rw[q.2])]
 refine Vr g n6 o2 hx (b:=xs.length) (N:=N) (l:=l) (Nat.le_refl _) (by have:=Q.n;omega) Q.len Q.ok hr _ _ (List.replicate xs.length (126:Int)) (List.replicate ys.length (126:Int)) _ _ _ (by rw[lcs];exact n6) q.2 ?_
 unfold OB
 rw[q.2]
 show([(List.replicate xs.length (126:Int),List.replicate ys.length (126:Int))],[((-1:Int),(0:Int),(xs.length:Int),Int.ofNat (toI ys).length,(N:Int),app (app (Xh xs.length) (l.map (toC (xs.length:Int)))) [((15:Int),(0:Int),(0:Int))],[])],tF (tB []) Ix (vE [] ⟨[],[],0⟩ ()))=_
 rw[mP,mP,show(toI ys).length=ys.length from List.length_map ..,List.append_assoc]
 unfold rq
 rw[Nat.sub_self,Nat.zero_add]
 rfl
def GL(sm:Bool)(x0 x1 x2 x3:Nat):Nat->List Nat
 |0=>[]
 |1=>[bif sm then x0 % 4294967296 else x0]
 |2=>[x0,bif sm then x1 % 4294967296 else x1]
 |3=>[x0,x1,bif sm then x2 % 4294967296 else x2]
 | _=>[x0,x1,x2,bif sm then x3 % 4294967296 else x3]
theorem I2(x:Nat)(h:x<nh):ze (x:Int)=((x % 4294967296:Nat):Int):=by
 have:=Bt x 4294967295 h (by decide)
 rw[show(4294967295:Nat)=2 ^ 32 - 1 from rfl,Nat.and_two_pow_sub_one_eq_mod]at this
 exact this
theorem OO(sm:Bool){x0 x1 x2 x3:Nat}(h0:x0<nh)(h1:x1<nh)(h2:x2<nh)(h3:x3<nh)(n:Nat)(hn:n<=4):A4 sm (x0:Int) (x1:Int) (x2:Int) (x3:Int) n=toI (GL sm x0 x1 x2 x3 n)/\(GL sm x0 x1 x2 x3 n).length=n/\ ∀ v,v∈GL sm x0 x1 x2 x3 n->v<nh:=by
 have m: ∀ x,x<nh->(bif sm then ze (x:Int)else(x:Int))=(((bif sm then x % 4294967296 else x:Nat)):Int)/\(bif sm then x % 4294967296 else x)<nh:=fun x hx=>by
  cases sm with
  |true=>exact⟨I2 x hx,Nat.lt_of_le_of_lt (Nat.mod_le _ _) hx⟩
  |false=>exact⟨rfl,hx⟩
 have:n=0∨n=1∨n=2∨n=3∨n=4:=by omega
 rcases this with rfl|rfl|rfl|rfl|rfl
 ·exact⟨rfl,rfl,fun v hv=>nomatch hv⟩
 ·refine⟨by show [bif sm then ze (x0:Int)else(x0:Int)]=_;rw[(m x0 h0).1];rfl,rfl,fun v hv=>?_⟩
  rw[show v=_ from List.mem_singleton.1 hv];exact(m x0 h0).2
 ·refine⟨by show [(x0:Int),bif sm then ze (x1:Int)else(x1:Int)]=_;rw[(m x1 h1).1];rfl,rfl,fun v hv=>?_⟩
  simp only[GL,List.mem_cons,List.not_mem_nil,or_false]at hv
  rcases hv with rfl|rfl
  ·exact h0
  ·exact(m x1 h1).2
 ·refine⟨by show [(x0:Int),(x1:Int),bif sm then ze (x2:Int)else(x2:Int)]=_;rw[(m x2 h2).1];rfl,rfl,fun v hv=>?_⟩
  simp only[GL,List.mem_cons,List.not_mem_nil,or_false]at hv
  rcases hv with rfl|rfl|rfl
  ·exact h0
  ·exact h1
  ·exact(m x2 h2).2
 ·refine⟨by show [(x0:Int),(x1:Int),(x2:Int),bif sm then ze (x3:Int)else(x3:Int)]=_;rw[(m x3 h3).1];rfl,rfl,fun v hv=>?_⟩
  simp only[GL,List.mem_cons,List.not_mem_nil,or_false]at hv
  rcases hv with rfl|rfl|rfl|rfl
  ·exact h0
  ·exact h1
  ·exact h2
  ·exact(m x3 h3).2
def OP(op A B lo hi:Int)(L:List Int)(N Lr:Nat)(sm:Bool)(l:List Sc):Prop:= ∀ x0 x1 x2 x3:Nat,x0<nh->x1<nh->x2<nh->x3<nh-> ∃ (ys:List Nat) (nK:Nat->Nat),(ra (op,A,B,lo,hi,L,toI (GL sm x0 x1 x2 x3 N),())).val=okD (toI ys)/\ys.length=Lr/\run l (GL sm x0 x1 x2 x3 N).reverse (fun _=>0)=some (ys.reverse,nK)
def DoN(op A B lo hi:Int)(L:List Int)(N:Nat):Prop:= ∀ l:List Int,l.length<N->(ra (op,A,B,lo,hi,L,l,())).val=DS 1
theorem VS{Lr:Nat}{l:List Int}(h:l.length=Lr)(hL:Lr=1∨Lr=2):wsP Lr l=l:=by
 unfold wsP
 rcases hL with rfl|rfl
 ·exact(Vn h).symm
 ·exact(Vm h).symm
theorem xE(g:Cg){op A B lo hi:Int}{L:List Int}{N Lr:Nat}{sm:Bool}{l:List Sc}{sc:Nat}(E:LE op N Lr sm)(hN:N<=4)(hLr:Lr=1∨Lr=2)(Q:SqN op A B lo hi L N l sc)(D:OP op A B lo hi L N Lr sm l)(R:DoN op A B lo hi L N){x0 x1 x2 x3:Nat}(h0:x0<nh)(h1:x1<nh)(h2:x2<nh)(h3:x3<nh):
 (t8w (g1 g) N Lr (op,A,B,lo,hi,L,(x0:Int),(x1:Int),(x2:Int),(x3:Int),())).val=some (cq zq (true,())):=by
 rw[E]
 have ct: ∀ r:Option (List Pl),cF true r=r:=fun _=>rfl
 have key: ∀ f n,n+f=N->VQ (g1 g) op A B lo hi L sm Lr (x0:Int) (x1:Int) (x2:Int) (x3:Int) f n=some (cq zq (true,())):=by
  intro f
  induction f with
  |zero=>
   intro n hn
   obtain rfl:n=N:=by omega
   obtain⟨e1,e2,e3⟩:=OO sm h0 h1 h2 h3 n hN
   obtain⟨ys,nK,d1,d2,d3⟩:=D x0 x1 x2 x3 h0 h1 h2 h3
   obtain⟨q1,q2⟩:=wY d1
   unfold VQ
   rw[e1,q1,q2,ct]
   have hl:(toI ys).length=Lr:=(List.length_map ..).trans d2
   show cF (decide ((0:Int)=0)&&decide ((toI ys).length=Lr)) (abp (g1 g) op A B lo hi L n Lr (toI (GL sm x0 x1 x2 x3 n)) (wsP Lr (toI ys)))=_
   rw[dt rfl,dt hl,VS hl hLr]
   have r:=abq g (op:=op) (A:=A) (B:=B) (lo:=lo) (hi:=hi) (L:=L) (xs:=GL sm x0 x1 x2 x3 n) (ys:=ys) (l:=l) (N:=sc) (by rw[e2];exact Q) (by omega) (by omega) d2 e3 d3
   rw[e2]at r
   rw[r]
   rfl
  |succ f ih=>
   intro n hn
   obtain⟨e1,e2,e3⟩:=OO sm h0 h1 h2 h3 n (by omega)
   obtain⟨q1,q2⟩:=wY (R (toI (GL sm x0 x1 x2 x3 n)) (by rw[show(toI (GL sm x0 x1 x2 x3 n)).length=_ from List.length_map ..,e2];omega))
   unfold VQ
   rw[e1,q1,q2,ct]
   have e4:(decide (([]:List Int).length=0)&&decide ((1:Int)=1))=true:=rfl
   show cF (decide (([]:List Int).length=0)&&decide ((1:Int)=1)) _=_
   rw[e4,ct]
   exact ih (n+1) (by omega)
 exact key N 0 (Nat.zero_add _)
end Go.Proofs.Vq

noncomputable section
namespace Go.Proofs.Vq
open Go.Ab Go.Ab.Lf Go.Proofs.Sw
set_option maxRecDepth 1000000
theorem alW{W:Nat}{F:Nat->Int}{a b:Int}(h:[b,a]=(qJ W F).map fun n=>((n:Nat):Int)):toI (qJ W F).reverse=[a,b]/\(qJ W F).reverse.length=2:=by
 refine⟨?_,rfl⟩
 show(qJ W F).reverse.map _=_
 rw[List.map_reverse,<-h]
 rfl
theorem adj{k:Bool}{m:cf qK}{W:Nat}{F:Nat->Int}(h:Wid k m W F):cF k (bif !decide (pjE m=0)then DS (pjE m)else hlD (vO (pjV m)))=okD (toI (qJ W F).reverse):=by
 obtain⟨y,rfl,rfl,e⟩:=h
 rw[(alW e).1]
 rfl
theorem alX{op A B lo hi:Int}{L:List Int}{W:Nat}{F:Nat->Nat->Nat->Int}{l:List Sc}(hD:DU op)(hw: ∀ x0 x1:Nat,Wid (Qu (op,vy (x0:Int) (x1:Int))) (IV (op,vy (x0:Int) (x1:Int))) W (F x0 x1))(hr: ∀ x0 x1:Nat,∃ nK,run l [x1,x0] (fun _=>0)=some (qJ W (F x0 x1),nK)):OP op A B lo hi L 2 2 false l:=by
 intro x0 x1 x2 x3 _ _ _ _
 obtain⟨nK,r⟩:=hr x0 x1
 refine⟨(qJ W (F x0 x1)).reverse,nK,(hD A B lo hi L (x0:Int) (x1:Int)).trans (adj (hw x0 x1)),rfl,?_⟩
 rw[List.reverse_reverse]
 exact r
theorem alY{op A B lo hi:Int}{L:List Int}{W:Nat}{F:Nat->Nat->Nat->Nat->Nat->Int}{l:List Sc}(hD:DB op)(hw: ∀ x0 x1 x2 x3:Nat,Wid (IX (op,cV (tV []) (vO (vy (x0:Int) (x1:Int))) (cV [] (vO (vy (x2:Int) (x3:Int))) ()))) (DP (op,cV (tV []) (vO (vy (x0:Int) (x1:Int))) (cV [] (vO (vy (x2:Int) (x3:Int))) ()))) W (F x0 x1 x2 x3))(hr: ∀ x0 x1 x2 x3:Nat,∃ nK,run l [x3,x2,x1,x0] (fun _=>0)=some (qJ W (F x0 x1 x2 x3),nK)):OP op A B lo hi L 4 2 false l:=by
 intro x0 x1 x2 x3 _ _ _ _
 obtain⟨nK,r⟩:=hr x0 x1 x2 x3
 refine⟨(qJ W (F x0 x1 x2 x3)).reverse,nK,(hD A B lo hi L (x0:Int) (x1:Int) (x2:Int) (x3:Int)).trans (adj (hw x0 x1 x2 x3)),rfl,?_⟩
 rw[List.reverse_reverse]
 exact r
theorem vj{op A B lo hi:Int}{L:List Int}{N:Nat}(hN:N<=4)(h:DNo op N):DoN op A B lo hi L N:=by
 intro l hl
 match l,hl with
 | [],hl=>exact(h A B lo hi L 0 0 0 0).1.resolve_left (by simp at hl;omega)
 | [a],hl=>exact(h A B lo hi L a 0 0 0).2.1.resolve_left (by simp at hl;omega)
 | [a,b],hl=>exact(h A B lo hi L a b 0 0).2.2.1.resolve_left (by simp at hl;omega)
 | [a,b,c],hl=>exact(h A B lo hi L a b c 0).2.2.2.1.resolve_left (by simp at hl;omega)
 |a::b::c::d::e,hl=>simp at hl;omega
theorem Lq{op A B lo hi:Int}{L:List Int}{n:Nat}{l:List Sc}{sc:Nat}(h:SqP op (l,sc))(hn:n<=4)(ok:l.all (Bu sc)=true)(len:l.length<=10000)(hs:sc<=1000):SqN op A B lo hi L n l sc:=by
 refine⟨?_,List.all_eq_true.1 ok,len,hs⟩
 rw[h A B lo hi L (n:Int)]
 show(bif decide ((n:Int)<0)then w9 else bif decide ((4032:Int)<n)then w9 else _)=_
 rw[df (by omega),df (by omega)]
 rfl
def mU(op A B lo hi:Int)(L:List Int):Prop:= ∀ (g:Cg) (x0 x1 x2 x3:Nat),x0<nh->x1<nh->x2<nh->x3<nh-> ∃ N Lr,(t8w (g1 g) N Lr (op,A,B,lo,hi,L,(x0:Int),(x1:Int),(x2:Int),(x3:Int),())).val=some (cq zq (true,()))
structure PU(op:Int)(l:List Sc)(sc:Nat):Prop where
 d:DU op
 n:DNo op 2
 s:SqP op (l,sc)
 e:LE op 2 2 false
 ok:l.all (Bu sc)=true
 len:Nat.ble l.length 10000=true
 sc:Nat.ble sc 1000=true
structure PB(op:Int)(l:List Sc)(sc:Nat):Prop where
 d:DB op
 n:DNo op 4
 s:SqP op (l,sc)
 e:LE op 4 2 false
 ok:l.all (Bu sc)=true
 len:Nat.ble l.length 10000=true
 sc:Nat.ble sc 1000=true
theorem alZ{op A B lo hi:Int}{L:List Int}{l:List Sc}{sc W:Nat}{F:Nat->Nat->Nat->Int}(P:PU op l sc)(hw: ∀ x0 x1:Nat,Wid (Qu (op,vy (x0:Int) (x1:Int))) (IV (op,vy (x0:Int) (x1:Int))) W (F x0 x1))(hr: ∀ x0 x1:Nat,∃ nK,run l [x1,x0] (fun _=>0)=some (qJ W (F x0 x1),nK)):mU op A B lo hi L:=fun g x0 x1 x2 x3 h0 h1 h2 h3=>
 ⟨2,2,xE g P.e (by decide) (.inr rfl) (Lq P.s (by decide) P.ok (Nat.le_of_ble_eq_true P.len) (Nat.le_of_ble_eq_true P.sc)) (alX P.d hw hr) (vj (by decide) P.n) h0 h1 h2 h3⟩
theorem abr{op A B lo hi:Int}{L:List Int}{l:List Sc}{sc W:Nat}{F:Nat->Nat->Nat->Nat->Nat->Int}(P:PB op l sc)(hw: ∀ x0 x1 x2 x3:Nat,Wid (IX (op,cV (tV []) (vO (vy (x0:Int) (x1:Int))) (cV [] (vO (vy (x2:Int) (x3:Int))) ()))) (DP (op,cV (tV []) (vO (vy (x0:Int) (x1:Int))) (cV [] (vO (vy (x2:Int) (x3:Int))) ()))) W (F x0 x1 x2 x3))(hr: ∀ x0 x1 x2 x3:Nat,∃ nK,run l [x3,x2,x1,x0] (fun _=>0)=some (qJ W (F x0 x1 x2 x3),nK)):mU op A B lo hi L:=fun g x0 x1 x2 x3 h0 h1 h2 h3=>
 ⟨4,2,xE g P.e (by decide) (.inr rfl) (Lq P.s (by decide) P.ok (Nat.le_of_ble_eq_true P.len) (Nat.le_of_ble_eq_true P.sc)) (alY P.d hw hr) (vj (by decide) P.n) h0 h1 h2 h3⟩
theorem wq2{w:Nat}(W:Wp w):Wq (2*w)/\128 / (2*w)=64 / w:=by rcases W.q with rfl|rfl|rfl<;>exact⟨by simp[Wq],by decide⟩
theorem sA{op A B lo hi:Int}{L:List Int}{w b:Nat}{sd:Bool}(W:Wp w)(hb:b<2)(P:PU op (agx w sd b) 2)(U:UnP op (2*w) (128 / (2*w)) (fun _=>ckE) (fun y=>exX y w sd b)):mU op A B lo hi L:=
 alZ P (fun x0 x1=>alJ (F:=fun i=>iv w sd (l2 w x0 x1 (i+b*(64 / w)))) (wq2 W).1 U (fun i o=>OK i o) fun i hi=>VI nO W sd (by
  have e:=(wq2 W).2
  have e3:128 / w=2*(64 / w):=(W.w.c).2.2.2.2.2.1
  have:b=0∨b=1:=by omega
  rcases this with rfl|rfl<;>omega)) fun x0 x1=>alq W sd hb x0 x1
theorem Bx{op A B lo hi:Int}{L:List Int}{w:Nat}{sd:Bool}(W:Wp w)(P:PU op (VA w sd) 2)(U:UnP op (2*w) (128 / (2*w)) (fun y _ _=>bif sd then [o9 (vO y),o9 (vO y)]else [o9 (vO y)]) (fun y=>adX y w sd)):mU op A B lo hi L:=
 alZ P (fun x0 x1=>alJ (F:=fun i=>iv w sd (l2 w x0 x1 (2*i))+iv w sd (l2 w x0 x1 (2*i+1))) (wq2 W).1 U (fun i o c hc=>by
  have:c=o9 (vO (vy (x0:Int) (x1:Int))):=by cases sd<;>simpa using hc
  rw[this];exact rX _) fun i hi=>alI nO W sd (by
  have e:=(wq2 W).2
  have e3:128 / w=2*(64 / w):=(W.w.c).2.2.2.2.2.1
  omega)) fun x0 x1=>agw W sd x0 x1
theorem sB{op A B lo hi:Int}{L:List Int}{w b:Nat}{sd:Bool}(W:Wp w)(hb:b<2)(P:PB op (agy w sd b) 4)(U:BnP op (2*w) (128 / (2*w)) (fun _ b' i o=>ckE i o++o9 (vO b')::ckE i o) (fun a c i=>w7 .u64 (exX a w sd b i) (exX c w sd b i))):mU op A B lo hi L:=
 abr P (fun x0 x1 x2 x3=>agL (F:=fun i=>iv w sd (l2 w x0 x1 (i+b*(64 / w)))*iv w sd (l2 w x2 x3 (i+b*(64 / w)))) (wq2 W).1 U (fun i o c hc=>by
  rcases List.mem_append.1 hc with h|h
  ·exact OK i o c h
  ·rcases List.mem_cons.1 h with h|h
   ·rw[h];exact rX _
   ·exact OK i o c h) fun i hi=>by
  have e:=(wq2 W).2
  have e3:128 / w=2*(64 / w):=(W.w.c).2.2.2.2.2.1
  have D4:b=0∨b=1:=by omega
  have JU:i+b*(64 / w)<128 / w:=by rcases D4 with rfl|rfl<;>omega
  rw[VI nO W sd JU,VI nO W sd JU,agH]) fun x0 x1 x2 x3=>alr W sd hb x0 x1 x2 x3
theorem agQ{op A B lo hi:Int}{L:List Int}(P:PB op agz 4)(U:BnP op 32 4 (fun _ b _ _=>[o9 (vO b),o9 (vO b)]) agG):mU op A B lo hi L:=
 abr P (fun x0 x1 x2 x3=>agL (W:=32) (F:=fun i=>iv 16 true (l2 16 x0 x1 (2*i))*iv 16 true (l2 16 x2 x3 (2*i))+iv 16 true (l2 16 x0 x1 (2*i+1))*iv 16 true (l2 16 x2 x3 (2*i+1))) (by simp[Wq]) U (fun i o c hc=>by
  have:c=o9 (vO (vy (x2:Int) (x3:Int))):=by simpa using hc
  rw[this];exact rX _) fun i hi=>agJ nO nO hi) fun x0 x1 x2 x3=>alu x0 x1 x2 x3
theorem agR{op A B lo hi:Int}{L:List Int}(P:PB op agB 12)(U:BnP op 16 8 (fun _ b _ _=>[o9 (vO b)]) agF):mU op A B lo hi L:=
 abr P (fun x0 x1 x2 x3=>agL (W:=16) (F:=fun i=>min ((iv 16 true (l2 16 x0 x1 i)*iv 16 true (l2 16 x2 x3 i)+16384) / 32768) 32767) (by simp[Wq]) U (fun i o c hc=>by
  have:c=o9 (vO (vy (x2:Int) (x3:Int))):=by simpa using hc
  rw[this];exact rX _) fun i hi=>agK nO nO hi) fun x0 x1 x2 x3=>alw x0 x1 x2 x3
theorem Gw{op A B lo hi:Int}{L:List Int}{w:Nat}{l h:Int}(hw:w=8∨w=16)(l0: -9223372036854775808<=l)(l1:l<9223372036854775808)(h0: -9223372036854775808<=h)(h1:h<9223372036854775808)(P:PB op (agA w l h) 6)(U:NaP op w l h):mU op A B lo hi L:=
 abr P (fun x0 x1 x2 x3=>atB hw U nO nO) fun x0 x1 x2 x3=>alv hw l0 l1 h0 h1 x0 x1 x2 x3
end Go.Proofs.Vq

noncomputable section
namespace Go.Proofs.Vq
open Go.Ab Go.Ab.Lf Go.Proofs.Sw
set_option maxRecDepth 1000000
theorem g64{X:Nat}(h:X<nh)(Y:Nat):gX (qa (X:Int) (Y:Int)) 64 0=(X:Int):=by
 have e:=Oq (nO (x:=X) (y:=Y)) (w:=64) (i:=0) (.inr (.inr (.inr rfl))) (by decide)
 refine(show gX (qa (X:Int) (Y:Int)) 64 0=gX (vO (cV [] (qa (X:Int) (Y:Int)) ())) ((64:Nat):Int) ((0:Nat):Int)from rfl).trans (e.trans ?_)
 have:Gl 64 X Y 0=X:=by
  show(if 0<64 / 64 then ln 64 X 0 else ln 64 Y (0 - 64 / 64))=X
  rw[if_pos (by decide)]
  unfold ln
  rw[Nat.mul_zero,Nat.pow_zero,Nat.div_one]
  exact Nat.mod_eq_of_lt h
 rw[this]
theorem OQ{w:Nat}(hW:Wq w)(X:Nat): ∀ n,n<=128 / w->Bl (w / 8) (Df w (X:Int) n) (fun j=>if j<n then X else 0)
 |0,_=>(abb _).cg (fun j _=>by rw[if_neg (Nat.not_lt_zero j),if_neg (Nat.not_lt_zero j)]) (hW.c).2.1
 |n+1,h=>by
  refine(Bl.set hW (OQ hW X n (by omega)) (by omega) X).cg (fun j _=>?_) (hW.c).2.1
  by_cases e:j=n
  ·rw[if_pos e,if_pos (show j<n+1 by omega)]
  ·rw[if_neg e]
   by_cases h2:j<n
   ·rw[if_pos h2,if_pos (show j<n+1 by omega)]
   ·rw[if_neg h2,if_neg (show ¬ j<n+1 by omega)]
theorem QA{w:Nat}(hW:Wq w)(X:Nat):pd (vO (Df w (X:Int) (128 / w))) 0 8=((pk w (64 / w) (fun _=>X % 2 ^ w):Nat):Int)/\pd (vO (Df w (X:Int) (128 / w))) 8 8=((pk w (64 / w) (fun _=>X % 2 ^ w):Nat):Int):=by
 have b:=OQ hW X (128 / w) (Nat.le_refl _)
 have e:128 / w=2*(64 / w):=(hW.c).2.2.2.2.2.1
 rw[b.lo hW,b.hi hW]
 exact⟨congrArg _ (cS fun i hi=>by rw[if_pos (by omega)]),congrArg _ (cS fun i hi=>by rw[if_pos (by omega)])⟩
theorem adk(x:Nat)(h:x<nh):mN .u64 (x:Int) 4294967295=((x % 4294967296:Nat):Int):=I2 x h
theorem Bz{op A B lo hi:Int}{L:List Int}{w:Nat}{sm:Bool}(hw:(w=8∨w=16∨w=32)/\sm=true∨w=64/\sm=false)(hD:atI op w):OP op A B lo hi L 1 2 sm (Li w):=by
 intro x0 x1 x2 x3 h0 _ _ _
 have hW:Wq w:=by rcases hw with⟨h,_⟩|⟨h,_⟩<;>unfold Wq<;>omega
 have hX: ∃ X,X<nh/\GL sm x0 x1 x2 x3 1=[X]/\(bif Nat.beq w 64 then(X:Int)else mN .u64 (X:Int) 4294967295)=(X:Int):=by
  rcases hw with⟨h,rfl⟩|⟨rfl,rfl⟩
  ·refine⟨x0 % 4294967296,Nat.lt_of_le_of_lt (Nat.mod_le _ _) h0,rfl,?_⟩
   have:Nat.beq w 64=false:=by rcases h with rfl|rfl|rfl<;>rfl
   rw[this,cond_false,adk _ (Nat.lt_of_le_of_lt (Nat.mod_le _ _) h0),Nat.mod_mod]
  ·exact⟨x0,h0,rfl,rfl⟩
 obtain⟨X,abt,e1,e2⟩:=hX
 obtain⟨nK,r⟩:=aly (w:=w) (by unfold Wq at hW;exact hW) abt
 refine⟨[pk w (64 / w) (fun _=>X % 2 ^ w),pk w (64 / w) (fun _=>X % 2 ^ w)],nK,?_,rfl,by rw[e1];exact r⟩
 rw[e1]
 refine(hD A B lo hi L (X:Int)).trans ?_
 rw[e2,show gX (qa (X:Int) 0) 64 0=(X:Int)from g64 abt 0]
 obtain⟨q1,q2⟩:=QA hW X
 show okD [pd (vO (Df w (X:Int) (128 / w))) 0 8,pd (vO (Df w (X:Int) (128 / w))) 8 8]=_
 rw[q1,q2]
 rfl
theorem BA{u v:Nat->Int}(h: ∀ m,m<16->u m=v m)(j:Nat): ∀ n,j+n<=16->pd u j n=pd v j n
 |0,_=>rfl
 |n+1,hn=>by
  show Kk .u64 (pd u j n) (uE .u64 (cb .u64 (u (j+n))) (Int.ofNat (8*n)))=Kk .u64 (pd v j n) (uE .u64 (cb .u64 (v (j+n))) (Int.ofNat (8*n)))
  rw[BA h j n (by omega),h (j+n) (by omega)]
theorem VT(a b:Int){w i:Nat}(hw:Wq w)(hi:i<128 / w):gX (qa a b) (w:Int) (i:Int)=gX (vO (vy a b)) (w:Int) (i:Int):=by
 show pd (qa a b) ((i:Int).toNat*((w:Int).toNat / 8)) ((w:Int).toNat / 8)=pd (vO (vy a b)) ((i:Int).toNat*((w:Int).toNat / 8)) ((w:Int).toNat / 8)
 rw[Int.toNat_natCast,Int.toNat_natCast]
 exact BA (fun m hm=>(wy _ hm).symm) _ _ (atm hw hi)
theorem na{op B lo hi:Int}{L:List Int}{w A:Nat}(W:Wp w)(hA:A<128 / w)(hD:agO op w false A):OP op (A:Int) B lo hi L 2 1 false (nB w A false):=by
 intro x0 x1 x2 x3 _ _ _ _
 have e3:128 / w=2*(64 / w):=(W.w.c).2.2.2.2.2.1
 obtain⟨nK,r⟩:=ada W false (i:=A) (by omega) x0 x1
 refine⟨[l2 w x0 x1 A],nK,(hD B lo hi L (x0:Int) (x1:Int)).trans ?_,rfl,r⟩
 rw[cond_false,VT _ _ W.w hA,g_v nO W.w hA]
 rfl
theorem EO{op B lo hi:Int}{L:List Int}{A:Nat}(hA:A<2)(hD:agO op 64 false A):OP op (A:Int) B lo hi L 2 1 false (nB 64 A false):=by
 intro x0 x1 x2 x3 h0 h1 _ _
 obtain⟨nK,r⟩:=aa6 hA x0 x1
 refine⟨[if A=0 then x0 else x1],nK,(hD B lo hi L (x0:Int) (x1:Int)).trans ?_,rfl,r⟩
 rw[cond_false,VT _ _ (.inr (.inr (.inr rfl))) hA,Oq nO (w:=64) (.inr (.inr (.inr rfl))) hA]
 have:A=0∨A=1:=by omega
 have l: ∀ x,x<nh->ln 64 x 0=x:=fun x hx=>by
  unfold ln
  rw[Nat.mul_zero,Nat.pow_zero,Nat.div_one]
  exact Nat.mod_eq_of_lt hx
 rcases this with rfl|rfl
 ·rw[show Gl 64 x0 x1 0=x0 from l x0 h0];rfl
 ·rw[show Gl 64 x0 x1 1=x1 from l x1 h1];rfl
theorem mW{op B lo hi:Int}{L:List Int}{w A:Nat}{sm:Bool}(hw:(w=8∨w=16∨w=32)/\sm=true∨w=64/\sm=false)(hA:A<128 / w)(hD:atJ op w A):OP op (A:Int) B lo hi L 3 2 sm (qb w A):=by
 intro x0 x1 x2 x3 h0 h1 h2 _
 have hW:Wq w:=by rcases hw with⟨h,_⟩|⟨h,_⟩<;>unfold Wq<;>omega
 have e3:128 / w=2*(64 / w):=(hW.c).2.2.2.2.2.1
 have hX: ∃ X,X<nh/\GL sm x0 x1 x2 x3 3=[x0,x1,X]/\(bif Nat.beq w 64 then(X:Int)else mN .u64 (X:Int) 4294967295)=(X:Int):=by
  rcases hw with⟨h,rfl⟩|⟨rfl,rfl⟩
  ·refine⟨x2 % 4294967296,Nat.lt_of_le_of_lt (Nat.mod_le _ _) h2,rfl,?_⟩
   have:Nat.beq w 64=false:=by rcases h with rfl|rfl|rfl<;>rfl
   rw[this,cond_false,adk _ (Nat.lt_of_le_of_lt (Nat.mod_le _ _) h2),Nat.mod_mod]
  ·exact⟨x2,h2,rfl,rfl⟩
 obtain⟨X,abt,e1,e2⟩:=hX
 obtain⟨nK,r⟩:=alz (w:=w) (i:=A) (x2:=X) (by unfold Wq at hW;exact hW) (by omega) h0 h1
 refine⟨[pk w (64 / w) (fun j=>if j=A then X % 2 ^ w else ln w x0 j),pk w (64 / w) (fun j=>if 64 / w+j=A then X % 2 ^ w else ln w x1 j)],nK,?_,rfl,by rw[e1];exact r⟩
 rw[e1]
 refine(hD B lo hi L (x0:Int) (x1:Int) (X:Int)).trans ?_
 rw[e2,show gX (qa (X:Int) 0) 64 0=(X:Int)from g64 abt 0,rX]
 have b:=Bl.set hW ((nO (x:=x0) (y:=x1)).bl hW) hA X
 have cg: ∀ j,j+8<=16->pd (pX (qa (x0:Int) (x1:Int)) (w:Int) (A:Int) (X:Int)) j 8=pd (vO (cV [] (pX (vO (vy (x0:Int) (x1:Int))) (w:Int) (A:Int) (X:Int)) ())) j 8:=fun j hj=>BA (fun m hm=>by
  rw[wy _ hm]
  show(bif Nat.ble _ m&&Nat.blt m _ then _ else qa (x0:Int) (x1:Int) m)=(bif Nat.ble _ m&&Nat.blt m _ then _ else vO (vy (x0:Int) (x1:Int)) m)
  rw[show vO (vy (x0:Int) (x1:Int)) m=qa (x0:Int) (x1:Int) m from wy _ hm]) _ _ hj
 show okD [pd (pX (qa (x0:Int) (x1:Int)) (w:Int) (A:Int) (X:Int)) 0 8,pd (pX (qa (x0:Int) (x1:Int)) (w:Int) (A:Int) (X:Int)) 8 8]=_
 rw[cg 0 (by decide),cg 8 (by decide)]
 rw[b.lo hW,b.hi hW]
 have f1:pk w (64 / w) (fun i=>(if i=A then X else Gl w x0 x1 i) % 2 ^ w)=pk w (64 / w) (fun j=>if j=A then X % 2 ^ w else ln w x0 j):=cS fun i hi=>by
  by_cases q:i=A
  ·rw[if_pos q,if_pos q]
  ·rw[if_neg q,if_neg q]
   unfold Gl
   rw[if_pos hi,Nat.mod_eq_of_lt (ry _ _)]
 have f2:pk w (64 / w) (fun i=>(if 64 / w+i=A then X else Gl w x0 x1 (64 / w+i)) % 2 ^ w)=pk w (64 / w) (fun j=>if 64 / w+j=A then X % 2 ^ w else ln w x1 j):=cS fun i hi=>by
  by_cases q:64 / w+i=A
  ·rw[if_pos q,if_pos q]
  ·rw[if_neg q,if_neg q]
   unfold Gl
   rw[if_neg (by omega),Nat.add_sub_cancel_left,Nat.mod_eq_of_lt (ry _ _)]
 rw[f1,f2]
 rfl
end Go.Proofs.Vq

noncomputable section
namespace Go.Proofs.Vq
open Go.Ab Go.Ab.Lf Go.Proofs.Sw
set_option maxRecDepth 1000000
theorem mY{op B lo hi:Int}{L:List Int}{w A:Nat}(W:Wp w)(hA:A<128 / w)(hD:agO op w true A):OP op (A:Int) B lo hi L 2 1 false (nB w A true):=by
 intro x0 x1 x2 x3 _ _ _ _
 have e3:128 / w=2*(64 / w):=(W.w.c).2.2.2.2.2.1
 obtain⟨nK,r⟩:=ada W true (i:=A) (by omega) x0 x1
 refine⟨[nz (sw (w - 1) (l2 w x0 x1 A)) % 4294967296],nK,(hD B lo hi L (x0:Int) (x1:Int)).trans ?_,rfl,r⟩
 have hs:cA .i64 64 (w:Int)=((64 - w:Nat):Int):=by rcases W.q with rfl|rfl|rfl<;>rfl
 have e:=ac2 W.w (AB w x0 x1 A)
 rw[hs]at e
 rw[cond_true,VT _ _ W.w hA,g_v nO W.w hA,e]
 have e4:cb .u64 (cb .u32 (sw (w - 1) (l2 w x0 x1 A)))=((nz (sw (w - 1) (l2 w x0 x1 A)) % 4294967296:Nat):Int):=by
  generalize sw (w - 1) (l2 w x0 x1 A)=z
  rw[Int.natCast_emod,xR]
  show z % 4294967296 % 18446744073709551616=z % 18446744073709551616 % 4294967296
  omega
 rw[e4]
 rfl
theorem OR{y:Vy}{L:Nat->Nat}(h:Bl 1 y L):pd (vO y) 0 8=((pk 8 8 (fun i=>L i % 256):Nat):Int)/\pd (vO y) 8 8=((pk 8 8 (fun i=>L (8+i) % 256):Nat):Int):=by
 have h:Bl (8 / 8) y L:=h
 exact⟨h.lo (w:=8) (.inl rfl),h.hi (w:=8) (.inl rfl)⟩
theorem VU(x0 x1:Nat){t:Nat}(h:t<16):rb x0 x1 t=ln 8 (if t<8 then x0 else x1) (t % 8):=by
 unfold rb
 by_cases q:t<8
 ·rw[if_pos q,if_pos q,Nat.mod_eq_of_lt q]
 ·rw[if_neg q,if_neg q,show t % 8=t - 8 by omega]
theorem abu{A B lo hi:Int}{L:List Int}(hD:atH):OP 64782 A B lo hi L 4 2 false aa7:=by
 intro x0 x1 x2 x3 _ _ _ _
 obtain⟨nK,r⟩:=alA x0 x1 x2 x3
 refine⟨[pk 8 8 (fun j=>vF x0 x1 (ln 8 x2 j)),pk 8 8 (fun j=>vF x0 x1 (ln 8 x3 j))],nK,(hD A B lo hi L (x0:Int) (x1:Int) (x2:Int) (x3:Int)).trans ?_,rfl,r⟩
 obtain⟨y,q1,q2,q3⟩:=atC (ya:=vy (x0:Int) (x1:Int)) (yb:=vy (x2:Int) (x3:Int)) nO nO
 have q1:VL (cV (tV []) (qa (x0:Int) (x1:Int)) (cV [] (qa (x2:Int) (x3:Int)) ()))=true:=q1
 have q2:VM (cV (tV []) (qa (x0:Int) (x1:Int)) (cV [] (qa (x2:Int) (x3:Int)) ()))=cV [] (vO y) ():=q2
 rw[q1,q2]
 obtain⟨h1,h2⟩:=OR q3
 show okD [pd (vO y) 0 8,pd (vO y) 8 8]=_
 have sb: ∀ t,vF x0 x1 t<256:=fun t=>by
  unfold vF
  split
  ·exact ry _ _
  ·decide
 have f: ∀ t,t<256->(if t<16 then rb x0 x1 t else 0)=vF x0 x1 t:=fun t _=>by
  unfold vF
  by_cases q:t<16
  ·rw[if_pos q,if_pos q,VU x0 x1 q]
  ·rw[if_neg q,if_neg q]
 have g1:pk 8 8 (fun i=>(if i<16 then(if rb x2 x3 i<16 then rb x0 x1 (rb x2 x3 i)else 0)else 0) % 256)=pk 8 8 (fun j=>vF x0 x1 (ln 8 x2 j)):=cS fun i hi=>by
  rw[if_pos (show i<16 by omega),f _ (Lb _ _ _),Nat.mod_eq_of_lt (sb _)]
  unfold rb
  rw[if_pos hi]
 have g2:pk 8 8 (fun i=>(if 8+i<16 then(if rb x2 x3 (8+i)<16 then rb x0 x1 (rb x2 x3 (8+i))else 0)else 0) % 256)=pk 8 8 (fun j=>vF x0 x1 (ln 8 x3 j)):=cS fun i hi=>by
  rw[if_pos (show 8+i<16 by omega),f _ (Lb _ _ _),Nat.mod_eq_of_lt (sb _)]
  unfold rb
  rw[if_neg (show ¬ 8+i<8 by omega),Nat.add_sub_cancel_left]
 rw[h1,h2,g1,g2]
 rfl
theorem abv{A B:Int}{lo hi:Nat}{L:List Int}(hD:agN)(hs: ∀ j,j<16->rb lo hi j<32):OP 64781 A B (lo:Int) (hi:Int) L 4 2 false (DO (rb lo hi)):=by
 intro x0 x1 x2 x3 _ _ _ _
 obtain⟨nK,r⟩:=alx (rb lo hi) hs x0 x1 x2 x3
 refine⟨[pk 8 8 (fun j=>Xg x0 x1 x2 x3 (rb lo hi j)),pk 8 8 (fun j=>Xg x0 x1 x2 x3 (rb lo hi (8+j)))],nK,(hD A B (lo:Int) (hi:Int) L (x0:Int) (x1:Int) (x2:Int) (x3:Int)).trans ?_,rfl,r⟩
 obtain⟨y,q1,q2,q3⟩:=(alQ (ya:=vy (x0:Int) (x1:Int)) (yb:=vy (x2:Int) (x3:Int)) (ys:=vy (lo:Int) (hi:Int)) nO nO nO).1 hs
 have q1:IZ (cV (tV (tV [])) (qa (lo:Int) (hi:Int)) (cV (tV []) (qa (x0:Int) (x1:Int)) (cV [] (qa (x2:Int) (x3:Int)) ())))=true:=q1
 have q2:DQ (cV (tV (tV [])) (qa (lo:Int) (hi:Int)) (cV (tV []) (qa (x0:Int) (x1:Int)) (cV [] (qa (x2:Int) (x3:Int)) ())))=cV [i64] (vO y) (0,()):=q2
 rw[q1,q2]
 obtain⟨h1,h2⟩:=OR q3
 show okD [pd (vO y) 0 8,pd (vO y) 8 8]=_
 have f: ∀ c,c<32->(if c<16 then rb x0 x1 c else rb x2 x3 (c - 16))=Xg x0 x1 x2 x3 c:=fun c hc=>by
  unfold Xg
  by_cases q:c<16
  ·rw[if_pos q,VU x0 x1 q]
   by_cases q2:c<8
   ·rw[if_pos q2,show c / 8=0 by omega];rfl
   ·rw[if_neg q2,show c / 8=1 by omega];rfl
  ·rw[if_neg q,VU x2 x3 (by omega)]
   by_cases q2:c - 16<8
   ·rw[if_pos q2,show c / 8=2 by omega,show(c - 16) % 8=c % 8 by omega];rfl
   ·rw[if_neg q2,show c / 8=3 by omega,show(c - 16) % 8=c % 8 by omega];rfl
 have bl: ∀ c,Xg x0 x1 x2 x3 c<256:=fun c=>ry _ _
 have g1:pk 8 8 (fun i=>(if i<16 then Q4 (rb x0 x1) (rb x2 x3) (rb lo hi) i else 0) % 256)=pk 8 8 (fun j=>Xg x0 x1 x2 x3 (rb lo hi j)):=cS fun i vw=>by
  rw[if_pos (show i<16 by omega)]
  unfold Q4
  rw[f _ (hs i (by omega)),Nat.mod_eq_of_lt (bl _)]
 have g2:pk 8 8 (fun i=>(if 8+i<16 then Q4 (rb x0 x1) (rb x2 x3) (rb lo hi) (8+i)else 0) % 256)=pk 8 8 (fun j=>Xg x0 x1 x2 x3 (rb lo hi (8+j))):=cS fun i vw=>by
  rw[if_pos (show 8+i<16 by omega)]
  unfold Q4
  rw[f _ (hs (8+i) (by omega)),Nat.mod_eq_of_lt (bl _)]
 rw[h1,h2,g1,g2]
 rfl
theorem abw{A B:Int}{lo hi:Nat}{L:List Int}(hl:lo<nh)(hh:hi<nh)(hD:alT):OP 64780 A B (lo:Int) (hi:Int) L 0 2 false [.k lo,.k hi]:=by
 intro x0 x1 x2 x3 _ _ _ _
 refine⟨[lo,hi],fun _=>0,(hD A B (lo:Int) (hi:Int) L).trans ?_,rfl,rfl⟩
 have b:Bl (64 / 8) (vy (lo:Int) (hi:Int)) (Gl 64 lo hi):=(nO (x:=lo) (y:=hi)).bl (.inr (.inr (.inr rfl)))
 have h1:=b.lo (w:=64) (.inr (.inr (.inr rfl)))
 have h2:=b.hi (w:=64) (.inr (.inr (.inr rfl)))
 have l: ∀ x,x<nh->ln 64 x 0=x:=fun x hx=>by
  unfold ln
  rw[Nat.mul_zero,Nat.pow_zero,Nat.div_one]
  exact Nat.mod_eq_of_lt hx
 have c: ∀ j,j+8<=16->pd (qa (lo:Int) (hi:Int)) j 8=pd (vO (vy (lo:Int) (hi:Int))) j 8:=fun j hj=>BA (fun m hm=>(wy _ hm).symm) _ _ hj
 have p: ∀ f:Nat->Nat,pk 64 (64 / 64) f=f 0:=fun f=>by
  show f 0+2 ^ 64*0=f 0
  omega
 show okD [pd (qa (lo:Int) (hi:Int)) 0 8,pd (qa (lo:Int) (hi:Int)) 8 8]=_
 rw[c 0 (by decide),c 8 (by decide),h1,h2,p,p]
 have e1:Gl 64 lo hi 0 % 2 ^ 64=lo:=by
  rw[show Gl 64 lo hi 0=lo from l lo hl]
  exact Nat.mod_eq_of_lt hl
 have e2:Gl 64 lo hi (64 / 64+0) % 2 ^ 64=hi:=by
  rw[show Gl 64 lo hi (64 / 64+0)=hi from l hi hh]
  exact Nat.mod_eq_of_lt hh
 rw[e1,e2]
 rfl
end Go.Proofs.Vq

noncomputable section
namespace Go.Proofs.Vq
open Go.Ab Go.Ab.Lf Go.Proofs.Sw
set_option maxRecDepth 1000000
def VV(o A B lo hi:Int)(L:List Int)(sm:Bool)(x0 x1 x2 x3:Int):Nat->Nat->Option (List Pl)
 |0,_=>cF (k40 (o,A,B,lo,hi,L,0,())) (some (cq zq (decide ((m40 (o,A,B,lo,hi,L,0,())).2.2.1=1),())))
 |f+1,n=>cF (DR (o,A,B,lo,hi,L,A4 sm x0 x1 x2 x3 n,())) (cF (decide ((rE (o,A,B,lo,hi,L,A4 sm x0 x1 x2 x3 n,())).1.length=0)&&decide ((rE (o,A,B,lo,hi,L,A4 sm x0 x1 x2 x3 n,())).2.1=1)) (VV o A B lo hi L sm x0 x1 x2 x3 f (n+1)))
def LN(op:Int)(sm:Bool):Prop:= ∀ (g:Cg) (A B lo hi:Int) (L:List Int) (x0 x1 x2 x3:Int),(t8w g 99 0 (op,A,B,lo,hi,L,x0,x1,x2,x3,())).val=VV op A B lo hi L sm x0 x1 x2 x3 5 0
def wlk{α:Type}:List Bool->Lf.T α->Lf.T α
 | [],t=>t
 |false::l,.br c x y=>wlk l (bif c then x else y)
 |true::l,.br _ _ y=>wlk l y
 | _::l,.ck _ y=>wlk l y
 | _::l,t=>wlk l t
def DEx(op lim:Int)(p:List Bool):Prop:= ∀ (A B lo hi:Int) (L:List Int) (a b:Int),(ra (op,A,B,lo,hi,L,[a,b],())).val=bif decide (A<0)then DS 1 else bif decide (lim<=A)then DS 1 else(wlk p (ra (op,A,B,lo,hi,L,[a,b],()))).val
def DRe(op lim:Int)(p:List Bool):Prop:= ∀ (A B lo hi:Int) (L:List Int) (a b c:Int),(ra (op,A,B,lo,hi,L,[a,b,c],())).val=cF (decide (A=A)) (cF (o9 (qa a b)) (bif decide (A<0)then DS 1 else bif decide (lim<=A)then DS 1 else(wlk p (ra (op,A,B,lo,hi,L,[a,b,c],()))).val))
def SqL(op lim:Int)(p:List Bool):Prop:= ∀ (A B lo hi:Int) (L:List Int),(t40 (op,A,B,lo,hi,L,0,())).val=bif (bif decide (A<0)then true else decide (lim<=A))then w9 else(wlk p (t40 (op,A,B,lo,hi,L,0,()))).val
theorem VW(g:Cg){op A B lo hi:Int}{L:List Int}{sm:Bool}(E:LN op sm){x0 x1 x2 x3:Int}(D: ∀ n,n<5->(ra (op,A,B,lo,hi,L,A4 sm x0 x1 x2 x3 n,())).val=DS 1)(S:(t40 (op,A,B,lo,hi,L,0,())).val=w9):(t8w (g1 g) 99 0 (op,A,B,lo,hi,L,x0,x1,x2,x3,())).val=some (cq zq (true,())):=by
 rw[E]
 have key: ∀ f n,n+f=5->VV op A B lo hi L sm x0 x1 x2 x3 f n=some (cq zq (true,())):=by
  intro f
  induction f with
  |zero=>
   intro n _
   obtain⟨q1,q2⟩:=mO (k:=k40 (op,A,B,lo,hi,L,0,())) (m:=m40 (op,A,B,lo,hi,L,0,())) (ca _) (ca _) S
   unfold VV
   rw[q1,q2]
   rfl
  |succ f ih=>
   intro n hn
   obtain⟨q1,q2⟩:=wY (D n (by omega))
   unfold VV
   rw[q1,q2]
   exact ih (n+1) (by omega)
 exact key 5 0 rfl
end Go.Proofs.Vq

noncomputable section
namespace Go.Proofs.Vq
open Go.Ab Go.Ab.Lf Go.Proofs.Sw
set_option maxRecDepth 1000000
theorem erA{A lim:Int}(h:A<0∨lim<=A){β:Type}(e r:β):(bif decide (A<0)then e else bif decide (lim<=A)then e else r)=e:=by
 rcases h with h|h
 ·rw[dt h];rfl
 ·rw[dt h];cases decide (A<0)<;>rfl
theorem erS{A lim:Int}(h:A<0∨lim<=A){β:Type}(e r:β):(bif (bif decide (A<0)then true else decide (lim<=A))then e else r)=e:=by
 rcases h with h|h
 ·rw[dt h];rfl
 ·rw[dt h];cases decide (A<0)<;>rfl
theorem EP{op lim A B lo hi:Int}{L:List Int}{p p2:List Bool}(hA:A<0∨lim<=A)(D:DEx op lim p)(N:DNo op 2)(S:SqL op lim p2)(E:LN op false):mU op A B lo hi L:=fun g x0 x1 x2 x3 _ _ _ _=>
 ⟨99,0,VW g E (fun n hn=>by
  have k:=N A B lo hi L (x0:Int) (x1:Int) (x2:Int) (x3:Int)
  match n,hn with
  |0,_=>exact k.1.resolve_left (by decide)
  |1,_=>exact k.2.1.resolve_left (by decide)
  |2,_=>exact(D A B lo hi L (x0:Int) (x1:Int)).trans (erA hA _ _)
  |3,_=>exact k.2.2.2.1.resolve_left (by decide)
  |4,_=>exact k.2.2.2.2.resolve_left (by decide)) ((S A B lo hi L).trans (erS hA _ _))⟩
theorem OS{op lim A B lo hi:Int}{L:List Int}{p p2:List Bool}{sm:Bool}(hA:A<0∨lim<=A)(D:DRe op lim p)(N:DNo op 3)(S:SqL op lim p2)(E:LN op sm):mU op A B lo hi L:=fun g x0 x1 x2 x3 _ _ _ _=>
 ⟨99,0,VW g E (fun n hn=>by
  match n,hn with
  |0,_=>exact(N A B lo hi L 0 0 0 0).1.resolve_left (by decide)
  |1,_=>exact(N A B lo hi L (bif sm then ze (x0:Int)else(x0:Int)) 0 0 0).2.1.resolve_left (by decide)
  |2,_=>exact(N A B lo hi L (x0:Int) (bif sm then ze (x1:Int)else(x1:Int)) 0 0).2.2.1.resolve_left (by decide)
  |3,_=>
   refine(D A B lo hi L (x0:Int) (x1:Int) (bif sm then ze (x2:Int)else(x2:Int))).trans ?_
   rw[erA hA,dt rfl,show o9 (qa (x0:Int) (x1:Int))=true from rX _]
   rfl
  |4,_=>exact(N A B lo hi L (x0:Int) (x1:Int) (x2:Int) (bif sm then ze (x3:Int)else(x3:Int))).2.2.2.2.resolve_left (by decide)) ((S A B lo hi L).trans (erS hA _ _))⟩
end Go.Proofs.Vq

noncomputable section
namespace Go.Proofs.Vq
open Go.Ab Go.Ab.Lf Go.Proofs.Sw
set_option maxRecDepth 1000000
def t37(x:cf [i64]):Lf.T (List Pl):=qA (Ps [.n .i64]) [] (Ps [.bo]) (fun _=>none) Tryz.x37 20 (pY [(88,Lc)] 20) (cq [i64] x)
def k37(x:cf [i64]):Bool:=cO (oy [.bool] (t37 x))
def m37(x:cf [i64]):cf [.bool]:=cO (nq [.bool] (t37 x))
def s37:ny:=pW (Ps [.n .i64]) [] (Ps [.bo]) [i64] [.bool] fun x=>.ck (k37 x) (.ok (m37 x))
theorem agU{cr:cx}(W:WQ cr):s37.Ok 37 cr:=
 mC (W.in (.cons (wX W) .nil) 20) (W.st 37 _ rfl) rfl (cD _) (m:=20) rfl (fun _=>ca _) (fun _=>ca _)
def e8n(g:Cg):List (Nat×ny):=(37,s37)::e8w g 99 0
theorem agV{g:Cg}{cr:cx}(W:WP cr)(hg:(sG g).Ok 73 cr):nZ cr (e8n g):=.cons (agU W.toWQ) (Lp W hg 99 0)
def t8n(g:Cg)(x:cf A3):Lf.T (List Pl):=qA (Ps [.ag (Ps [.n .i64,.n .i64,.n .i64,.n .u64,.n .u64,.im i64]),.ag (Ps [.n .u64,.n .u64,.n .u64,.n .u64])]) [] (Ps [.bo]) (fun _=>none) Tryz.x8 12 (pY (e8n g) 12) (cq A3 x)
end Go.Proofs.Vq
