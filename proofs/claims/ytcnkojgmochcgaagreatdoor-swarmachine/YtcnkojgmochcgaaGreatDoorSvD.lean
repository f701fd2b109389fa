import Derived.Test.YtcnkojgmochcgaaGreatDoorVtB
import Derived.Test.YtcnkojgmochcgaaGreatDoorSwD
import Derived.Test.YtcnkojgmochcgaaGreatDoorVqJ
import Derived.Test.YtcnkojgmochcgaaGreatDoorLfN
noncomputable section
namespace Go.Proofs.Vq
open Go.Ab Go.Ab.Lf Go.Proofs.Sw
set_option maxRecDepth 100000
def Wq(w:Nat):Prop:=w=8∨w=16∨w=32∨w=64
theorem yL{w i:Nat}(h:Wq w)(hi:i<128 / w):sS (w:Int) (i:Int)=true:=by
 unfold sS
 have h0:(0:Int)<=(i:Int):=by omega
 rcases h with rfl|rfl|rfl|rfl
 ·have:(i:Int)<16:=by omega
  simp[this]
 ·have:(i:Int)<8:=by omega
  simp[this]
 ·have:(i:Int)<4:=by omega
  simp[this]
 ·have:(i:Int)<2:=by omega
  simp[this]
theorem Hr{w:Nat}(h:Wq w):JR ((w:Int),())=true/\JS ((w:Int),())=(((128 / w:Nat):Int),()):=by
 refine nm (ca _) (ca _) ?_
 rcases h with rfl|rfl|rfl|rfl<;>kernel_rfl
abbrev Vy:=cf (tV [])
structure By(y:Vy)(f:Nat->Nat):Prop where
 e: ∀ m,m<16->vO y m=(f m:Int)
 l: ∀ m,f m<256
theorem JY(v:Nat->Int){m:Nat}(h:m<16):vO (cV [] v ()) m=v m:=by
 match m,h with
 |0,_=>rfl|1,_=>rfl|2,_=>rfl|3,_=>rfl|4,_=>rfl|5,_=>rfl|6,_=>rfl|7,_=>rfl
 |8,_=>rfl|9,_=>rfl|10,_=>rfl|11,_=>rfl|12,_=>rfl|13,_=>rfl|14,_=>rfl|15,_=>rfl
 | _+16,h=>exact absurd h (by omega)
theorem Hs(w:Nat): ∀ (n:Nat) (f:Nat->Nat),pk w (n+1) f=pk w n f+2 ^ (w*n)*f n
 |0,f=>by simp[pk]
 |n+1,f=>by
  have ih:=Hs w n (fun i=>f (i+1))
  show f 0+2 ^ w*pk w (n+1) (fun i=>f (i+1))=f 0+2 ^ w*pk w n (fun i=>f (i+1))+2 ^ (w*(n+1))*f (n+1)
  rw[ih,Nat.mul_add,<-Nat.mul_assoc,<-Nat.pow_add,Nat.mul_succ,Nat.add_comm w]
  omega
theorem UX(x:Nat):cb .u8 (x:Int)=((x % 256:Nat):Int):=(Int.natCast_emod x 256).symm
theorem FN{w n x y:Nat}(hx:x<2 ^ (w*n)):x ||| 2 ^ (w*n)*y=x+2 ^ (w*n)*y:=by
 rw[Nat.or_comm,<-Nat.two_pow_add_eq_or_of_lt hx];omega
theorem Bq{y:Vy}{f:Nat->Nat}(h:By y f)(j:Nat): ∀ n,n<=8->j+n<=16->qI (vO y) j n=((pk 8 n (fun m=>f (j+m)):Nat):Int)
 |0,_,_=>rfl
 |n+1,hn,hj=>by
  have ih:=Bq h j n (by omega) (by omega)
  have hf:=h.l (j+n)
  have hp:pk 8 n (fun m=>f (j+m))<2 ^ (8*n):=DD fun i _=>h.l _
  have Z8:pk 8 n (fun m=>f (j+m))<cN:=Nat.lt_of_lt_of_le hp (Nat.pow_le_pow_right (by decide) (by omega):2 ^ (8*n)<=2 ^ 64)
  show C3 .u64 (qI (vO y) j n) (tP .u64 (cb .u64 (vO y (j+n))) ((8*n:Nat):Int))=_
  rw[ih,h.e _ (by omega),show cb .u64 ((f (j+n):Nat):Int)=((f (j+n):Nat):Int)from wrap_u64 (by omega) (by omega),UB (by omega)]
  have hq:2 ^ (8*n)*f (j+n)<cN:=by
   have h1:2 ^ (8*n)*f (j+n)<2 ^ (8*n)*2 ^ 8:=Nat.mul_lt_mul_of_pos_left hf (Nat.two_pow_pos _)
   rw[<-Nat.pow_add]at h1
   exact Nat.lt_of_lt_of_le h1 (Nat.pow_le_pow_right (by decide) (by omega):2 ^ (8*n+8)<=2 ^ 64)
  rw[Nat.mod_eq_of_lt hq,UA Z8 hq,FN hp,Hs]
theorem NT(c x i:Nat):ln (8*c) x i=pk 8 c (fun m=>ln 8 x (c*i+m)):=by
 have h1:ln (8*c) x i<2 ^ (8*c):=wX _ _
 rw[FA (w:=8) c _ h1]
 refine cB fun m hm=>?_
 unfold ln
 rw[Nat.mul_add,Nat.pow_add,<-Nat.div_div_eq_div_mul,Nat.mul_assoc]
 generalize x / 2 ^ (8*(c*i))=y
 have e:2 ^ (8*c)=2 ^ (8*m)*2 ^ (8*(c - m)):=by rw[<-Nat.pow_add];congr 1;omega
 rw[e,Nat.mod_mul_right_div_self,Nat.mod_mod_of_dvd]
 exact Nat.pow_dvd_pow 2 (by omega)
def uh(lo hi:Nat):Nat->Nat:=fun m=>if m<8 then ln 8 lo m else ln 8 hi (m - 8)
theorem oF(lo hi m:Nat):uh lo hi m<256:=by unfold uh;split<;>exact wX _ _
def p'(w lo hi i:Nat):Nat:=if i<64 / w then ln w lo i else ln w hi (i - 64 / w)
theorem Wq.c{w:Nat}(h:Wq w):w=8*(w / 8)/\0<w / 8/\w / 8<=8/\(128 / w)*(w / 8)=16/\(64 / w)*(w / 8)=8/\128 / w=2*(64 / w)/\w*(64 / w)=64:=by
 rcases h with rfl|rfl|rfl|rfl<;>decide
theorem NU{y:Vy}{lo hi:Nat}(h:By y (uh lo hi)){w i:Nat}(hw:Wq w)(vk:i<128 / w):gX (vO y) (w:Int) (i:Int)=((p' w lo hi i:Nat):Int):=by
 obtain⟨h1,h2,h3,h4,h5,h6,h7⟩:=hw.c
 show qI (vO y) ((i:Int).toNat*((w:Int).toNat / 8)) ((w:Int).toNat / 8)=_
 rw[Int.toNat_natCast,Int.toNat_natCast]
 have hic:i*(w / 8)+w / 8<=16:=by
  have:(i+1)*(w / 8)<=(128 / w)*(w / 8):=Nat.mul_le_mul_right _ vk
  rw[Nat.succ_mul]at this;omega
 rw[Bq h _ _ h3 hic]
 congr 1
 unfold p'
 by_cases DP:i<64 / w
 ·have asZ:i*(w / 8)+w / 8<=8:=by
   have:(i+1)*(w / 8)<=(64 / w)*(w / 8):=Nat.mul_le_mul_right _ DP
   rw[Nat.succ_mul]at this;omega
  rw[if_pos DP]
  conv=>rhs;rw[h1,NT]
  refine cB fun m hm=>?_
  unfold uh
  rw[if_pos (by omega),Nat.mul_comm]
 ·have asZ:8<=i*(w / 8):=by
   have:(64 / w)*(w / 8)<=i*(w / 8):=Nat.mul_le_mul_right _ (by omega)
   omega
  have hs:w / 8*(i - 64 / w)=i*(w / 8) - 8:=by rw[Nat.mul_sub,Nat.mul_comm (w / 8) (64 / w),h5,Nat.mul_comm]
  rw[if_neg DP]
  conv=>rhs;rw[h1,NT]
  refine cB fun m hm=>?_
  unfold uh
  rw[if_neg (by omega)]
  congr 1
  rw[<-h1,hs];omega
theorem tZ{w lo hi i:Nat}:p' w lo hi i<2 ^ w:=by unfold p';split<;>exact wX _ _
theorem akz{A:Int}{k:Nat}(h:k<64):tP .i64 A (k:Int)=(A*((2 ^ k:Nat):Int)+9223372036854775808) % 18446744073709551616 - 9223372036854775808:=by
 show na .i64 (Int.mul A (Int.ofNat (2 ^ s5 k 64)))=_
 rw[JL h]
 rfl
theorem ab5{A:Int}{k:Nat}(h:k<64):px .i64 A (k:Int)=A / ((2 ^ k:Nat):Int):=by
 show Int.fdiv A ((2 ^ s5 k 64:Nat):Int)=_
 rw[JL h,Int.fdiv_eq_ediv_of_nonneg _ (Int.natCast_nonneg _)]
theorem ab6{w x:Nat}(hw:Wq w)(hx:x<2 ^ w):px .i64 (tP .i64 (cb .i64 (x:Int)) (cz .i64 64 (w:Int))) (cz .i64 64 (w:Int))=sw (w - 1) x:=by
 have Z9:x<18446744073709551616:=Nat.lt_of_lt_of_le hx (Nat.pow_le_pow_right (by decide) (by rcases hw with rfl|rfl|rfl|rfl<;>decide):2 ^ w<=2 ^ 64)
 have hs:cz .i64 64 (w:Int)=((64 - w:Nat):Int):=by rcases hw with rfl|rfl|rfl|rfl<;>rfl
 rw[hs,vK Z9,akz (by rcases hw with rfl|rfl|rfl|rfl<;>decide),ab5 (by rcases hw with rfl|rfl|rfl|rfl<;>decide)]
 unfold El sw
 rcases hw with rfl|rfl|rfl|rfl
 ·rw[show(2 ^ (64 - 8):Nat)=72057594037927936 from by decide,show(2 ^ (8 - 1):Nat)=128 from by decide,show(2 ^ (8 - 1+1):Nat)=256 from by decide]
  rw[show(2 ^ 8:Nat)=256 from by decide]at hx
  split<;>split<;>omega
 ·rw[show(2 ^ (64 - 16):Nat)=281474976710656 from by decide,show(2 ^ (16 - 1):Nat)=32768 from by decide,show(2 ^ (16 - 1+1):Nat)=65536 from by decide]
  rw[show(2 ^ 16:Nat)=65536 from by decide]at hx
  split<;>split<;>omega
 ·rw[show(2 ^ (64 - 32):Nat)=4294967296 from by decide,show(2 ^ (32 - 1):Nat)=2147483648 from by decide]
  rw[show(2 ^ 32:Nat)=4294967296 from by decide]at hx
  split<;>split<;>omega
 ·rw[show(2 ^ (64 - 64):Nat)=1 from by decide,show(2 ^ (64 - 1):Nat)=9223372036854775808 from by decide,show(2 ^ (64 - 1+1):Nat)=18446744073709551616 from by decide]
  split<;>omega
theorem Et{y:Vy}{lo hi:Nat}(h:By y (uh lo hi)){w i:Nat}(hw:Wq w)(vk:i<128 / w):Em (sX (vO y) (w:Int) (i:Int))=true/\z8 (sX (vO y) (w:Int) (i:Int))=(sw (w - 1) (p' w lo hi i),()):=by
 refine nm (ca _) (ca _) ?_
 rw[ab3,(Hr hw).1,(Hr hw).2,yL hw vk,NU h hw vk,ab6 hw tZ]
 have c:(0:Int)<=cz .i64 64 (w:Int):=by rcases hw with rfl|rfl|rfl|rfl<;>decide
 have hn: ¬ (((128 / w:Nat):Int)=0):=by rcases hw with rfl|rfl|rfl|rfl<;>decide
 rw[dt c,df hn]
 rfl
end Go.Proofs.Vq

noncomputable section
namespace Go.Proofs.Vq
open Go.Ab Go.Ab.Lf Go.Proofs.Sw
set_option maxRecDepth 100000
def Bl(c:Nat)(y:Vy)(L:Nat->Nat):Prop:= ∀ m,m<16->vO y m=((ln 8 (L (m / c)) (m % c):Nat):Int)
theorem Bl.by{c:Nat}{y:Vy}{L:Nat->Nat}(h:Bl c y L):By y (fun m=>ln 8 (L (m / c)) (m % c)):=⟨h,fun _=>wX _ _⟩
theorem Bl.cg{c:Nat}{y:Vy}{L M:Nat->Nat}(h:Bl c y L)(e: ∀ j,j<16->L j=M j)(hc:0<c):Bl c y M:=fun m hm=>by
 rw[<-e (m / c) (Nat.lt_of_le_of_lt (Nat.div_le_self _ _) hm)];exact h m hm
theorem L5(c x:Nat):pk 8 c (fun m=>ln 8 x m)=x % 2 ^ (8*c):=by
 have h:=NT c x 0
 rw[ln,Nat.mul_zero,Nat.pow_zero,Nat.div_one]at h
 rw[h]
 exact cB fun m _=>by rw[Nat.mul_zero,Nat.zero_add]
theorem ab7{c:Nat}(x i:Nat){k:Nat}(hk:k<c):ln 8 (ln (8*c) x i) k=ln 8 x (c*i+k):=by
 rw[NT]
 exact Bk (fun _ _=>wX _ _) k hk
theorem blk{c i k:Nat}(hk:k<c):(i*c+k) / c=i/\(i*c+k) % c=k:=by
 have hc:0<c:=Nat.lt_of_le_of_lt (Nat.zero_le _) hk
 refine⟨?_,?_⟩
 ·rw[Nat.add_comm,Nat.add_mul_div_right _ _ hc,Nat.div_eq_of_lt hk,Nat.zero_add]
 ·rw[Nat.add_comm,Nat.add_mul_mod_self_right,Nat.mod_eq_of_lt hk]
theorem as0{w i:Nat}(hw:Wq w)(hi:i<128 / w):i*(w / 8)+w / 8<=16:=by
 obtain⟨h1,h2,h3,h4,h5,h6,h7⟩:=hw.c
 have:(i+1)*(w / 8)<=(128 / w)*(w / 8):=Nat.mul_le_mul_right _ hi
 rw[Nat.succ_mul]at this;omega
theorem Bl.get{y:Vy}{L:Nat->Nat}{w i:Nat}(hw:Wq w)(h:Bl (w / 8) y L)(hi:i<128 / w):gX (vO y) (w:Int) (i:Int)=((L i % 2 ^ w:Nat):Int):=by
 obtain⟨h1,h2,h3,h4,h5,h6,h7⟩:=hw.c
 show qI (vO y) ((i:Int).toNat*((w:Int).toNat / 8)) ((w:Int).toNat / 8)=_
 rw[Int.toNat_natCast,Int.toNat_natCast,Bq h.by _ _ h3 (as0 hw hi)]
 congr 1
 conv=>rhs;rw[h1,<-L5]
 exact cB fun m hm=>by rw[(blk hm).1,(blk hm).2]
theorem Bl.set{y:Vy}{L:Nat->Nat}{w i:Nat}(hw:Wq w)(h:Bl (w / 8) y L)(_hi:i<128 / w)(X:Nat):Bl (w / 8) (cV [] (pX (vO y) (w:Int) (i:Int) (X:Int)) ()) (fun j=>if j=i then X else L j):=fun m hm=>by
 obtain⟨h1,h2,h3,h4,h5,h6,h7⟩:=hw.c
 rw[JY _ hm]
 show(bif Nat.ble ((i:Int).toNat*((w:Int).toNat / 8)) m&&Nat.blt m ((i:Int).toNat*((w:Int).toNat / 8)+(w:Int).toNat / 8)then cb .u8 (px .u64 (X:Int) (Int.ofNat (8*(m - (i:Int).toNat*((w:Int).toNat / 8)))))else vO y m)=_
 rw[Int.toNat_natCast,Int.toNat_natCast]
 by_cases Gh:i*(w / 8)<=m/\m<i*(w / 8)+w / 8
 ·have e1:Nat.ble (i*(w / 8)) m=true:=Nat.ble_eq_true_of_le Gh.1
  have e2:Nat.blt m (i*(w / 8)+w / 8)=true:=by unfold Nat.blt;exact Nat.ble_eq_true_of_le Gh.2
  obtain⟨k,hk⟩: ∃ k,m=i*(w / 8)+k:=⟨m - i*(w / 8),by omega⟩
  have hkc:k<w / 8:=by omega
  subst hk
  rw[e1,e2,(blk hkc).1,(blk hkc).2,show(fun j=>if j=i then X else L j) i=X from if_pos rfl]
  show cb .u8 (px .u64 (X:Int) ((8*(i*(w / 8)+k - i*(w / 8)):Nat):Int))=_
  rw[JM (by omega),UX,Nat.add_sub_cancel_left]
  rfl
 ·have e:(Nat.ble (i*(w / 8)) m&&Nat.blt m (i*(w / 8)+w / 8))=false:=by
   by_cases a:i*(w / 8)<=m
   ·have b: ¬ (m<i*(w / 8)+w / 8):=fun b=>Gh ⟨a,b⟩
    have:Nat.blt m (i*(w / 8)+w / 8)=false:=by
     unfold Nat.blt
     cases hq:Nat.ble (m+1) (i*(w / 8)+w / 8)with
     |false=>rfl
     |true=>exact absurd (Nat.le_of_ble_eq_true hq) b
    rw[this,Bool.and_false]
   ·cases hq:Nat.ble (i*(w / 8)) m with
    |false=>rfl
    |true=>exact absurd (Nat.le_of_ble_eq_true hq) a
  have vi:m / (w / 8)≠i:=fun he=>Gh (by
   have:=Nat.div_add_mod m (w / 8)
   rw[he,Nat.mul_comm]at this
   have:=Nat.mod_lt m h2
   omega)
  rw[e]
  show vO y m=((ln 8 (if m / (w / 8)=i then X else L (m / (w / 8))) (m % (w / 8)):Nat):Int)
  rw[if_neg vi]
  exact h m hm
theorem UY(w:Nat): ∀ (a b:Nat) (f:Nat->Nat),pk w (a+b) f=pk w a f+2 ^ (w*a)*pk w b (fun m=>f (a+m))
 |0,b,f=>by simp[pk]
 |a+1,b,f=>by
  have ih:=UY w a b (fun i=>f (i+1))
  rw[Nat.succ_add]
  show f 0+2 ^ w*pk w (a+b) (fun i=>f (i+1))=f 0+2 ^ w*pk w a (fun i=>f (i+1))+2 ^ (w*(a+1))*pk w b (fun m=>f (a+1+m))
  rw[ih,Nat.mul_add,<-Nat.mul_assoc,<-Nat.pow_add,Nat.mul_succ,Nat.add_comm w,Nat.add_assoc]
  congr 3
  exact cB fun m _=>by congr 1;omega
theorem UZ{c:Nat}(hc:0<c): ∀ (q:Nat) (g:Nat->Nat->Nat),pk 8 (c*q) (fun m=>g (m / c) (m % c))=pk (8*c) q (fun i=>pk 8 c (g i))
 |0,_=>rfl
 |q+1,g=>by
  rw[Nat.mul_succ,Nat.add_comm,UY]
  show _=pk 8 c (g 0)+2 ^ (8*c)*pk (8*c) q (fun i=>pk 8 c (g (i+1)))
  rw[<-UZ hc q (fun i=>g (i+1))]
  congr 1
  ·exact cB fun m hm=>by rw[Nat.div_eq_of_lt hm,Nat.mod_eq_of_lt hm]
  ·congr 1
   exact cB fun m _=>by rw[Nat.add_div_left _ hc,Nat.add_mod_left]
theorem NV{w:Nat}(hw:Wq w)(L:Nat->Nat)(b:Nat):pk 8 8 (fun m=>ln 8 (L (b+m / (w / 8))) (m % (w / 8)))=pk w (64 / w) (fun i=>L (b+i) % 2 ^ w):=by
 obtain⟨h1,h2,h3,h4,h5,h6,h7⟩:=hw.c
 have t:=UZ h2 (64 / w) (fun i m=>ln 8 (L (b+i)) m)
 rw[Nat.mul_comm,h5]at t
 refine t.trans ?_
 have u:pk (8*(w / 8)) (64 / w) (fun i=>pk 8 (w / 8) (ln 8 (L (b+i))))=pk (8*(w / 8)) (64 / w) (fun i=>L (b+i) % 2 ^ (8*(w / 8))):=cB fun i _=>L5 _ _
 rw[<-h1]at u
 rw[<-h1]
 exact u
theorem Bl.lo{y:Vy}{L:Nat->Nat}{w:Nat}(hw:Wq w)(h:Bl (w / 8) y L):qI (vO y) 0 8=((pk w (64 / w) (fun i=>L i % 2 ^ w):Nat):Int):=by
 refine(Bq h.by 0 8 (Nat.le_refl _) (by decide)).trans (congrArg Nat.cast ?_)
 refine(cB fun m _=>?_).trans ((NV hw L 0).trans (cB fun m _=>?_))
 ·rw[Nat.zero_add,Nat.zero_add]
 ·rw[Nat.zero_add]
theorem Bl.hi{y:Vy}{L:Nat->Nat}{w:Nat}(hw:Wq w)(h:Bl (w / 8) y L):qI (vO y) 8 8=((pk w (64 / w) (fun i=>L (64 / w+i) % 2 ^ w):Nat):Int):=by
 refine(Bq h.by 8 8 (Nat.le_refl _) (by decide)).trans (congrArg Nat.cast ?_)
 refine(cB fun m _=>?_).trans (NV hw L (64 / w))
 obtain⟨h1,h2,h3,h4,h5,h6,h7⟩:=hw.c
 have e1:(8+m) / (w / 8)=64 / w+m / (w / 8):=by
  have:=Nat.add_mul_div_right m (64 / w) h2
  rw[h5]at this
  rw[Nat.add_comm 8 m,this,Nat.add_comm]
 have e2:(8+m) % (w / 8)=m % (w / 8):=by
  have:=Nat.add_mul_mod_self_right m (64 / w) (w / 8)
  rw[h5]at this
  rw[Nat.add_comm 8 m,this]
 show ln 8 (L ((8+m) / (w / 8))) ((8+m) % (w / 8))=_
 rw[e1,e2]
theorem By.bl{y:Vy}{lo hi:Nat}(h:By y (uh lo hi)){w:Nat}(hw:Wq w):Bl (w / 8) y (p' w lo hi):=fun m hm=>by
 obtain⟨h1,h2,h3,h4,h5,h6,h7⟩:=hw.c
 rw[h.e m hm]
 congr 1
 have hk:=Nat.mod_lt m h2
 have hd:=Nat.div_add_mod m (w / 8)
 unfold uh p'
 by_cases a:m<8
 ·have:m / (w / 8)<64 / w:=(Nat.div_lt_iff_lt_mul h2).2 (by rw[h5];exact a)
  rw[if_pos a,if_pos this]
  conv=>rhs;rw[h1,Nat.mul_div_cancel_left _ (by decide:0<8),ab7 _ _ (by rw[<-h1]at*;exact hk)]
  rw[hd]
 ·have: ¬ (m / (w / 8)<64 / w):=fun b=>a (by rw[<-h5];exact(Nat.div_lt_iff_lt_mul h2).1 b)
  rw[if_neg a,if_neg this]
  conv=>rhs;rw[h1,Nat.mul_div_cancel_left _ (by decide:0<8),ab7 _ _ (by rw[<-h1]at*;exact hk)]
  congr 1
  rw[<-h1,Nat.mul_sub,Nat.mul_comm (w / 8) (64 / w),h5]
  have:8<=w / 8*(m / (w / 8)):=by
   have:=Nat.mul_le_mul_left (w / 8) (Nat.le_of_not_lt this)
   rw[Nat.mul_comm (w / 8) (64 / w),h5]at this;exact this
  omega
theorem NW{ti to:List Ty}{f:List Pl->Lf.T Rs}(c N:Nat)(S:Vy->Nat->cf ti)(O:Vy->cf to)(L0 Z:Nat->Nat)
 (hs: ∀ y i,i<N->Bl c y (fun j=>if j<i then Z j else L0 j)-> ∃ y',tr2 ti to [] (f (cp ti (S y i)))=some (.nx (S y' (i+1)))/\Bl c y' (fun j=>if j<i+1 then Z j else L0 j))
 (he: ∀ y,tr2 ti to [] (f (cp ti (S y N)))=some (.o0 (O y))){y0:Vy}(h0:Bl c y0 L0):
 ∃ y',DT f ti to (S y0 0)=true/\lo1 f ti to (S y0 0)=O y'/\Bl c y' (fun j=>if j<N then Z j else L0 j):=by
 have key: ∀ d i y,i+d=N->Bl c y (fun j=>if j<i then Z j else L0 j)-> ∃ y',uQ f (cp ti (S y i)) 0 (cp to (O y'))/\Bl c y' (fun j=>if j<N then Z j else L0 j):=by
  intro d
  induction d with
  |zero=>
   intro i y hi hb
   obtain rfl:i=N:=by omega
   exact⟨y,.last (Hm (he y)),hb⟩
  |succ d ih=>
   intro i y hi hb
   obtain⟨y1,h1,h2⟩:=hs y i (by omega) hb
   obtain⟨y2,h3,h4⟩:=ih (i+1) y1 (by omega) h2
   exact⟨y2,.more (Hm h1) h3,h4⟩
 obtain⟨y',h1,h2⟩:=key N 0 y0 (by omega) (by simpa using h0)
 obtain⟨a,b⟩:=Fj h1
 exact⟨y',a,b,h2⟩
end Go.Proofs.Vq

noncomputable section
namespace Go.Proofs.Vq
open Go.Ab Go.Ab.Lf Go.Proofs.Sw
set_option maxRecDepth 100000
def akA(w:Nat):Int:=match w with|8=> -128|16=> -32768|32=> -2147483648| _=> -9223372036854775808
def akB(w:Nat):Int:=match w with|8=>127|16=>32767|32=>2147483647| _=>9223372036854775807
def PD(w:Nat):Int:=match w with|8=>255|16=>65535|32=>4294967295| _=>18446744073709551615
def arX(w k:Nat)(x y s t:Int):Int:=match k with
 |14=>na .u64 (x+y)
 |15=>na .u64 (min (max (na .i64 (s+t)) (akA w)) (akB w))
 |16=>min (na .u64 (x+y)) (PD w)
 |17=>na .u64 (x - y)
 |18=>na .u64 (min (max (na .i64 (s - t)) (akA w)) (akB w))
 |19=>na .u64 (x - min x y)
 |21=>na .u64 (x*y)
 |22=>na .u64 (min s t)
 |23=>min x y
 |24=>na .u64 (max s t)
 |25=>max x y
 | _=>na .u64 (Int.tdiv (na .u64 (na .u64 (x+y)+1)) 2)
def Kq(w k:Nat):Prop:=k=14∨k=17∨((k=15∨k=16∨k=18∨k=19∨k=27)/\(w=8∨w=16))∨(k=21/\(w=16∨w=32∨w=64))∨((k=22∨k=23∨k=24∨k=25)/\(w=8∨w=16∨w=32))
theorem U2{w k:Nat}(hw:Wq w)(hk:Kq w k)(x y s t:Int):afm ((w:Int),(k:Int),x,y,s,t,())=true/\afn ((w:Int),(k:Int),x,y,s,t,())=(arX w k x y s t,()):=by
 refine nm (ca _) (ca _) ?_
 rcases hk with rfl|rfl|⟨rfl|rfl|rfl|rfl|rfl,rfl|rfl⟩|⟨rfl,rfl|rfl|rfl⟩|⟨rfl|rfl|rfl|rfl,rfl|rfl|rfl⟩
 ·rcases hw with rfl|rfl|rfl|rfl<;>kernel_rfl
 ·rcases hw with rfl|rfl|rfl|rfl<;>kernel_rfl
 all_goals kernel_rfl
theorem Wq.P{w:Nat}(h:Wq w): ∃ P,2 ^ (w - 1)=P/\2 ^ (w - 1+1)=2*P/\2 ^ w=2*P/\((w=8/\P=128)∨(w=16/\P=32768)∨(w=32/\P=2147483648)∨(w=64/\P=9223372036854775808)):=by
 rcases h with rfl|rfl|rfl|rfl
 ·exact⟨128,by decide⟩
 ·exact⟨32768,by decide⟩
 ·exact⟨2147483648,by decide⟩
 ·exact⟨9223372036854775808,by decide⟩
theorem Z'{w P a:Nat}(h1:2 ^ (w - 1)=P)(h2:2 ^ (w - 1+1)=2*P)(ha:a<2*P): -(P:Int)<=sw (w - 1) a/\sw (w - 1) a<P:=by
 unfold sw;rw[h1,h2];split<;>omega
theorem Ht{P:Nat}{S:Int}(hP:P=128∨P=32768)(h1: -(2*P:Int)<=S)(h2:S<=2*P):(na .u64 (min (max (na .i64 S) (-(P:Int))) ((P:Int) - 1))).toNat % (2*P)=(min (max S (-(P:Nat))) ((P:Nat) - 1) % ((2*P:Nat):Int)).toNat:=by
 rw[wrap_i64 (by omega) (by omega),wU]
 have hq: -(P:Int)<=min (max S (-(P:Int))) ((P:Int) - 1)/\min (max S (-(P:Int))) ((P:Int) - 1)<P:=by omega
 generalize min (max S (-(P:Int))) ((P:Int) - 1)=q at*
 rcases hP with rfl|rfl<;>omega
theorem as1{w k a b:Nat}(hw:Wq w)(hk:Kq w k)(ha:a<2 ^ w)(hb:b<2 ^ w): ∃ Z:Nat,arX w k (a:Int) (b:Int) (sw (w - 1) a) (sw (w - 1) b)=(Z:Int)/\Z % 2 ^ w=if k=21 then a*b % 2 ^ w else sy (w - 1) k a b:=by
 obtain⟨P,h1,h2,h3,h4⟩:=hw.P
 have nn: ∀ n:Int,na .u64 n=((na .u64 n).toNat:Int):=fun n=>(Int.toNat_of_nonneg (Int.emod_nonneg _ (by decide))).symm
 rw[h3]at ha hb ⊢
 rcases hk with rfl|rfl|⟨rfl|rfl|rfl|rfl|rfl,hww⟩|⟨rfl,hww⟩|⟨rfl|rfl|rfl|rfl,hww⟩
 ·refine⟨_,nn ((a:Int)+(b:Int)),?_⟩
  rw[if_neg (by decide)];unfold sy;simp only;rw[h2,wU]
  rcases h4 with⟨rfl,rfl⟩|⟨rfl,rfl⟩|⟨rfl,rfl⟩|⟨rfl,rfl⟩<;>omega
 ·refine⟨_,nn _,?_⟩
  rw[if_neg (by decide)];unfold sy;simp only;rw[h2,wU]
  rcases h4 with⟨rfl,rfl⟩|⟨rfl,rfl⟩|⟨rfl,rfl⟩|⟨rfl,rfl⟩<;>omega
 ·refine⟨_,nn _,?_⟩
  rw[if_neg (by decide)];unfold sy;simp only;rw[h1,h2]
  have ba:=Z' h1 h2 ha
  have bb:=Z' h1 h2 hb
  generalize sw (w - 1) a=s at*
  generalize sw (w - 1) b=t at*
  have c1: -(2*P:Int)<=s+t:=by clear h1 h2 h3 h4;omega
  have c2:s+t<=2*P:=by clear h1 h2 h3 h4;omega
  rcases hww with rfl|rfl
  ·obtain rfl:P=128:=by clear h1 h2 h3;omega
   exact Ht (.inl rfl) c1 c2
  ·obtain rfl:P=32768:=by clear h1 h2 h3;omega
   exact Ht (.inr rfl) c1 c2
 ·rcases hww with rfl|rfl
  ·obtain rfl:P=128:=by omega
   refine⟨min ((a+b) % 18446744073709551616) 255,?_,?_⟩
   ·unfold arX PD;simp only;rw[wU];omega
   ·rw[if_neg (by decide)];unfold sy;simp only;rw[h2];omega
  ·obtain rfl:P=32768:=by omega
   refine⟨min ((a+b) % 18446744073709551616) 65535,?_,?_⟩
   ·unfold arX PD;simp only;rw[wU];omega
   ·rw[if_neg (by decide)];unfold sy;simp only;rw[h2];omega
 ·refine⟨_,nn _,?_⟩
  rw[if_neg (by decide)];unfold sy;simp only;rw[h1,h2]
  have ba:=Z' h1 h2 ha
  have bb:=Z' h1 h2 hb
  generalize sw (w - 1) a=s at*
  generalize sw (w - 1) b=t at*
  have c1: -(2*P:Int)<=s - t:=by clear h1 h2 h3 h4;omega
  have c2:s - t<=2*P:=by clear h1 h2 h3 h4;omega
  rcases hww with rfl|rfl
  ·obtain rfl:P=128:=by clear h1 h2 h3;omega
   exact Ht (.inl rfl) c1 c2
  ·obtain rfl:P=32768:=by clear h1 h2 h3;omega
   exact Ht (.inr rfl) c1 c2
 ·refine⟨_,nn _,?_⟩
  rw[if_neg (by decide)];unfold sy;simp only;rw[wU]
  rcases h4 with⟨rfl,rfl⟩|⟨rfl,rfl⟩|⟨rfl,rfl⟩|⟨rfl,rfl⟩<;>omega
 ·refine⟨_,by unfold arX;simp only;exact nn (Int.tdiv (na .u64 (na .u64 ((a:Int)+(b:Int))+1)) 2),?_⟩
  rw[if_neg (by decide)];unfold sy;simp only;rw[wU,wU,wU,Int.tdiv_eq_ediv_of_nonneg (Int.emod_nonneg _ (by decide))]
  rcases h4 with⟨rfl,rfl⟩|⟨rfl,rfl⟩|⟨rfl,rfl⟩|⟨rfl,rfl⟩<;>omega
 ·refine⟨a*b % 18446744073709551616,?_,?_⟩
  ·exact ZF (a*b)
  ·rw[if_pos rfl]
   refine Nat.mod_mod_of_dvd _ ?_
   rcases h4 with⟨rfl,rfl⟩|⟨rfl,rfl⟩|⟨rfl,rfl⟩|⟨rfl,rfl⟩<;>decide
 ·refine⟨_,nn _,?_⟩
  rw[if_neg (by decide)];unfold sy sw;simp only;rw[h1,h2,wU]
  rcases h4 with⟨rfl,rfl⟩|⟨rfl,rfl⟩|⟨rfl,rfl⟩|⟨rfl,rfl⟩<;>(repeat' split)<;>omega
 ·refine⟨min a b,?_,?_⟩
  ·unfold arX;simp only;omega
  ·rw[if_neg (by decide)];unfold sy;simp only;split<;>rw[Nat.mod_eq_of_lt (by omega)]<;>omega
 ·refine⟨_,nn _,?_⟩
  rw[if_neg (by decide)];unfold sy sw;simp only;rw[h1,h2,wU]
  rcases h4 with⟨rfl,rfl⟩|⟨rfl,rfl⟩|⟨rfl,rfl⟩|⟨rfl,rfl⟩<;>(repeat' split)<;>omega
 ·refine⟨max a b,?_,?_⟩
  ·unfold arX;simp only;omega
  ·rw[if_neg (by decide)];unfold sy;simp only;split<;>rw[Nat.mod_eq_of_lt (by omega)]<;>omega
theorem akD{w k a b:Nat}(hw:Wq w)(hk:k<10)(ha:a<2 ^ w)(hb:b<2 ^ w):ZU ((k:Int),sw (w - 1) a,sw (w - 1) b,())=true/\ZV ((k:Int),sw (w - 1) a,sw (w - 1) b,())=(cmpL (w - 1) k a b,()):=by
 have key: ∀ s t:Int,∀ c:Bool,(match k with|0=>decide (s=t)|1=> !decide (s=t)|2=>decide (s<t)|3=>decide (na .u64 s<na .u64 t)|4=>decide (t<s)|5=>decide (na .u64 t<na .u64 s)|6=>decide (s<=t)|7=>decide (na .u64 s<=na .u64 t)|8=>decide (t<=s)| _=>decide (na .u64 t<=na .u64 s))=c->ZU ((k:Int),s,t,())=true/\ZV ((k:Int),s,t,())=(c,()):=by
  intro s t c hc
  subst hc
  refine nm (ca _) (ca _) ?_
  obtain rfl|rfl|rfl|rfl|rfl|rfl|rfl|rfl|rfl|rfl:k=0∨k=1∨k=2∨k=3∨k=4∨k=5∨k=6∨k=7∨k=8∨k=9:=by omega
  all_goals kernel_rfl
 refine key _ _ _ ?_
 obtain⟨P,h1,h2,h3,h4⟩:=hw.P
 rw[h3]at ha hb
 have hP:0<P/\2*P<=18446744073709551616:=by rcases h4 with⟨rfl,rfl⟩|⟨rfl,rfl⟩|⟨rfl,rfl⟩|⟨rfl,rfl⟩<;>decide
 have e1:(sw (w - 1) a=sw (w - 1) b)↔a=b:=by
  unfold sw;rw[h1,h2];split<;>split<;>omega
 have e2:(na .u64 (sw (w - 1) a)<na .u64 (sw (w - 1) b))↔a<b:=by
  unfold sw;rw[h1,h2,wU,wU];split<;>split<;>omega
 have e3:(na .u64 (sw (w - 1) b)<na .u64 (sw (w - 1) a))↔b<a:=by
  unfold sw;rw[h1,h2,wU,wU];split<;>split<;>omega
 have neg: ∀ s t:Int,decide (s<=t)= !decide (t<s):=fun s t=>by
  by_cases h:t<s
  ·rw[dt h,df (show ¬ s<=t by omega)];rfl
  ·rw[df h,dt (show s<=t by omega)];rfl
 unfold cmpL
 match k,hk with
 |0,_=>exact decide_eq_decide.2 e1
 |1,_=>exact congrArg not (decide_eq_decide.2 e1)
 |2,_=>rfl
 |3,_=>exact decide_eq_decide.2 e2
 |4,_=>rfl
 |5,_=>exact decide_eq_decide.2 e3
 |6,_=>exact neg _ _
 |7,_=>exact(neg _ _).trans (congrArg not (decide_eq_decide.2 e3))
 |8,_=>exact neg _ _
 |9,_=>exact(neg _ _).trans (congrArg not (decide_eq_decide.2 e2))
 | _+10,h=>exact absurd h (by omega)
end Go.Proofs.Vq

noncomputable section
namespace Go.Proofs.Vq
open Go.Ab Go.Ab.Lf Go.Proofs.Sw
set_option maxRecDepth 100000
def z0:Vy:=cV [] Af ()
theorem as2(m:Nat)(h:m<16):vO z0 m=0:=JY Af h
theorem ab9(c:Nat):Bl c z0 (fun _=>0):=fun m h=>by
 rw[as2 m h];unfold ln;simp
theorem JZ{i:Nat}(h:i<1000):nz .i64 (i:Int) 1=((i+1:Nat):Int):=wrap_i64 (by omega) (by omega)
theorem N16{w i:Nat}(hw:Wq w)(h:i<128 / w):i<1000:=by
 have:128 / w<=16:=by rcases hw with rfl|rfl|rfl|rfl<;>decide
 omega
theorem J0{i n:Nat}(h:i<n):decide ((i:Int)<(n:Int))=true:=dt (Int.ofNat_lt.2 h)
theorem J1(n:Nat):decide ((n:Int)<(n:Int))=false:=df (Int.lt_irrefl _)
theorem Hu{w i:Nat}{y:Vy}{L0 Z:Nat->Nat}(hw:Wq w)(hi:i<128 / w)(hb:Bl (w / 8) y (fun j=>if j<i then Z j else L0 j)):Bl (w / 8) (cV [] (pX (vO y) (w:Int) (i:Int) (Z i:Int)) ()) (fun j=>if j<i+1 then Z j else L0 j):=
 (hb.set hw hi (Z i)).cg (fun j _=>by
  show(if j=i then Z i else if j<i then Z j else L0 j)=if j<i+1 then Z j else L0 j
  by_cases h1:j=i
  ·rw[if_pos h1,if_pos (by omega),h1]
  ·rw[if_neg h1]
   by_cases h2:j<i
   ·rw[if_pos h2,if_pos (by omega)]
   ·rw[if_neg h2,if_neg (by omega)]) hw.c.2.1
theorem as3{op:Int}{w k:Nat}(hp:BO (op,())=true/\BP (op,())=((w:Int),(k:Int),()))(hw:Wq w)(hk:Kq w k){ya yb:Vy}{al ah bl bh:Nat}(ha:By ya (uh al ah))(hb:By yb (uh bl bh)):
 ∃ y L,(t157 (op,cV (tV []) (vO ya) (cV [] (vO yb) ()))).val=some (cp Ac (cV [i64] (vO y) (0,())))/\Bl (w / 8) y L/\ ∀ i,i<128 / w->L i % 2 ^ w=if k=21 then p' w al ah i*p' w bl bh i % 2 ^ w else sy (w - 1) k (p' w al ah i) (p' w bl bh i):=by
 have hz: ∀ i,∃ Z:Nat,arX w k (p' w al ah i:Nat) (p' w bl bh i:Nat) (sw (w - 1) (p' w al ah i)) (sw (w - 1) (p' w bl bh i))=(Z:Int)/\Z % 2 ^ w=if k=21 then p' w al ah i*p' w bl bh i % 2 ^ w else sy (w - 1) k (p' w al ah i) (p' w bl bh i):=fun i=>as1 hw hk tZ tZ
 obtain⟨Z,hZ⟩:=Classical.axiomOfChoice hz
 have V:=Hr hw
 obtain⟨y',h1,h2,h3⟩:=NW (f:=yG) (w / 8) (128 / w) (fun y i=>PW (vO ya) (vO yb) (vO z0) (vO y) 0 (w:Int) (k:Int) ((128 / w:Nat):Int) (i:Int)) (fun y=>cV (i64::tV []) (vO z0) (0,cV [] (vO y) ())) (fun _=>0) Z
  (fun y i hi xL=>by
   refine⟨cV [] (pX (vO y) (w:Int) (i:Int) (Z i:Int)) (),?_,Hu hw hi xL⟩
   rw[NO,J0 hi,yL hw hi,qJ,qJ,(Et ha hw hi).1,(Et ha hw hi).2,(Et hb hw hi).1,(Et hb hw hi).2,NU ha hw hi,NU hb hw hi,(U2 hw hk _ _ _ _).1,(U2 hw hk _ _ _ _).2,(hZ i).1,JZ (N16 hw hi)]
   rfl)
  (fun y=>by rw[NO,J1];rfl) (ab9 _)
 refine⟨y',_,?_,h3,fun i hi=>by rw[if_pos hi];exact(hZ i).2⟩
 rw[ab4 ya yb op _ hp.2.symm _ rfl _ rfl,hp.1]
 have w0: ¬ ((w:Int)=0):=by rcases hw with rfl|rfl|rfl|rfl<;>decide
 have k14: ¬ ((k:Int)<14):=by
  have:14<=k:=by rcases hk with rfl|rfl|⟨rfl|rfl|rfl|rfl|rfl,_⟩|⟨rfl,_⟩|⟨rfl|rfl|rfl|rfl,_⟩<;>decide
  omega
 simp only[V.1,V.2,df w0,df k14]
 have e1:DT yG rX qY (PW (vO ya) (vO yb) Af Af 0 (w:Int) (k:Int) ((128 / w:Nat):Int) 0)=true:=h1
 have e2:lo1 yG rX qY (PW (vO ya) (vO yb) Af Af 0 (w:Int) (k:Int) ((128 / w:Nat):Int) 0)=_:=h2
 rw[e1,e2]
 rfl
end Go.Proofs.Vq

noncomputable section
namespace Go.Proofs.Vq
open Go.Ab Go.Ab.Lf Go.Proofs.Sw
set_option maxRecDepth 100000
theorem ab'{y:Vy}{L:Nat->Nat}{w i:Nat}(hw:Wq w)(h:Bl (w / 8) y L)(vk:i<128 / w):Em (sX (vO y) (w:Int) (i:Int))=true/\z8 (sX (vO y) (w:Int) (i:Int))=(sw (w - 1) (L i % 2 ^ w),()):=by
 refine nm (ca _) (ca _) ?_
 rw[ab3,(Hr hw).1,(Hr hw).2,yL hw vk,h.get hw vk,ab6 hw (Nat.mod_lt _ (Nat.two_pow_pos w))]
 have c:(0:Int)<=cz .i64 64 (w:Int):=by rcases hw with rfl|rfl|rfl|rfl<;>decide
 have hn: ¬ (((128 / w:Nat):Int)=0):=by rcases hw with rfl|rfl|rfl|rfl<;>decide
 rw[dt c,df hn]
 rfl
theorem NX{w lo hi i:Nat}{Z:Nat->Nat}:(if i<i then Z i else p' w lo hi i) % 2 ^ w=p' w lo hi i:=by
 rw[if_neg (Nat.lt_irrefl _)];exact Nat.mod_eq_of_lt tZ
def shX(w k q x:Nat):Int:=if k=11 then tP .u64 (x:Int) (q:Int)else if k=12 then cb .u64 (px .i64 (sw (w - 1) x) (q:Int))else px .u64 (x:Int) (q:Int)
theorem zsh{w k q x:Nat}(hw:Wq w)(hk:k=11∨k=12∨k=13)(hq:q<w)(hx:x<2 ^ w): ∃ Z:Nat,shX w k q x=(Z:Int)/\Z % 2 ^ w=Zx (w - 1) k q x:=by
 have as5:w<=64:=by rcases hw with rfl|rfl|rfl|rfl<;>decide
 have w0:0<w:=by rcases hw with rfl|rfl|rfl|rfl<;>decide
 have w1:w - 1+1=w:=by omega
 have hd:2 ^ w∣18446744073709551616:=Nat.pow_dvd_pow 2 as5
 unfold shX Zx
 rw[w1]
 rcases hk with rfl|rfl|rfl
 ·refine⟨2 ^ q*x % cN,by rw[if_pos rfl];exact UB (by omega),?_⟩
  rw[if_pos rfl]
  exact Nat.mod_mod_of_dvd _ hd
 ·have e12: ¬ ((12:Nat)=11):=by decide
  simp only[if_neg e12,if_true]
  rw[ab5 (by omega)]
  refine⟨_,(Int.toNat_of_nonneg (Int.emod_nonneg _ (by decide))).symm,?_⟩
  generalize sw (w - 1) x / ((2 ^ q:Nat):Int)=v
  have h1:(0:Int)<=v % 18446744073709551616:=Int.emod_nonneg _ (by decide)
  have h2:((v % 18446744073709551616).toNat % 2 ^ w:Nat)=(((v % 18446744073709551616) % ((2 ^ w:Nat):Int)).toNat):=by
   rw[Int.toNat_emod h1 (Int.natCast_nonneg _)];rfl
  have h3:((2 ^ w:Nat):Int) ∣(18446744073709551616:Int):=Int.natCast_dvd_natCast.2 hd
  rw[h2,Int.emod_emod_of_dvd _ h3]
 ·have e1: ¬ ((13:Nat)=11):=by decide
  have e2: ¬ ((13:Nat)=12):=by decide
  simp only[if_neg e1,if_neg e2]
  exact⟨x / 2 ^ q,JM (by omega),Nat.mod_eq_of_lt (Nat.lt_of_le_of_lt (Nat.div_le_self _ _) hx)⟩
theorem as6{op:Int}{w k q:Nat}(hp:BO (op,())=true/\BP (op,())=((w:Int),(k:Int),()))(hw:Wq w)(hk:k=11∨k=12∨k=13){ya:Vy}{al ah:Nat}(ha:By ya (uh al ah)):
 ∃ y L,(t156 (op,cV [u32] (vO ya) ((q:Int),()))).val=some (cp Bn (cV [i64] (vO y) (0,())))/\Bl (w / 8) y L/\ ∀ i,i<128 / w->L i % 2 ^ w=Zx (w - 1) k (q % w) (p' w al ah i):=by
 have w0:0<w:=by rcases hw with rfl|rfl|rfl|rfl<;>decide
 have w64:w<=64:=by rcases hw with rfl|rfl|rfl|rfl<;>decide
 have hz: ∀ i,∃ Z:Nat,shX w k (q % w) (p' w al ah i)=(Z:Int)/\Z % 2 ^ w=Zx (w - 1) k (q % w) (p' w al ah i):=fun i=>zsh hw hk (Nat.mod_lt _ w0) tZ
 obtain⟨Z,hZ⟩:=Classical.axiomOfChoice hz
 have V:=Hr hw
 have nq:(0:Int)<=((q % w:Nat):Int):=Int.natCast_nonneg _
 obtain⟨y',h1,h2,h3⟩:=NW (f:=yH) (w / 8) (128 / w) (fun y i=>JX (vO z0) (vO y) 0 (w:Int) (k:Int) ((128 / w:Nat):Int) (i:Int) ((q % w:Nat):Int)) (fun y=>cV (tV [i64]) (vO y) (cV [i64] (vO z0) (0,()))) (p' w al ah) Z
  (fun y i hi xL=>by
   refine⟨cV [] (pX (vO y) (w:Int) (i:Int) (Z i:Int)) (),?_,Hu hw hi xL⟩
   have g:=xL.get hw hi
   have s:=ab' hw xL hi
   rw[NX]at g s
   rw[NP,J0 hi,yL hw hi,dt nq,g,s.1,s.2,JZ (N16 hw hi),<-(hZ i).1]
   rcases hk with rfl|rfl|rfl<;>rfl)
  (fun y=>by rw[NP,J1];rfl) (ha.bl hw)
 refine⟨y',_,?_,h3,fun i hi=>by rw[if_pos hi];exact(hZ i).2⟩
 rw[akw ya op (q:Int) _ hp.2.symm _ rfl _ rfl,hp.1]
 have w0: ¬ ((w:Int)=0):=by omega
 have k1: ¬ ((k:Int)<11):=by omega
 have k2: ¬ (13<(k:Int)):=by omega
 have c0:cb .u32 (w:Int)=(w:Int):=by rw[DH,Nat.mod_eq_of_lt (by omega)]
 have rm:we .u32 (q:Int) (w:Int)=((q % w:Nat):Int):=by
  show Int.tmod (q:Int) (w:Int)=_
  rfl
 simp only[V.1,V.2,df w0,df k1,df k2,c0,rm]
 have e1:DT yH rY qZ (JX Af (vO ya) 0 (w:Int) (k:Int) ((128 / w:Nat):Int) 0 ((q % w:Nat):Int))=true:=h1
 have e2:lo1 yH rY qZ (JX Af (vO ya) 0 (w:Int) (k:Int) ((128 / w:Nat):Int) 0 ((q % w:Nat):Int))=_:=h2
 rw[e1,e2]
 rfl
theorem akF: ∀ x:Fin 256,(nA Lz (t54 ((x.1:Int),()))).1=((pop8 x.1:Nat):Int):=by decide+kernel
theorem v54{x:Nat}(h:x<256):m54 ((x:Int),())=(((pop8 x:Nat):Int),()):=by
 have e:=akF ⟨x,h⟩
 have:m54 ((x:Int),())=nA Lz (t54 ((x:Int),())):=ca _
 rw[this]
 exact Prod.ext e rfl
theorem aca{x:Nat}(h:x<cN):yt .u64 (x:Int)=(((cN - x) % cN:Nat):Int):=by
 show na .u64 (0 - (x:Int))=_
 have h:x<18446744073709551616:=h
 rw[wU]
 show _=(((18446744073709551616 - x) % 18446744073709551616:Nat):Int)
 omega
def unX(w k x:Nat):Int:=if k=2 then cb .u64 (m54 ((x:Int),())).1 else if k=1 then yt .u64 (x:Int)else if sw (w - 1) x<0 then yt .u64 (x:Int)else(x:Int)
theorem zun{w k x:Nat}(hw:Wq w)(hk:k=0∨k=1∨(k=2/\w=8))(hx:x<2 ^ w): ∃ Z:Nat,unX w k x=(Z:Int)/\Z % 2 ^ w=A2 (w - 1) k x:=by
 obtain⟨P,h1,h2,h3,h4⟩:=hw.P
 have Z9:x<cN:=by
  rw[h3]at hx
  show x<18446744073709551616
  clear h1 h2 h3
  rcases h4 with⟨_,rfl⟩|⟨_,rfl⟩|⟨_,rfl⟩|⟨_,rfl⟩<;>omega
 unfold unX A2
 rcases hk with rfl|rfl|⟨rfl,rfl⟩
 ·rw[if_neg (by decide),if_neg (by decide)]
  have hs:(sw (w - 1) x<0)↔P<=x:=by unfold sw;rw[h1,h2];rw[h3]at hx;split<;>omega
  simp only[h1,h2,h3]
  rw[h3]at hx
  by_cases c:P<=x
  ·refine⟨(cN - x) % cN,by rw[if_pos (hs.2 c)];exact aca Z9,?_⟩
   rw[if_pos c]
   clear hs h1 h2 h3
   rw[show cN=18446744073709551616 from rfl]
   rcases h4 with⟨_,rfl⟩|⟨_,rfl⟩|⟨_,rfl⟩|⟨_,rfl⟩<;>omega
  ·refine⟨x,by rw[if_neg (fun h=>c (hs.1 h))],?_⟩
   rw[if_neg c]
   exact Nat.mod_eq_of_lt hx
 ·rw[if_neg (by decide),if_pos rfl]
  refine⟨(cN - x) % cN,aca Z9,?_⟩
  simp only[h2,h3]
  rw[h3]at hx
  clear h1 h2 h3
  rw[show cN=18446744073709551616 from rfl]
  rcases h4 with⟨_,rfl⟩|⟨_,rfl⟩|⟨_,rfl⟩|⟨_,rfl⟩<;>omega
 ·have hp:pop8 x<256:=by unfold pop8;omega
  refine⟨pop8 x,?_,Nat.mod_eq_of_lt hp⟩
  rw[if_pos rfl,v54 hx]
  exact wrap_u64 (Int.natCast_nonneg _) (by omega)
theorem as7{op:Int}{w k:Nat}(hp:BO (op,())=true/\BP (op,())=((w:Int),(k:Int),()))(hw:Wq w)(hk:k=0∨k=1∨(k=2/\w=8)){ya:Vy}{al ah:Nat}(ha:By ya (uh al ah)):
 ∃ y L,(t154 (op,cV [] (vO ya) ())).val=some (cp Bo (cV [i64] (vO y) (0,())))/\Bl (w / 8) y L/\ ∀ i,i<128 / w->L i % 2 ^ w=A2 (w - 1) k (p' w al ah i):=by
 have hz: ∀ i,∃ Z:Nat,unX w k (p' w al ah i)=(Z:Int)/\Z % 2 ^ w=A2 (w - 1) k (p' w al ah i):=fun i=>zun hw hk tZ
 obtain⟨Z,hZ⟩:=Classical.axiomOfChoice hz
 have V:=Hr hw
 obtain⟨y',h1,h2,h3⟩:=NW (f:=yI) (w / 8) (128 / w) (fun y i=>Hn (vO z0) (vO y) 0 (w:Int) (k:Int) ((128 / w:Nat):Int) (i:Int)) (fun y=>cV (tV [i64]) (vO y) (cV [i64] (vO z0) (0,()))) (p' w al ah) Z
  (fun y i hi xL=>by
   refine⟨cV [] (pX (vO y) (w:Int) (i:Int) (Z i:Int)) (),?_,Hu hw hi xL⟩
   have g:=xL.get hw hi
   have s:=ab' hw xL hi
   rw[NX]at g s
   rw[NQ,J0 hi,yL hw hi,g,s.1,s.2,abK,JZ (N16 hw hi),<-(hZ i).1]
   rcases hk with rfl|rfl|⟨rfl,rfl⟩
   ·show(bif decide (sw (w - 1) (p' w al ah i)<0)then _ else _)=_
    unfold unX
    rw[if_neg (by decide),if_neg (by decide)]
    by_cases c:sw (w - 1) (p' w al ah i)<0
    ·rw[dt c,if_pos c];rfl
    ·rw[df c,if_neg c];rfl
   ·rfl
   ·rfl)
  (fun y=>by rw[NQ,J1];rfl) (ha.bl hw)
 refine⟨y',_,?_,h3,fun i hi=>by rw[if_pos hi];exact(hZ i).2⟩
 rw[akx ya op _ hp.2.symm _ rfl _ rfl,hp.1]
 have w0: ¬ ((w:Int)=0):=by rcases hw with rfl|rfl|rfl|rfl<;>decide
 have k1: ¬ (2<(k:Int)):=by omega
 simp only[V.1,V.2,df w0,df k1]
 have e1:DT yI rZ q5 (Hn Af (vO ya) 0 (w:Int) (k:Int) ((128 / w:Nat):Int) 0)=true:=h1
 have e2:lo1 yI rZ q5 (Hn Af (vO ya) 0 (w:Int) (k:Int) ((128 / w:Nat):Int) 0)=_:=h2
 rw[e1,e2]
 rfl
theorem as8{op:Int}{w k:Nat}(hp:UK (op,())=true/\UL (op,())=((w:Int),(k:Int),()))(hw:Wq w)(hk:k<10){ya yb:Vy}{al ah bl bh:Nat}(ha:By ya (uh al ah))(hb:By yb (uh bl bh)):
 ∃ y L,(t158 (op,cV (tV []) (vO ya) (cV [] (vO yb) ()))).val=some (cp Bp (cV [i64] (vO y) (0,())))/\Bl (w / 8) y L/\ ∀ i,i<128 / w->L i % 2 ^ w=if cmpL (w - 1) k (p' w al ah i) (p' w bl bh i)then 2 ^ w - 1 else 0:=by
 have V:=Hr hw
 obtain⟨y',h1,h2,h3⟩:=NW (f:=yJ) (w / 8) (128 / w) (fun y i=>L4 (vO ya) (vO yb) (vO z0) (vO y) 0 (w:Int) (k:Int) ((128 / w:Nat):Int) (i:Int)) (fun y=>cV (i64::tV []) (vO z0) (0,cV [] (vO y) ())) (fun _=>0) (fun i=>if cmpL (w - 1) k (p' w al ah i) (p' w bl bh i)then 18446744073709551615 else 0)
  (fun y i hi xL=>by
   rw[NR,J0 hi,yL hw hi,qJ,(Et ha hw hi).1,(Et ha hw hi).2,(Et hb hw hi).1,(Et hb hw hi).2,(akD hw hk tZ tZ).1,(akD hw hk tZ tZ).2,JZ (N16 hw hi)]
   cases c:cmpL (w - 1) k (p' w al ah i) (p' w bl bh i)with
   |true=>
    have:=Hu hw hi xL
    simp only[c,if_true]at this
    exact⟨_,rfl,this⟩
   |false=>
    refine⟨y,rfl,xL.cg (fun j _=>?_) hw.c.2.1⟩
    by_cases h2:j<i
    ·have h3:j<i+1:=by omega
     simp only[if_pos h2,if_pos h3]
    ·by_cases h3:j<i+1
     ·obtain rfl:j=i:=by omega
      simp only[if_neg h2,if_pos h3,c];rfl
     ·simp only[if_neg h2,if_neg h3])
  (fun y=>by rw[NR,J1];rfl) (ab9 _)
 refine⟨y',_,?_,h3,fun i hi=>?_⟩
 ·rw[aky ya yb op _ hp.2.symm _ rfl _ rfl,hp.1]
  have k14: ¬ ((k:Int)<0):=by omega
  simp only[V.1,V.2,df k14]
  have e1:DT yJ r5 q6 (L4 (vO ya) (vO yb) Af Af 0 (w:Int) (k:Int) ((128 / w:Nat):Int) 0)=true:=h1
  have e2:lo1 yJ r5 q6 (L4 (vO ya) (vO yb) Af Af 0 (w:Int) (k:Int) ((128 / w:Nat):Int) 0)=_:=h2
  rw[e1,e2]
  rfl
 ·rw[if_pos hi]
  cases cmpL (w - 1) k (p' w al ah i) (p' w bl bh i)with
  |true=>rcases hw with rfl|rfl|rfl|rfl<;>decide
  |false=>rcases hw with rfl|rfl|rfl|rfl<;>decide
end Go.Proofs.Vq

noncomputable section
namespace Go.Proofs.Vq
open Go.Ab Go.Ab.Lf Go.Proofs.Sw
set_option maxRecDepth 100000
def J2(v:Nat->Int):Bool:=(decide (v 0=0)&&(decide (v 1=0)&&(decide (v 2=0)&&(decide (v 3=0)&&(decide (v 4=0)&&(decide (v 5=0)&&(decide (v 6=0)&&(decide (v 7=0)&&(decide (v 8=0)&&(decide (v 9=0)&&(decide (v 10=0)&&(decide (v 11=0)&&(decide (v 12=0)&&(decide (v 13=0)&&(decide (v 14=0)&&decide (v 15=0))))))))))))))))
theorem aaa{v:Nat->Int}:J2 v=true↔ ∀ m,m<16->v m=0:=by
 unfold J2
 simp only[Bool.and_eq_true,decide_eq_true_eq]
 constructor
 ·rintro⟨h0,h1,h2,h3,h4,h5,h6,h7,h8,h9,h10,h11,h12,h13,h14,h15⟩ m hm
  match m,hm with
  |0,_=>exact h0
  |1,_=>exact h1
  |2,_=>exact h2
  |3,_=>exact h3
  |4,_=>exact h4
  |5,_=>exact h5
  |6,_=>exact h6
  |7,_=>exact h7
  |8,_=>exact h8
  |9,_=>exact h9
  |10,_=>exact h10
  |11,_=>exact h11
  |12,_=>exact h12
  |13,_=>exact h13
  |14,_=>exact h14
  |15,_=>exact h15
  | _+16,h=>exact absurd h (by omega)
 ·intro h
  exact⟨h 0 (by decide),h 1 (by decide),h 2 (by decide),h 3 (by decide),h 4 (by decide),h 5 (by decide),h 6 (by decide),h 7 (by decide),h 8 (by decide),h 9 (by decide),h 10 (by decide),h 11 (by decide),h 12 (by decide),h 13 (by decide),h 14 (by decide),h 15 (by decide)⟩
theorem afo(ya:Vy):(t146 (64851,cV [] (vO ya) ())).val=bif !J2 (vO ya)then some (cp xd (1,0,()))else some (cp xd (0,0,())):=by kernel_rfl
def Tq(w at':Nat):Prop:=Wq w/\(at'=3∨at'=4)
def opT(w at':Nat):Int:=match w with|8=>64864+at'|16=>64896+at'|32=>64928+at'| _=>64960+at'
theorem akG(ya:Vy){w m:Nat}(hw:Wq w)(hm:m=3∨m=4)(x:cf qp)(hx:x=Ho (vO ya) 0 0 (opT w m - 64768) (w:Int) 0 1 (JS ((w:Int),())).1 0)(y:cf pA)(hy:y=lo1 yK qp pA x):
 (t146 (opT w m,cV [] (vO ya) ())).val=cA (JR ((w:Int),())) (cA (DT yK qp pA x) (bif decide (we .i64 y.2.2.1 32=3)then some (cp xd (y.2.2.2.2.1,0,()))else some (cp xd (y.2.2.2.1,0,())))):=by
 subst hy;subst hx
 rcases hw with rfl|rfl|rfl|rfl<;>rcases hm with rfl|rfl<;>kernel_rfl
def nU(g:Nat->Bool):Nat->Bool
 |0=>true
 |n+1=>nU g n&&g n
theorem U3(f:Nat->Nat)(hf: ∀ j,f j<2)(n:Nat):pk 1 n f<2 ^ n:=by
 have:=DD (w:=1) (n:=n) (f:=f) fun i _=>hf i
 rwa [Nat.one_mul]at this
theorem akH{k:Nat}(h:k<32):s5 k 32=k:=by unfold s5;rw[show Nat.ble k 32=true by simp;omega];rfl
theorem afp{a b:Nat}(ha:a<4294967296)(hb:b<4294967296):C3 .u32 (a:Int) (b:Int)=((a ||| b:Nat):Int):=by
 show intOf (bif Nat.blt a 4294967296&&Nat.blt b 4294967296 then some (.int .u32 (.ofNat (Nat.lor a b)))else _)=_
 rw[show(Nat.blt a 4294967296)=true by simpa using ha,show(Nat.blt b 4294967296)=true by simpa using hb];rfl
theorem as9{w m:Nat}(hw:Wq w)(hm:m=3∨m=4){ya:Vy}{al ah:Nat}(ha:By ya (uh al ah)):
 (t146 (opT w m,cV [] (vO ya) ())).val=some (cp xd (((if m=3 then JG (nU (fun j=> !decide (p' w al ah j=0)) (128 / w))else pk 1 (128 / w) (fun j=>if 2 ^ (w - 1)<=p' w al ah j then 1 else 0):Nat):Int),0,())):=by
 have V:=Hr hw
 have h16:128 / w<=16:=by rcases hw with rfl|rfl|rfl|rfl<;>decide
 generalize hN:128 / w=N at*
 generalize hf:(fun j=>if 2 ^ (w - 1)<=p' w al ah j then 1 else 0:Nat->Nat)=f
 generalize hg:(fun j=> !decide (p' w al ah j=0))=g
 have f2: ∀ j,f j<2:=fun j=>by rw[<-hf];show(if _ then 1 else 0:Nat)<2;split<;>decide
 generalize hK:opT w m - 64768=K
 have key: ∀ d i,i+d=N->uQ yK (cp qp (Ho (vO ya) 0 0 K (w:Int) ((pk 1 i f:Nat):Int) ((JG (nU g i):Nat):Int) (N:Int) (i:Int))) 0 (cp pA (0,0,K,((pk 1 N f:Nat):Int),((JG (nU g N):Nat):Int),())):=by
  intro d
  induction d with
  |zero=>
   intro i hi
   obtain rfl:i=N:=by omega
   refine .last (Hm (ti:=qp) (t0:=pA) (t1:=[]) (r:=.o0 (0,0,K,((pk 1 i f:Nat):Int),((JG (nU g i):Nat):Int),())) ?_)
   rw[NS,J1];rfl
  |succ d ih=>
   intro i hi
   have vk:i<N:=by omega
   have hiw:i<128 / w:=by rw[hN];exact vk
   refine .more (Hm (ti:=qp) (t0:=pA) (t1:=[]) (r:=.nx _) ?_) (ih (i+1) (by omega))
   rw[NS,J0 vk,yL hw hiw,(Et ha hw hiw).1,(Et ha hw hiw).2,NU ha hw hiw,JZ (by omega),dt (show(0:Int)<=(i:Int) by omega)]
   have hp:=U3 f f2 i
   have as':2 ^ i<4294967296:=Nat.pow_lt_pow_right (by decide) (by omega:i<32)
   have hs:pk 1 (i+1) f=pk 1 i f+2 ^ i*f i:=by rw[Hs,Nat.one_mul]
   have ha1:nU g (i+1)=(nU g i&&g i):=rfl
   have eA:(bif decide (((p' w al ah i:Nat):Int)=0)then(0:Int)else((JG (nU g i):Nat):Int))=((JG (nU g (i+1)):Nat):Int):=by
    have eg:g i= !decide (p' w al ah i=0):=by rw[<-hg]
    rw[ha1,eg]
    by_cases c:p' w al ah i=0
    ·rw[dt (show((p' w al ah i:Nat):Int)=0 by rw[c];rfl),dt c]
     cases nU _ i<;>rfl
    ·rw[df (show ¬ ((p' w al ah i:Nat):Int)=0 by omega),df c]
     cases nU _ i<;>rfl
   have eM: ∀ c:Bool,(c=decide (2 ^ (w - 1)<=p' w al ah i))->(bif c then C3 .u32 ((pk 1 i f:Nat):Int) (tP .u32 1 (i:Int))else((pk 1 i f:Nat):Int))=((pk 1 (i+1) f:Nat):Int):=by
    intro c hc
    have ef:f i=if 2 ^ (w - 1)<=p' w al ah i then 1 else 0:=by rw[<-hf]
    rw[hs,ef,hc]
    by_cases c:2 ^ (w - 1)<=p' w al ah i
    ·rw[dt c]
     simp only[if_pos c,Nat.mul_one]
     have e1:tP .u32 1 (i:Int)=((2 ^ i:Nat):Int):=by
      show na .u32 (Int.mul 1 (Int.ofNat (2 ^ s5 i 32)))=_
      rw[akH (by omega)]
      show((1:Int)*((2 ^ i:Nat):Int)) % 4294967296=_
      rw[Int.one_mul];exact Int.emod_eq_of_lt (Int.natCast_nonneg _) (by omega)
     have e2:pk 1 i f ||| 2 ^ i=pk 1 i f+2 ^ i:=by
      have:=FN (w:=1) (n:=i) (y:=1) (x:=pk 1 i f) (by rw[Nat.one_mul];exact hp)
      rwa [Nat.one_mul,Nat.mul_one]at this
     rw[e1]
     show C3 .u32 ((pk 1 i f:Nat):Int) ((2 ^ i:Nat):Int)=_
     rw[<-e2]
     exact afp (by omega) (by omega)
    ·rw[df c]
     simp only[if_neg c,Nat.mul_zero,Nat.add_zero];rfl
   have acP:decide (sw (w - 1) (p' w al ah i)<0)=decide (2 ^ (w - 1)<=p' w al ah i):=by
    obtain⟨P,h1,h2,h3,h4⟩:=hw.P
    have hl:p' w al ah i<2 ^ w:=tZ
    refine decide_eq_decide.2 ?_
    unfold sw
    rw[h1,h2];rw[h3]at hl
    clear h1 h2 h3 h4 hs as' hp ih
    split<;>omega
   have eM':=eM _ acP
   rw[<-eA,<-eM']
   cases decide (sw (w - 1) (p' w al ah i)<0)<;>cases decide (((p' w al ah i:Nat):Int)=0)<;>rfl
 obtain⟨h1,h2⟩:=Fj (key N 0 (by omega))
 have e1:DT yK qp pA (Ho (vO ya) 0 0 K (w:Int) 0 1 (N:Int) 0)=true:=h1
 have e2:lo1 yK qp pA (Ho (vO ya) 0 0 K (w:Int) 0 1 (N:Int) 0)=_:=h2
 rw[akG ya hw hm _ rfl _ rfl,V.1,V.2,hK,e1,e2,<-hK]
 rcases hw with rfl|rfl|rfl|rfl<;>rcases hm with rfl|rfl<;>rfl
theorem aab{lo hi:Nat}(hl:lo<cN)(hh:hi<cN):(∀ m,m<16->uh lo hi m=0)↔(lo=0/\hi=0):=by
 constructor
 ·intro h
  constructor
  ·rw[FA (w:=8) 8 lo hl,<-Ck (w:=8) 8]
   exact cB fun i vk=>by
    have:=h i (by omega)
    unfold uh at this
    rwa [if_pos vk]at this
  ·rw[FA (w:=8) 8 hi hh,<-Ck (w:=8) 8]
   exact cB fun i vk=>by
    have:=h (8+i) (by omega)
    unfold uh at this
    rw[if_neg (by omega),Nat.add_sub_cancel_left]at this
    exact this
 ·rintro⟨rfl,rfl⟩ m _
  unfold uh ln
  split<;>simp
theorem akI{ya:Vy}{al ah:Nat}(ha:By ya (uh al ah))(hl:al<cN)(hh:ah<cN):(t146 (64851,cV [] (vO ya) ())).val=some (cp xd ((((if al=0/\ah=0 then 0 else 1):Nat):Int),0,())):=by
 rw[afo]
 have e:J2 (vO ya)=true↔(al=0/\ah=0):=by
  rw[aaa,<-aab hl hh]
  exact⟨fun h m hm=>by have:=h m hm;rw[ha.e m hm]at this;omega,fun h m hm=>by rw[ha.e m hm,h m hm];rfl⟩
 by_cases c:al=0/\ah=0
 ·rw[if_pos c,e.2 c];rfl
 ·rw[if_neg c]
  cases h:J2 (vO ya)with
  |true=>exact absurd (e.1 h) c
  |false=>rfl
end Go.Proofs.Vq

noncomputable section
namespace Go.Proofs.Vq
open Go.Ab Go.Ab.Lf Go.Proofs.Sw
set_option maxRecDepth 100000
abbrev L6:List Ty:=[i64,i64,i64,u64,u64,.cq i64,.cq u64]
abbrev pY:List Ty:=[.cq u64,i64]
end Go.Proofs.Vq

noncomputable section
namespace Go.Proofs.Vq
open Go.Ab Go.Ab.Lf Go.Proofs.Sw
set_option maxRecDepth 100000
abbrev nL(a b:Int):Nat->Int:=fun m=>bif Nat.blt m 8 then cb .u8 (px .u64 a (Int.ofNat (8*m)))else cb .u8 (px .u64 b (Int.ofNat (8*(m - 8))))
abbrev PX(y:cf (tV [i64])):Vy:=(y.1,y.2.1,y.2.2.1,y.2.2.2.1,y.2.2.2.2.1,y.2.2.2.2.2.1,y.2.2.2.2.2.2.1,y.2.2.2.2.2.2.2.1,y.2.2.2.2.2.2.2.2.1,y.2.2.2.2.2.2.2.2.2.1,y.2.2.2.2.2.2.2.2.2.2.1,y.2.2.2.2.2.2.2.2.2.2.2.1,y.2.2.2.2.2.2.2.2.2.2.2.2.1,y.2.2.2.2.2.2.2.2.2.2.2.2.2.1,y.2.2.2.2.2.2.2.2.2.2.2.2.2.2.1,y.2.2.2.2.2.2.2.2.2.2.2.2.2.2.2.1,())
abbrev Hv(y:cf (tV [i64])):Int:=y.2.2.2.2.2.2.2.2.2.2.2.2.2.2.2.2.1
abbrev Km(v:Nat->Int):Option (List Pl):=some (cp pY ([qI v 0 8,qI v 8 8],0,()))
abbrev xH:Option (List Pl):=some (cp pY ([],1,()))
end Go.Proofs.Vq

noncomputable section
namespace Go.Proofs.Vq
open Go.Ab Go.Ab.Lf
set_option maxRecDepth 100000
abbrev pD:Ty:=.pair i64 (.pair i64 (.pair i64 (.pair i64 .str)))
abbrev yM:List Ty:=[i64,i64,.bool,.cq i64,.cq i64]
def akJ:List (den pD):=(nA [.cq pD] (q9 .nil [] (Ps [.im pD]) (fun _=>none) Tryz.ad' 3 (qh [] 3) [])).1
def afq:List (den pD):=(nA [.cq pD] (q9 .nil [] (Ps [.im pD]) (fun _=>none) Tryz.aea 3 (qh [] 3) [])).1
def sg0:ByteArray:=⟨#[58,118]⟩
def sg1:ByteArray:=⟨#[105,58,118]⟩
def sg2:ByteArray:=⟨#[105,118,58]⟩
def sg3:ByteArray:=⟨#[105,118,58,118]⟩
def sg4:ByteArray:=⟨#[108,58,118]⟩
def sg5:ByteArray:=⟨#[118,58,105]⟩
def sg6:ByteArray:=⟨#[118,58,108]⟩
def sg7:ByteArray:=⟨#[118,58,118]⟩
def sg8:ByteArray:=⟨#[118,105,58,118]⟩
def sg9:ByteArray:=⟨#[118,108,58,118]⟩
def vh:ByteArray:=⟨#[118,118,58,118]⟩
def ata:ByteArray:=⟨#[118,118,118,58,118]⟩
def DN:List (den pD):=[(64768,64768,7,4,sg1),(64769,64774,7,3,sg1),(64775,64775,7,0,sg1),(64776,64776,7,1,sg1),(64777,64777,7,2,sg1),(64778,64778,7,3,sg1),(64779,64779,7,4,sg2),(64780,64780,11,0,sg0),(64781,64781,12,0,vh),(64782,64782,1,0,vh),(64783,64785,1,0,sg1),(64786,64786,1,0,sg4),(64789,64790,13,16,sg5),(64791,64791,13,16,sg8),(64792,64793,13,8,sg5),(64794,64794,13,8,sg8),(64795,64795,13,4,sg5),(64796,64796,13,4,sg8),(64797,64797,13,2,sg6),(64798,64798,13,2,sg9),(64803,64832,1,0,vh),(64845,64845,1,0,sg7),(64846,64849,1,0,vh),(64850,64850,1,0,ata),(64851,64851,1,0,sg5),(64852,64852,8,0,sg3),(64853,64853,8,1,sg3),(64854,64854,8,2,sg3),(64855,64855,8,3,sg3),(64856,64856,8,0,sg2),(64857,64857,8,1,sg2),(64858,64858,8,2,sg2),(64859,64859,8,3,sg2),(64860,64860,7,2,sg1),(64861,64861,7,3,sg1),(64864,64866,1,0,sg7),(64867,64868,1,0,sg5),(64869,64870,1,0,vh),(64875,64877,1,0,sg8),(64878,64883,1,0,vh),(64886,64889,1,0,vh),(64891,64891,1,0,vh),(64892,64897,1,0,sg7),(64898,64898,1,0,vh),(64899,64900,1,0,sg5),(64901,64902,1,0,vh),(64903,64906,1,0,sg7),(64907,64909,1,0,sg8),(64910,64915,1,0,vh),(64917,64921,1,0,vh),(64923,64927,1,0,vh),(64928,64929,1,0,sg7),(64931,64932,1,0,sg5),(64935,64938,1,0,sg7),(64939,64941,1,0,sg8),(64942,64942,1,0,vh),(64945,64945,1,0,vh),(64949,64954,1,0,vh),(64956,64959,1,0,vh),(64960,64961,1,0,sg7),(64963,64964,1,0,sg5),(64967,64970,1,0,sg7),(64971,64973,1,0,sg8),(64974,64974,1,0,vh),(64977,64977,1,0,vh),(64981,64991,1,0,vh)]
theorem aad:afq=DN:=by kernel_rfl
def akL:nK:=pL .nil [] (Ps [.im pD]) [] [.cq pD] fun _=>.ok (akJ,())
def akM:nK:=pL .nil [] (Ps [.im pD]) [] [.cq pD] fun _=>.ok (afq,())
theorem aae{cr:cu}(W:WQ cr):akL.Ok 144 cr:=by
 refine tU (W.in .nil 3) (W.st 144 _ rfl) rfl (cF _) (m:=3) rfl ?_
 rintro⟨⟩ q h
 cases h
 exact Ds (to:=[.cq pD]) (x:=q9 .nil [] (Ps [.im pD]) (fun _=>none) Tryz.ad' 3 (qh [] 3) []) (by kernel_rfl)
theorem aaf{cr:cu}(W:WQ cr):akM.Ok 145 cr:=by
 refine tU (W.in .nil 3) (W.st 145 _ rfl) rfl (cF _) (m:=3) rfl ?_
 rintro⟨⟩ q h
 cases h
 exact Ds (to:=[.cq pD]) (x:=q9 .nil [] (Ps [.im pD]) (fun _=>none) Tryz.aea 3 (qh [] 3) []) (by kernel_rfl)
abbrev pB:rI:=.pt 0 (Ps [.n .i64,.n .i64,.bo,.im i64,.im i64])
abbrev pC:rI:=.pt 0 (Ps [.n .i64,.n .i64,.bo,.ow i64,.ow i64])
abbrev xe:List Ty:=[i64,i64,.bool,.cq i64,.cq i64,i64,i64,.bool,.cq i64,.cq i64,.bool,.cq u8,i64,i64]
def J3:Am:=⟨2,xN Tryz.x88.code 2,[2,7,8,42,43,44],Ps [pB,pC,.bo,.im u8,.n .i64,.n .i64],[⟨.Ef,[2,7],Ps [pB,pC]⟩]⟩
def NY(s:Bool×List Int×List Int)(c:Int):Bool×List Int×List Int:=
 if c=58 then(true,s.2)else(if s.1 then(s.1,s.2.1,s.2.2++[if c=108 then 126 else if c=118 then 123 else 127])else(s.1,s.2.1++[if c=108 then 126 else if c=118 then 123 else 127],s.2.2))
def PY(s:List Int):List Int×List Int:=(s.foldl NY (false,[],[])).2
theorem FO(f l:Int)(p:Bool)(a b:List Int)(f2 l2:Int)(p2:Bool)(a2 b2:List Int)(o:Bool)(s:List Int)(n i:Int):J3.step (fun _=>none) (qh [] 3) 3 (cp xe (f,l,p,a,b,f2,l2,p2,a2,b2,o,s,n,i,()))=
 .br (decide (i<n)) (.ck (nh i (Int.ofNat s.length)) (let x:=s.getD i.toNat (cE u8)
  let nx:=fun(t:Int)=>T.br o (.ck (roomy 8 (b2.length+1)) (.ok (Rs.next (cp xe (f,l,p,a,b,f2,l2,p2,a2,app b2 [t],o,s,n,nz .i64 i 1,())))))
   (.ck (roomy 8 (a2.length+1)) (.ok (Rs.next (cp xe (f,l,p,a,b,f2,l2,p2,app a2 [t],b2,o,s,n,nz .i64 i 1,())))))
  .br (decide (x=58)) (.ok (Rs.next (cp xe (f,l,p,a,b,f2,l2,p2,a2,b2,true,s,n,nz .i64 i 1,())))) (.br (decide (x=108)) (nx 126) (.br (decide (x=118)) (nx 123) (nx 127)))))
  (.ok (.out 0 (cp [i64,i64,.bool,.cq i64,.cq i64,i64,i64,.bool,.cq i64,.cq i64] (f,l,p,a,b,f2,l2,p2,a2,b2,())))):=by kernel_rfl
theorem U4(f l:Int)(p:Bool)(a b:List Int)(f2 l2:Int)(p2:Bool)(s:List Int)(hs:s.length<=1000):
 uQ (J3.step (fun _=>none) (qh [] 3) 3) (cp xe (f,l,p,a,b,f2,l2,p2,[],[],false,s,(s.length:Int),0,())) 0 (cp [i64,i64,.bool,.cq i64,.cq i64,i64,i64,.bool,.cq i64,.cq i64] (f,l,p,a,b,f2,l2,p2,(PY s).1,(PY s).2,())):=by
 have:=rng (f:=J3.step (fun _=>none) (qh [] 3) 3) (l:=s) (fun(q:Bool×List Int×List Int) j=>cp xe (f,l,p,a,b,f2,l2,p2,q.2.1,q.2.2,q.1,s,(s.length:Int),(j:Int),())) (fun q x=>.inl (NY q x)) (fun q=>(0,cp [i64,i64,.bool,.cq i64,.cq i64,i64,i64,.bool,.cq i64,.cq i64] (f,l,p,a,b,f2,l2,p2,q.2.1,q.2.2,())))
  (fun q r=>(q.2.1.length+r.length<=2000/\q.2.2.length+r.length<=2000)) (fun q j x r h hi=>by
  obtain⟨o,a2,b2⟩:=q
  obtain⟨h1,h2⟩:=zR h (cE u8)
  simp only[List.length_cons]at hi
  have hj:j<4611686018427387904:=by omega
  have r1:roomy 8 (a2.length+1)=true:=vc (by omega) (by omega)
  have r2:roomy 8 (b2.length+1)=true:=vc (by omega) (by omega)
  refine⟨?_,fun s' e=>?_⟩
  ·rw[FO,Lf.T.wK,uI h1,cond_true,Lf.T.GB,qg h1,cond_true,Int.toNat_natCast,h2,aej hj]
   unfold NY
   simp only[Lf.T.wK,Lf.T.GB,Lf.T.adu,r1,r2,nD,cond_true]
   by_cases x1:x=58
   ·simp[x1,Tn]
   ·by_cases x2:x=108
    ·cases o<;>simp[x2,Tn]
    ·by_cases x3:x=118
     ·cases o<;>simp[x3,Tn]
     ·cases o<;>simp[x1,x2,x3,Tn]
  ·cases e
   unfold NY
   split
   ·simp only;omega
   ·split<;>simp<;>omega) (fun q j h hj hi=>by
  have:j=s.length:=by have:=List.drop_eq_nil_iff.1 h;omega
  subst this
  rw[FO,Lf.T.wK,rV (Nat.le_refl _)]
  rfl) s 0 (false,[],[]) rfl (by omega) (by simp;omega)
 rw[Pt]at this
 exact this
def afs:cf xe->T (Nat×List Pl):=fun x=>.ck (((decide (x.2.2.2.2.2.2.2.2.1.length=0)&&decide (x.2.2.2.2.2.2.2.2.2.1.length=0))&& !x.2.2.2.2.2.2.2.2.2.2.1)&&((decide (x.2.2.2.2.2.2.2.2.2.2.2.2.1=(x.2.2.2.2.2.2.2.2.2.2.2.1.length:Int))&&decide (x.2.2.2.2.2.2.2.2.2.2.2.2.2.1=0))&&decide (x.2.2.2.2.2.2.2.2.2.2.2.1.length<=1000)))
 (.ok (0,cp [i64,i64,.bool,.cq i64,.cq i64,i64,i64,.bool,.cq i64,.cq i64] (x.1,x.2.1,x.2.2.1,x.2.2.2.1,x.2.2.2.2.1,x.2.2.2.2.2.1,x.2.2.2.2.2.2.1,x.2.2.2.2.2.2.2.1,(PY x.2.2.2.2.2.2.2.2.2.2.2.1).1,(PY x.2.2.2.2.2.2.2.2.2.2.2.1).2,())))
theorem aag(x:cf xe)(k:Nat)(q:List Pl)(h:(afs x).val=some (k,q)):uQ (J3.step (fun _=>none) (qh [] 3) 3) (cp xe x) k q:=by
 obtain⟨f,l,p,a,b,f2,l2,p2,a2,b2,o,s,n,i,⟨⟩⟩:=x
 obtain⟨h1,h2⟩:=Lf.T.cG h
 cases h2
 simp only[Bool.and_eq_true,decide_eq_true_eq,Bool.not_eq_true']at h1
 obtain⟨⟨⟨b1,b2'⟩,b3⟩,⟨b4,b5⟩,b6⟩:=h1
 have b1:=List.eq_nil_of_length_eq_zero b1
 have b2':=List.eq_nil_of_length_eq_zero b2'
 subst b1;subst b2';subst b3;subst b4;subst b5
 exact U4 f l p a b f2 l2 p2 s b6
abbrev Eu:List Ty:=[i64,i64,i64,.bool,.cq i64,.cq i64,.bool,.cq pD,i64,i64]
def l88:Am:=⟨0,xN Tryz.x88.code 0,[0,2,3,16,17,18],Ps [.n .i64,pB,.bo,.im pD,.n .i64,.n .i64],[⟨.Ef,[2],Ps [pB]⟩,⟨.rt,[2,3],Ps [pC,.bo]⟩]⟩
def mBy(r:den pD):List Int:=r.2.2.2.2.data.toList.map fun b=>Int.ofNat b.toNat
def PZ(r:den pD):cf yM:=(r.2.2.1,r.2.2.2.1,!(eqStr r.2.2.2.2 ⟨#[]⟩),(PY (mBy r)).1,(PY (mBy r)).2,())
def aft(op:Int)(_:Unit)(r:den pD)(_:List (den pD)):Unit ⊕ Option (cf yM):=bif (bif decide (op<r.1)then true else decide (r.2.1<op))then .inl ()else .inr (some (PZ r))
def uN(op:Int)(rs:List (den pD)):Option (cf yM):=zQ (aft op) (fun _=>none) rs ()
def L88:Nat->Option qV:=Je [(2,mkL J3 xe afs)]
theorem J4(op f l:Int)(p:Bool)(a b:List Int)(ok:Bool)(rs:List (den pD))(n i:Int):(l88.step L88 (qh [] 3) 3 (cp Eu (op,f,l,p,a,b,ok,rs,n,i,()))).val=
 bif decide (i<n)then(bif nh i (Int.ofNat rs.length)then(bif (bif decide (op<(rs.getD i.toNat (cE pD)).1)then true else decide ((rs.getD i.toNat (cE pD)).2.1<op))then some (Rs.next (cp Eu (op,f,l,p,a,b,ok,rs,n,nz .i64 i 1,())))
  else(bif ((true&&true)&&true)&&((decide (((mBy (rs.getD i.toNat (cE pD))).length:Int)=((mBy (rs.getD i.toNat (cE pD))).length:Int))&&true)&&decide ((mBy (rs.getD i.toNat (cE pD))).length<=1000))then some (Rs.out 1 (cp [i64,i64,.bool,.cq i64,.cq i64,.bool] ((PZ (rs.getD i.toNat (cE pD))).1,(PZ (rs.getD i.toNat (cE pD))).2.1,(PZ (rs.getD i.toNat (cE pD))).2.2.1,(PZ (rs.getD i.toNat (cE pD))).2.2.2.1,(PZ (rs.getD i.toNat (cE pD))).2.2.2.2.1,true,())))else none))else none)else some (.out 0 (cp yM (f,l,p,a,b,()))):=by kernel_rfl
def vL(rs:List (den pD)):Bool:=Go.Ab.nU (fun r=>decide ((mBy r).length<=1000)) rs
theorem J5{r:den pD}{rs:List (den pD)}(h:vL (r::rs)=true):(mBy r).length<=1000/\vL rs=true:=by
 have h:(bif decide ((mBy r).length<=1000)then vL rs else false)=true:=h
 by_cases q:(mBy r).length<=1000
 ·rw[decide_eq_true q]at h;exact⟨q,h⟩
 ·rw[decide_eq_false q]at h;cases h
theorem aaj(op f l:Int)(p:Bool)(a b:List Int)(ok:Bool)(rs:List (den pD))(hl:rs.length<=1000)(hs:vL rs=true):
 uQ (l88.step L88 (qh [] 3) 3) (cp Eu (op,f,l,p,a,b,ok,rs,(rs.length:Int),0,())) (match uN op rs with|none=>0|some _=>1) (match uN op rs with|none=>cp yM (f,l,p,a,b,())|some y=>cp [i64,i64,.bool,.cq i64,.cq i64,.bool] (y.1,y.2.1,y.2.2.1,y.2.2.2.1,y.2.2.2.2.1,true,())):=by
 have:=aix (f:=l88.step L88 (qh [] 3) 3) (l:=rs) (fun(_:Unit) j=>cp Eu (op,f,l,p,a,b,ok,rs,(rs.length:Int),(j:Int),())) (aft op) (fun _=>(none:Option (cf yM)))
  (fun o=>(match o with|none=>0|some _=>1,match o with|none=>cp yM (f,l,p,a,b,())|some y=>cp [i64,i64,.bool,.cq i64,.cq i64,.bool] (y.1,y.2.1,y.2.2.1,y.2.2.2.1,y.2.2.2.2.1,true,()))) (fun _ r=>vL r=true) (fun q j x r h hi=>by
  obtain⟨h1,h2⟩:=zR h (cE pD)
  have hj:j<4611686018427387904:=by omega
  obtain⟨k1,k2⟩:=J5 hi
  refine⟨?_,fun _ _=>k2⟩
  rw[J4,uI h1,cond_true,qg h1,cond_true,Int.toNat_natCast,h2,aej hj]
  unfold aft
  cases hc:(bif decide (op<x.1)then true else decide (x.2.1<op))with
  |true=>simp only[cond_true,rsR]
  |false=>simp only[cond_false,rsR,decide_eq_true k1,decide_true,Bool.and_self,cond_true]) (fun q j h hj hi=>by
  have:j=rs.length:=by have:=List.drop_eq_nil_iff.1 h;omega
  subst this
  rw[J4,rV (Nat.le_refl _)]
  rfl) rs 0 () rfl (by omega) hs
 exact this
def g88:cf Eu->T (Nat×List Pl):=fun x=>.ck ((decide (x.2.2.2.2.2.2.2.2.1=(x.2.2.2.2.2.2.2.1.length:Int))&&decide (x.2.2.2.2.2.2.2.2.2.1=0))&&(decide (x.2.2.2.2.2.2.2.1.length<=1000)&&vL x.2.2.2.2.2.2.2.1))
 (.br (uN x.1 x.2.2.2.2.2.2.2.1).isNone (.ok (0,cp yM (x.2.1,x.2.2.1,x.2.2.2.1,x.2.2.2.2.1,x.2.2.2.2.2.1,()))) (let y:=(uN x.1 x.2.2.2.2.2.2.2.1).getD (wS yM); .ok (1,cp [i64,i64,.bool,.cq i64,.cq i64,.bool] (y.1,y.2.1,y.2.2.1,y.2.2.2.1,y.2.2.2.2.1,true,()))))
theorem afu(x:cf Eu)(k:Nat)(q:List Pl)(h:(g88 x).val=some (k,q)):uQ (l88.step L88 (qh [] 3) 3) (cp Eu x) k q:=by
 obtain⟨op,f,l,p,a,b,ok,rs,n,i,⟨⟩⟩:=x
 obtain⟨h1,h2⟩:=Lf.T.cG h
 simp only[Bool.and_eq_true,decide_eq_true_eq]at h1
 obtain⟨⟨b1,b2⟩,b3,b4⟩:=h1
 subst b1;subst b2
 have:=aaj op f l p a b ok rs b3 b4
 rw[Lf.T.wK]at h2
 cases hm:uN op rs with
 |none=>rw[hm]at h2 this;cases h2;exact this
 |some y=>rw[hm]at h2 this;cases h2;exact this
def oV(op:Int):Option (cf yM):=uN op DN
def akO:List (Nat×nK):=[(144,akL),(145,akM)]
theorem aak{cr:cu}(W:WQ cr):n9 cr akO:=.cons (aae W) (.cons (aaf W) .nil)
abbrev P0:List Ty:=[i64]
abbrev xf:List Ty:=[i64,i64,.bool,.cq i64,.cq i64,.bool]
def Ks(op:Int):cf xf:=match oV op with
 |some y=>(y.1,y.2.1,y.2.2.1,y.2.2.2.1,y.2.2.2.2.1,true,())
 |none=>(0,0,false,[],[],false,())
def afv:nK:=pL (Ps [.n .i64]) [] (Ps [.tu (Ps [.ag (Ps [.n .i64,.n .i64,.bo,.ow i64,.ow i64]),.bo])]) P0 xf fun x=>.ck (decide (64768<=x.1)) (.ok (Ks x.1))
theorem U5:(vL DN&&Nat.ble DN.length 1000)=true:=by kernel_rfl
abbrev o88:List Ty:=[i64,i64,.bool,.cq i64,.cq i64,.bool]
def r88(op:Int)(rs:List (den pD)):Option (List Pl):=bif (decide ((rs.length:Int)=(rs.length:Int))&&decide ((0:Int)=0))&&(decide (rs.length<=1000)&&vL rs)then
 (bif (uN op rs).isNone then some (cp o88 (0,0,false,[],[],false,()))else some (cp o88 (((uN op rs).getD (wS yM)).1,((uN op rs).getD (wS yM)).2.1,((uN op rs).getD (wS yM)).2.2.1,((uN op rs).getD (wS yM)).2.2.2.1,((uN op rs).getD (wS yM)).2.2.2.2.1,true,())))else none
theorem afw(op:Int)(rs:List (den pD))(h1:rs.length<=1000)(h2:vL rs=true):r88 op rs=some (cp o88 (((uN op rs).getD (0,0,false,[],[],())).1,((uN op rs).getD (0,0,false,[],[],())).2.1,((uN op rs).getD (0,0,false,[],[],())).2.2.1,((uN op rs).getD (0,0,false,[],[],())).2.2.2.1,((uN op rs).getD (0,0,false,[],[],())).2.2.2.2.1,(uN op rs).isSome,())):=by
 unfold r88
 rw[decide_eq_true h1,h2]
 cases uN op rs with
 |none=>simp
 |some y=>simp
theorem Hw{cr:cu}(W:WQ cr):afv.Ok 88 cr:=by
 have C:=W.in (aak W) 3
 have C0:=W.in .nil 3
 have hi:rQ Rx.w (mkL J3 xe afs) (fun n d=>sF (cr n d) n (.bl 2 (.lp J3.body))):=GP C0 (cF _) (m:=3) aag
 have ho:rQ Rx.w (mkL l88 Eu g88) (fun n d=>sF (cr n d) n (.bl 0 (.lp l88.body))):=GP C0 (L:=L88) (vD.xx (.cons (b:=J3.body) (by kernel_rfl) hi .nil)) (m:=3) afu
 refine tU C (W.st 88 _ rfl) rfl (L:=Je [(0,mkL l88 Eu g88)]) (vD.xx (.cons (b:=l88.body) (by kernel_rfl) ho .nil)) (m:=3) rfl ?_
 rintro⟨op,⟨⟩⟩ q h
 obtain⟨hv,h⟩:=Lf.T.cG h
 cases h
 have e:(q9 (Ps [.n .i64]) [] (Ps [.tu (Ps [.ag (Ps [.n .i64,.n .i64,.bo,.ow i64,.ow i64]),.bo])]) (Je [(0,mkL l88 Eu g88)]) Tryz.x88 3 (qh akO 3) (cp [i64] (op,()))).val=
  bif decide (64768<=op)then r88 op afq else r88 op akJ:=by kernel_rfl
 have hs:=U5
 rw[Bool.and_eq_true]at hs
 have hv:decide (64768<=op)=true:=hv
 rw[e,hv,cond_true,aad,afw op DN (Nat.le_of_ble_eq_true hs.2) hs.1]
 show _=some (cp xf (match uN op DN with
  |some y=>(y.1,y.2.1,y.2.2.1,y.2.2.2.1,y.2.2.2.2.1,true,())
  |none=>(0,0,false,[],[],false,())))
 cases uN op DN<;>rfl
end Go.Proofs.Vq

noncomputable section
namespace Go.Proofs.Vq
open Go.Ab Go.Ab.Lf Go.Proofs.Sw
set_option maxRecDepth 100000
theorem tl{P:rI}{ptr:List Nat}{Q:rI}{ti to:List Ty}{g g':cf ti->Lf.T (cf to)}{k:Nat}{cr:cu}(h:(pL P ptr Q ti to g).Ok k cr)(e: ∀ x y,(g' x).val=some y->(g x).val=some y):(pL P ptr Q ti to g').Ok k cr:=by
 intro pl q args H0 E0 h0 az hf hP hv hS
 obtain⟨x,y,hx,h1,h2⟩:=Hf hf
 subst hx;subst h2
 refine h (cp ti x) (cp to y) args H0 E0 h0 az ?_ hP hv hS
 show(match toT ti (cp ti x)with|some x=>(g x).map (cp to)|none=>.bad:Lf.T (List Pl)).val=some (cp to y)
 rw[tW]
 show((g x).map (cp to)).val=_
 show(((g x).bd fun a=>.ok (cp to a)):Lf.T (List Pl)).val=_
 rw[Lf.T.Lc,e x y h1]
 rfl
def t88(x:cf P0):Lf.T (List Pl):=.ck (decide (64768<=x.1)) (.ok (cp xf (Ks x.1)))
def NZ(x:cf P0):Bool:=cO (oy xf (t88 x))
def Qg(x:cf P0):cf xf:=cO (nA xf (t88 x))
def s88:nK:=pL (Ps [.n .i64]) [] (Ps [.tu (Ps [.ag (Ps [.n .i64,.n .i64,.bo,.ow i64,.ow i64]),.bo])]) P0 xf fun x=>.ck (NZ x) (.ok (Qg x))
theorem afx{cr:cu}(W:WQ cr):s88.Ok 88 cr:=by
 refine tl (Hw W) fun x y h=>?_
 obtain⟨hk,h⟩:=Lf.T.cG h
 cases h
 have e1:NZ x=oy xf (t88 x):=ca _
 have e2:Qg x=nA xf (t88 x):=ca _
 rw[e1]at hk
 rw[e2]
 revert hk
 show oy xf (.ck (decide (64768<=x.1)) (.ok (cp xf (Ks x.1))))=true->(Lf.T.ck (decide (64768<=x.1)) (.ok (Ks x.1))).val=some (nA xf (.ck (decide (64768<=x.1)) (.ok (cp xf (Ks x.1)))))
 cases decide (64768<=x.1)with
 |true=>exact fun _=>rfl
 |false=>exact fun h=>by cases h
abbrev tVc:Ty:=.pair u8 (.pair u8 (.pair u8 (.pair u8 (.pair u8 (.pair u8 (.pair u8 (.pair u8 (.pair u8 (.pair u8 (.pair u8 (.pair u8 (.pair u8 (.pair u8 (.pair u8 u8))))))))))))))
abbrev U6:List Ty:=[i64,.cq tVc]
abbrev ace:List Ty:=tV [i64]
def t153(x:cf U6):Lf.T (List Pl):=q9 (Ps [.n .i64,.im tVc]) [] (Ps [.tu (Ps [pV,.n .i64])]) (fun _=>none) Tryz.aif 0 (qh [] 0) (cp U6 x)
end Go.Proofs.Vq

noncomputable section
namespace Go.Proofs.Vq
open Go.Ab Go.Ab.Lf Go.Proofs.Sw
set_option maxRecDepth 100000
def Qh(I O:List Int)(op:Int):Bool:=decide ((Qg (op,())).1=1)&&(decide ((Qg (op,())).2.2.2.1=I)&&(decide ((Qg (op,())).2.2.2.2.1=O)&&(Qg (op,())).2.2.2.2.2.1))
def afy(I O:List Int):nK:=pL (Ps [.n .i64]) [] (Ps [.tu (Ps [.ag (Ps [.n .i64,.n .i64,.bo,.ow i64,.ow i64]),.bo])]) P0 xf fun x=>.ck (NZ x) (.ck (Qh I O x.1) (.ok (1,(Qg x).2.1,(Qg x).2.2.1,I,O,true,())))
theorem N2{cr:cu}(W:WQ cr)(I O:List Int):(afy I O).Ok 88 cr:=by
 refine tl (afx W) fun x y h=>?_
 obtain⟨op,⟨⟩⟩:=x
 obtain⟨hk,h⟩:=Lf.T.cG h
 obtain⟨h1,h⟩:=Lf.T.cG h
 cases h
 unfold Qh at h1
 simp only[Bool.and_eq_true,decide_eq_true_eq]at h1
 show(Lf.T.ck (NZ (op,())) (.ok (Qg (op,())))).val=_
 rw[hk]
 show some (Qg (op,()))=_
 congr 1
 generalize Qg (op,())=z at*
 obtain⟨a,b,c,d,e,f,⟨⟩⟩:=z
 obtain⟨q1,q2,q3,q4⟩:=h1
 simp only at q1 q2 q3 q4
 subst q1;subst q2;subst q3;subst q4
 rfl
def N3:List Int:=[64803,64804,64805,64806,64807,64808,64809,64810,64811,64812,64813,64814,64815,64816,64817,64818,64819,64820,64821,64822,64823,64824,64825,64826,64827,64828,64829,64830,64831,64832,64851,64864,64865,64866,64867,64868,64875,64876,64877,64878,64879,64880,64881,64882,64883,64886,64887,64888,64889,64891,64896,64897,64899,64900,64907,64908,64909,64910,64911,64912,64913,64914,64915,64917,64918,64919,64920,64921,64923,64928,64929,64931,64932,64939,64940,64941,64942,64945,64949,64950,64951,64952,64953,64960,64961,64963,64964,64971,64972,64973,64974,64977,64981,64982,64983,64984,64985,64986,64987]
def acf:nK:=pL (Ps [.n .i64,.im tVc]) [] (Ps [.tu (Ps [pV,.n .i64])]) U6 ace fun x=>.ck (N3.contains x.1) (.ok (cV [i64] Af (1,())))
theorem afz: ∀ op,op∈N3-> ∀ vs,(t153 (op,vs,())).val=some (cp ace (cV [i64] Af (1,()))):=by
 unfold N3
 simp only[List.forall_mem_cons]
 refine⟨?_,?_,?_,?_,?_,?_,?_,?_,?_,?_,?_,?_,?_,?_,?_,?_,?_,?_,?_,?_,?_,?_,?_,?_,?_,?_,?_,?_,?_,?_,?_,?_,?_,?_,?_,?_,?_,?_,?_,?_,?_,?_,?_,?_,?_,?_,?_,?_,?_,?_,?_,?_,?_,?_,?_,?_,?_,?_,?_,?_,?_,?_,?_,?_,?_,?_,?_,?_,?_,?_,?_,?_,?_,?_,?_,?_,?_,?_,?_,?_,?_,?_,?_,?_,?_,?_,?_,?_,?_,?_,?_,?_,?_,?_,?_,?_,?_,?_,?_,?_⟩
 all_goals first|(intro vs;kernel_rfl)|(intro op h;cases h)
theorem U7{cr:cu}(W:WQ cr):acf.Ok 153 cr:=by
 refine tU (W.in .nil 0) (W.st 153 _ rfl) rfl (cF _) (m:=0) rfl ?_
 rintro⟨op,vs,⟨⟩⟩ y h
 obtain⟨h1,h⟩:=Lf.T.cG h
 cases h
 exact afz op (List.contains_iff_mem.1 h1) vs
def acg(e:Int):nK:=pL (Ps [.n .i64,.ag pU]) [] (Ps [.tu (Ps [.ag pU,.n .i64])]) FK Bo fun x=>.ck (L2 x) (.ck (decide (Hv (Ep x)=e)) (.ok (cV [i64] (vO (PX (Ep x))) (e,()))))
theorem U8{cr:cu}(W:WQ cr)(e:Int):(acg e).Ok 154 cr:=by
 refine tl (Z3 W) fun x y h=>?_
 obtain⟨hk,h⟩:=Lf.T.cG h
 obtain⟨h1,h⟩:=Lf.T.cG h
 cases h
 rw[<-of_decide_eq_true h1]
 show(Lf.T.ck (L2 x) (.ok (Ep x))).val=_
 rw[hk]
 rfl
def ach(e:Int):nK:=pL (Ps [.n .i64,.ag pU,.n .u32]) [] (Ps [.tu (Ps [.ag pU,.n .i64])]) FJ Bn fun x=>.ck (L1 x) (.ck (decide (Hv (Eo x)=e)) (.ok (cV [i64] (vO (PX (Eo x))) (e,()))))
theorem U9{cr:cu}(W:WQ cr)(e:Int):(ach e).Ok 156 cr:=by
 refine tl (Z1 W) fun x y h=>?_
 obtain⟨hk,h⟩:=Lf.T.cG h
 obtain⟨h1,h⟩:=Lf.T.cG h
 cases h
 rw[<-of_decide_eq_true h1]
 show(Lf.T.ck (L1 x) (.ok (Eo x))).val=_
 rw[hk]
 rfl
def aci(e:Int):nK:=pL (Ps [.n .i64,.ag pU,.ag pU]) [] (Ps [.tu (Ps [.ag pU,.n .i64])]) FI Ac fun x=>.ck (DM x) (.ck (decide (Hv (Ad x)=e)) (.ok (cV [i64] (vO (PX (Ad x))) (e,()))))
theorem U'{cr:cu}(W:WQ cr)(e:Int):(aci e).Ok 157 cr:=by
 refine tl (ZZ W) fun x y h=>?_
 obtain⟨hk,h⟩:=Lf.T.cG h
 obtain⟨h1,h⟩:=Lf.T.cG h
 cases h
 rw[<-of_decide_eq_true h1]
 show(Lf.T.ck (DM x) (.ok (Ad x))).val=_
 rw[hk]
 rfl
def acj(e:Int):nK:=pL (Ps [.n .i64,.ag pU,.ag pU]) [] (Ps [.tu (Ps [.ag pU,.n .i64])]) FL Bp fun x=>.ck (L3 x) (.ck (decide (Hv (Er x)=e)) (.ok (cV [i64] (vO (PX (Er x))) (e,()))))
theorem Va{cr:cu}(W:WQ cr)(e:Int):(acj e).Ok 158 cr:=by
 refine tl (Z5 W) fun x y h=>?_
 obtain⟨hk,h⟩:=Lf.T.cG h
 obtain⟨h1,h⟩:=Lf.T.cG h
 cases h
 rw[<-of_decide_eq_true h1]
 show(Lf.T.ck (L3 x) (.ok (Er x))).val=_
 rw[hk]
 rfl
def ack:nK:=pL (Ps [.n .i64,.ag pU]) [] (Ps [.tu (Ps [.n .u32,.n .i64])]) FM xd fun x=>.ck (Es x) (.ck (decide ((Ae x).2.1=0)) (.ok ((Ae x).1,0,())))
theorem Vb{cr:cu}(W:WQ cr):ack.Ok 146 cr:=by
 refine tl (Z7 W) fun x y h=>?_
 obtain⟨hk,h⟩:=Lf.T.cG h
 obtain⟨h1,h⟩:=Lf.T.cG h
 cases h
 rw[<-of_decide_eq_true h1]
 show(Lf.T.ck (Es x) (.ok (Ae x))).val=_
 rw[hk]
 rfl
abbrev Cl:=List Int×List Int×Int×Bool
def e38(c:Cl):List (Nat×nK):=bif c.2.2.2 then [(88,afy c.1 c.2.1),(146,sP),(147,sP),(148,sP),(149,sP),(151,sP),(152,sP),(154,sP),(155,sP),(156,sP),(157,sP),(158,sP),(159,sP)]else
 [(88,afy c.1 c.2.1),(146,ack),(147,sP),(148,sP),(149,sP),(151,sP),(152,sP),(153,acf),(154,acg 0),(155,sP),(156,ach 0),(157,aci c.2.2.1),(158,acj 0),(159,sP)]
theorem afA{cr:cu}(W:WQ cr)(c:Cl):n9 cr (e38 c):=by
 obtain⟨I,O,e,b⟩:=c
 cases b with
 |true=>exact(.cons (N2 W I O) (.cons nR (.cons nR (.cons nR (.cons nR (.cons nR (.cons nR (.cons nR (.cons nR (.cons nR (.cons nR (.cons nR (.cons nR .nil)))))))))))))
 |false=>exact(.cons (N2 W I O) (.cons (Vb W) (.cons nR (.cons nR (.cons nR (.cons nR (.cons nR (.cons (U7 W) (.cons (U8 W 0) (.cons nR (.cons (U9 W 0) (.cons (U' W e) (.cons (Va W 0) (.cons nR .nil))))))))))))))
def t38(c:Cl)(x:cf L6):Lf.T (List Pl):=q9 (Ps [.ag (Ps [.n .i64,.n .i64,.n .i64,.n .u64,.n .u64,.im i64]),.im u64]) [] (Ps [.tu (Ps [.ow u64,.n .i64])]) (fun _=>none) Tryz.x38 20 (qh (e38 c) 20) (cp L6 x)
def k38(c:Cl)(x:cf L6):Bool:=cO (oy pY (t38 c x))
def xg(c:Cl)(x:cf L6):cf pY:=cO (nA pY (t38 c x))
def s38(c:Cl):nK:=pL (Ps [.ag (Ps [.n .i64,.n .i64,.n .i64,.n .u64,.n .u64,.im i64]),.im u64]) [] (Ps [.tu (Ps [.ow u64,.n .i64])]) L6 pY fun x=>.ck (k38 c x) (.ok (xg c x))
theorem afB{cr:cu}(W:WQ cr)(c:Cl):(s38 c).Ok 38 cr:=
 cZ (W.in (afA W c) 20) (W.st 38 _ rfl) rfl (cF _) (m:=20) rfl (fun _=>ca _) (fun _=>ca _)
end Go.Proofs.Vq

noncomputable section
namespace Go.Proofs.Sw
def vZ(w:Nat):Nat:=match w with|8=>9259542123273814144|16=>9223512776490647552|32=>9223372039002259456| _=>9223372036854775808
def Br(w:Nat):Nat:=Up - vZ w
def FP(w:Nat):Nat:=match w with|8=>72340172838076673|16=>281479271743489|32=>4294967297| _=>1
def Vc(w:Nat):Nat:=match w with|8=>72624976668147840|16=>281483566907400|32=>4294967298| _=>1
def rM(x w i:Nat):List Sc:=.g x::(if w=64 then []else(if i=0 then []else [.k (w*i),.o 136])++[.k (2 ^ w - 1),.o 131])
def akP(w i:Nat):List Sc:=(if w=64 then []else [.k (2 ^ w - 1),.o 131])++(if i=0 then []else [.k (w*i),.o 134,.o 132])
def ate(w x y i:Nat):List Sc:=rM x w i++(rM y w i++(.o 126::akP w i))
def L7(w x y:Nat):Nat->List Sc
 |0=>[]
 |i+1=>L7 w x y i++ate w x y i
def akQ(k x y:Nat):List Sc:=[.g x,.g y]++((if k=2 then yF else [])++[.o (if k<=2 then 131 else if k=3 then 132 else 133)])
def akR(i:Nat):List Sc:=[.g (2+i),.g i,.g (2+i),.o 133,.g (4+i),.o 131,.o 133]
def J6(w x:Nat):List Sc:=[.g x,.k (w - 1),.o 136]++(if w=64 then []else [.k (FP w),.o 131,.k (Vc w),.o 126,.k (64 - w),.o 136,.k (2 ^ (64 / w) - 1),.o 131])
def aal(k:Nat):Nat:=if k<=1 then 1 else if k % 2=0 then 2 else 0
def aam(k:Nat):Nat:=if k=15∨k=18∨k=22∨k=24 then 2 else if k=16 then 1 else 0
def aan(k:Nat):Nat:=if k=0 then 1 else if k=1 then 0 else 2
def aao(w u k x y:Nat):List Sc:=if k=21 then L7 w x y (64 / w)else JJ w (vZ w) (Br w) (FP w) u k x y
def oQ(w k:Nat):List Sc×Nat:=
 if k=300 then([.s 1,.s 0]++(PE (vZ w) (Br w) 0++(PE (vZ w) (Br w) 1++[.o 131,.k (vZ w),.o 81])),2)
 else if k=301 then([.s 1,.s 0]++(J6 w 0++(J6 w 1++[.k (64 / w),.o 134,.o 132,.o 167])),2)
 else if k=200 then([.s 1,.s 0]++([.g 0]++(yF++([.g 1]++yF))),2)
 else if k=205 then([.s 5,.s 4,.s 3,.s 2,.s 1,.s 0]++(akR 0++akR 1),6)
 else if k=206 then([.o 132,.o 80,.o 69],0)
 else if 200<=k then([.s 3,.s 2,.s 1,.s 0]++(akQ (k - 200) 0 2++akQ (k - 200) 1 3),4)
 else if 100<=k then([.s 3,.s 2,.s 1,.s 0]++(PF w (vZ w) (Br w) 4 (k - 100) 0 2++PF w (vZ w) (Br w) (4+aal (k - 100)) (k - 100) 1 3),4+2*aal (k - 100))
 else if k<=2 then([.s 1,.s 0]++(Hc w (vZ w) (Br w) (FP w) 2 k 0++Hc w (vZ w) (Br w) (FP w) (2+aan k) k 1),2+2*aan k)
 else if k<=13 then([.s 2,.s 1,.s 0]++(Ns w (FP w) k 0++(w8 w (vZ w) k 0 0++w8 w (vZ w) k 0 1)),4)
 else([.s 3,.s 2,.s 1,.s 0]++(aao w 4 k 0 2++aao w (4+aam k) k 1 3),4+2*aam k)
end Go.Proofs.Sw

noncomputable section
namespace Go.Proofs.Vq
open Go.Ab Go.Ab.Lf Go.Proofs.Sw
set_option maxRecDepth 100000
abbrev Vd:List Ty:=[i64,i64,i64,u64,u64,.cq i64,i64]
abbrev xh:List Ty:=[.cq oi,i64,i64]
def e43:List (Nat×nK):=[(88,afv)]
theorem afC{cr:cu}(W:WQ cr):n9 cr e43:=.cons (Hw W) .nil
def t43(x:cf Vd):Lf.T (List Pl):=q9 (Ps [.ag (Ps [.n .i64,.n .i64,.n .i64,.n .u64,.n .u64,.im i64]),.n .i64]) [] (Ps [.tu (Ps [.ow oi,.n .i64,.n .i64])]) (fun _=>none) Tryz.x43 80 (qh e43 80) (cp Vd x)
def k43(x:cf Vd):Bool:=cO (oy xh (t43 x))
def VX(x:cf Vd):cf xh:=cO (nA xh (t43 x))
def s43:nK:=pL (Ps [.ag (Ps [.n .i64,.n .i64,.n .i64,.n .u64,.n .u64,.im i64]),.n .i64]) [] (Ps [.tu (Ps [.ow oi,.n .i64,.n .i64])]) Vd xh fun x=>.ck (k43 x) (.ok (VX x))
theorem afD{cr:cu}(W:WQ cr):s43.Ok 43 cr:=
 cZ (W.in (afC W) 80) (W.st 43 _ rfl) rfl (cF _) (m:=80) rfl (fun _=>ca _) (fun _=>ca _)
abbrev akS(b:Int)(p:List Sc×Nat):Option (List Pl):=bif (bif decide (b<0)then true else decide (4032<b))then some (cp xh ([],0,1,()))else some (cp xh (p.1.map (toC b),(p.2:Int),0,()))
abbrev akT(b:Int)(p:List Sc×Nat):Option (List Pl):=bif (bif decide (b<0)then true else decide (4032<b))then some (cp xh ([],0,1,()))else cA (decide (nz .i64 b 2=nz .i64 b 2)) (some (cp xh (p.1.map (toC b),(p.2:Int),0,())))
end Go.Proofs.Vq
