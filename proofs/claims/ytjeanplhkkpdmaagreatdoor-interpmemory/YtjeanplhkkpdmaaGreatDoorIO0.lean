import Derived.Test.YtjeanplhkkpdmaaGreatDoorIC
import Derived.Test.YtjeanplhkkpdmaaGreatDoorIJ0
import Derived.Test.YtjeanplhkkpdmaaGreatDoorIJ1
import Derived.Test.YtjeanplhkkpdmaaGreatDoorIJ2
import Derived.Test.YtjeanplhkkpdmaaGreatDoorIJ3
noncomputable section
namespace Go.Proofs.Vd
open Go.Ab Go.Ab.Lf
set_option maxRecDepth 100000
theorem R6:mP (8,0,true,[127,123],[123]) 64852=true:=lr (by kernel_rfl) (by kernel_rfl) (by kernel_rfl) (by kernel_rfl) (by kernel_rfl) (by kernel_rfl)
theorem R7:Mv (fun k=>CI 64852 (k:Int) true [123]/\CO 64852 (k:Int) 1) 16:=by
 refine⟨⟨⟨⟨⟨⟨⟨⟨⟨⟨⟨⟨⟨⟨⟨⟨trivial,?_⟩,?_⟩,?_⟩,?_⟩,?_⟩,?_⟩,?_⟩,?_⟩,?_⟩,?_⟩,?_⟩,?_⟩,?_⟩,?_⟩,?_⟩,?_⟩
 all_goals exact⟨⟨by kernel_rfl,fun _=>by kernel_rfl,by kernel_rfl,by kernel_rfl,fun _ _=>by kernel_rfl,fun _ _=>by kernel_rfl,fun _=>by kernel_rfl,fun _=>by kernel_rfl,fun _=>by kernel_rfl,by kernel_rfl,fun _=>by kernel_rfl⟩,fun b B L ad v=>by kernel_rfl⟩
end Go.Proofs.Vd

noncomputable section
namespace Go.Proofs.Vd
open Go.Ab Go.Ab.Lf
set_option maxRecDepth 100000
theorem R8:mP (8,0,true,[127,123],[]) 64856=true:=lr (by kernel_rfl) (by kernel_rfl) (by kernel_rfl) (by kernel_rfl) (by kernel_rfl) (by kernel_rfl)
theorem R9:Mv (fun k=>CI 64856 (k:Int) true []/\StP 64856 (k:Int) 1 (k*1) 1) 16:=by
 refine⟨⟨⟨⟨⟨⟨⟨⟨⟨⟨⟨⟨⟨⟨⟨⟨trivial,?_⟩,?_⟩,?_⟩,?_⟩,?_⟩,?_⟩,?_⟩,?_⟩,?_⟩,?_⟩,?_⟩,?_⟩,?_⟩,?_⟩,?_⟩,?_⟩
 all_goals exact⟨⟨by kernel_rfl,fun _=>by kernel_rfl,by kernel_rfl,by kernel_rfl,fun _ _=>by kernel_rfl,fun _ _=>by kernel_rfl,fun _=>by kernel_rfl,fun _=>by kernel_rfl,fun _=>by kernel_rfl,by kernel_rfl,fun _=>by kernel_rfl⟩,fun b B L ad v=>by kernel_rfl⟩
end Go.Proofs.Vd

noncomputable section
namespace Go.Proofs.Vd
open Go.Ab Go.Ab.Lf
set_option maxRecDepth 100000
theorem Sa:mP (8,1,true,[127,123],[123]) 64853=true:=lr (by kernel_rfl) (by kernel_rfl) (by kernel_rfl) (by kernel_rfl) (by kernel_rfl) (by kernel_rfl)
theorem Sb:Mv (fun k=>CI 64853 (k:Int) true [123]/\CO 64853 (k:Int) 2) 8:=by
 refine⟨⟨⟨⟨⟨⟨⟨⟨trivial,?_⟩,?_⟩,?_⟩,?_⟩,?_⟩,?_⟩,?_⟩,?_⟩
 all_goals exact⟨⟨by kernel_rfl,fun _=>by kernel_rfl,by kernel_rfl,by kernel_rfl,fun _ _=>by kernel_rfl,fun _ _=>by kernel_rfl,fun _=>by kernel_rfl,fun _=>by kernel_rfl,fun _=>by kernel_rfl,by kernel_rfl,fun _=>by kernel_rfl⟩,fun b B L ad v=>by kernel_rfl⟩
theorem Sc:mP (7,3,true,[127],[123]) 64772=true:=lr (by kernel_rfl) (by kernel_rfl) (by kernel_rfl) (by kernel_rfl) (by kernel_rfl) (by kernel_rfl)
theorem Sd:CI 64772 0 false [123]/\CO 64772 0 8/\GP 64772:=⟨⟨by kernel_rfl,fun _=>by kernel_rfl,by kernel_rfl,by kernel_rfl,fun _ _=>by kernel_rfl,fun _ _=>by kernel_rfl,fun _=>by kernel_rfl,fun _=>by kernel_rfl,fun _=>by kernel_rfl,by kernel_rfl,fun _=>by kernel_rfl⟩,fun b B L ad v=>by kernel_rfl,fun b B L ad v w=>by kernel_rfl⟩
theorem Se:mP (7,1,true,[127],[123]) 64776=true:=lr (by kernel_rfl) (by kernel_rfl) (by kernel_rfl) (by kernel_rfl) (by kernel_rfl) (by kernel_rfl)
theorem Sf:CI 64776 0 false [123]/\CO 64776 0 2/\GP 64776:=⟨⟨by kernel_rfl,fun _=>by kernel_rfl,by kernel_rfl,by kernel_rfl,fun _ _=>by kernel_rfl,fun _ _=>by kernel_rfl,fun _=>by kernel_rfl,fun _=>by kernel_rfl,fun _=>by kernel_rfl,by kernel_rfl,fun _=>by kernel_rfl⟩,fun b B L ad v=>by kernel_rfl,fun b B L ad v w=>by kernel_rfl⟩
theorem Sg:mP (7,2,true,[127],[123]) 64860=true:=lr (by kernel_rfl) (by kernel_rfl) (by kernel_rfl) (by kernel_rfl) (by kernel_rfl) (by kernel_rfl)
theorem Sh:CI 64860 0 false [123]/\CO 64860 0 4/\GP 64860:=⟨⟨by kernel_rfl,fun _=>by kernel_rfl,by kernel_rfl,by kernel_rfl,fun _ _=>by kernel_rfl,fun _ _=>by kernel_rfl,fun _=>by kernel_rfl,fun _=>by kernel_rfl,fun _=>by kernel_rfl,by kernel_rfl,fun _=>by kernel_rfl⟩,fun b B L ad v=>by kernel_rfl,fun b B L ad v w=>by kernel_rfl⟩
end Go.Proofs.Vd

noncomputable section
namespace Go.Proofs.Vd
open Go.Ab Go.Ab.Lf
set_option maxRecDepth 100000
theorem Si:mP (8,1,true,[127,123],[]) 64857=true:=lr (by kernel_rfl) (by kernel_rfl) (by kernel_rfl) (by kernel_rfl) (by kernel_rfl) (by kernel_rfl)
theorem Sj:Mv (fun k=>CI 64857 (k:Int) true []/\StP 64857 (k:Int) 2 (k*2) 2) 8:=by
 refine⟨⟨⟨⟨⟨⟨⟨⟨trivial,?_⟩,?_⟩,?_⟩,?_⟩,?_⟩,?_⟩,?_⟩,?_⟩
 all_goals exact⟨⟨by kernel_rfl,fun _=>by kernel_rfl,by kernel_rfl,by kernel_rfl,fun _ _=>by kernel_rfl,fun _ _=>by kernel_rfl,fun _=>by kernel_rfl,fun _=>by kernel_rfl,fun _=>by kernel_rfl,by kernel_rfl,fun _=>by kernel_rfl⟩,fun b B L ad v=>by kernel_rfl⟩
theorem Sk:mP (7,3,true,[127],[123]) 64773=true:=lr (by kernel_rfl) (by kernel_rfl) (by kernel_rfl) (by kernel_rfl) (by kernel_rfl) (by kernel_rfl)
theorem Sl:CI 64773 0 false [123]/\CO 64773 0 8/\GP 64773:=⟨⟨by kernel_rfl,fun _=>by kernel_rfl,by kernel_rfl,by kernel_rfl,fun _ _=>by kernel_rfl,fun _ _=>by kernel_rfl,fun _=>by kernel_rfl,fun _=>by kernel_rfl,fun _=>by kernel_rfl,by kernel_rfl,fun _=>by kernel_rfl⟩,fun b B L ad v=>by kernel_rfl,fun b B L ad v w=>by kernel_rfl⟩
theorem Sm:mP (7,2,true,[127],[123]) 64777=true:=lr (by kernel_rfl) (by kernel_rfl) (by kernel_rfl) (by kernel_rfl) (by kernel_rfl) (by kernel_rfl)
theorem Sn:CI 64777 0 false [123]/\CO 64777 0 4/\GP 64777:=⟨⟨by kernel_rfl,fun _=>by kernel_rfl,by kernel_rfl,by kernel_rfl,fun _ _=>by kernel_rfl,fun _ _=>by kernel_rfl,fun _=>by kernel_rfl,fun _=>by kernel_rfl,fun _=>by kernel_rfl,by kernel_rfl,fun _=>by kernel_rfl⟩,fun b B L ad v=>by kernel_rfl,fun b B L ad v w=>by kernel_rfl⟩
theorem So:mP (7,3,true,[127],[123]) 64861=true:=lr (by kernel_rfl) (by kernel_rfl) (by kernel_rfl) (by kernel_rfl) (by kernel_rfl) (by kernel_rfl)
theorem Sp:CI 64861 0 false [123]/\CO 64861 0 8/\GP 64861:=⟨⟨by kernel_rfl,fun _=>by kernel_rfl,by kernel_rfl,by kernel_rfl,fun _ _=>by kernel_rfl,fun _ _=>by kernel_rfl,fun _=>by kernel_rfl,fun _=>by kernel_rfl,fun _=>by kernel_rfl,by kernel_rfl,fun _=>by kernel_rfl⟩,fun b B L ad v=>by kernel_rfl,fun b B L ad v w=>by kernel_rfl⟩
end Go.Proofs.Vd

noncomputable section
namespace Go.Proofs.Vd
open Go.Ab Go.Ab.Lf
set_option maxRecDepth 100000
theorem Sq:mP (8,2,true,[127,123],[123]) 64854=true:=lr (by kernel_rfl) (by kernel_rfl) (by kernel_rfl) (by kernel_rfl) (by kernel_rfl) (by kernel_rfl)
theorem Sr:Mv (fun k=>CI 64854 (k:Int) true [123]/\CO 64854 (k:Int) 4) 4:=by
 refine⟨⟨⟨⟨trivial,?_⟩,?_⟩,?_⟩,?_⟩
 all_goals exact⟨⟨by kernel_rfl,fun _=>by kernel_rfl,by kernel_rfl,by kernel_rfl,fun _ _=>by kernel_rfl,fun _ _=>by kernel_rfl,fun _=>by kernel_rfl,fun _=>by kernel_rfl,fun _=>by kernel_rfl,by kernel_rfl,fun _=>by kernel_rfl⟩,fun b B L ad v=>by kernel_rfl⟩
theorem Ss:mP (8,3,true,[127,123],[123]) 64855=true:=lr (by kernel_rfl) (by kernel_rfl) (by kernel_rfl) (by kernel_rfl) (by kernel_rfl) (by kernel_rfl)
theorem Su:Mv (fun k=>CI 64855 (k:Int) true [123]/\CO 64855 (k:Int) 8) 2:=by
 refine⟨⟨trivial,?_⟩,?_⟩
 all_goals exact⟨⟨by kernel_rfl,fun _=>by kernel_rfl,by kernel_rfl,by kernel_rfl,fun _ _=>by kernel_rfl,fun _ _=>by kernel_rfl,fun _=>by kernel_rfl,fun _=>by kernel_rfl,fun _=>by kernel_rfl,by kernel_rfl,fun _=>by kernel_rfl⟩,fun b B L ad v=>by kernel_rfl⟩
theorem Sw:mP (7,4,true,[127],[123]) 64768=true:=lr (by kernel_rfl) (by kernel_rfl) (by kernel_rfl) (by kernel_rfl) (by kernel_rfl) (by kernel_rfl)
theorem Sx:CI 64768 0 false [123]/\LdQ 64768/\GP 64768:=⟨⟨by kernel_rfl,fun _=>by kernel_rfl,by kernel_rfl,by kernel_rfl,fun _ _=>by kernel_rfl,fun _ _=>by kernel_rfl,fun _=>by kernel_rfl,fun _=>by kernel_rfl,fun _=>by kernel_rfl,by kernel_rfl,fun _=>by kernel_rfl⟩,fun b B L ad v=>by kernel_rfl,fun b B L ad v w=>by kernel_rfl⟩
theorem Sy:mP (7,3,true,[127],[123]) 64770=true:=lr (by kernel_rfl) (by kernel_rfl) (by kernel_rfl) (by kernel_rfl) (by kernel_rfl) (by kernel_rfl)
theorem Sz:CI 64770 0 false [123]/\CO 64770 0 8/\GP 64770:=⟨⟨by kernel_rfl,fun _=>by kernel_rfl,by kernel_rfl,by kernel_rfl,fun _ _=>by kernel_rfl,fun _ _=>by kernel_rfl,fun _=>by kernel_rfl,fun _=>by kernel_rfl,fun _=>by kernel_rfl,by kernel_rfl,fun _=>by kernel_rfl⟩,fun b B L ad v=>by kernel_rfl,fun b B L ad v w=>by kernel_rfl⟩
theorem SA:mP (7,3,true,[127],[123]) 64774=true:=lr (by kernel_rfl) (by kernel_rfl) (by kernel_rfl) (by kernel_rfl) (by kernel_rfl) (by kernel_rfl)
theorem SB:CI 64774 0 false [123]/\CO 64774 0 8/\GP 64774:=⟨⟨by kernel_rfl,fun _=>by kernel_rfl,by kernel_rfl,by kernel_rfl,fun _ _=>by kernel_rfl,fun _ _=>by kernel_rfl,fun _=>by kernel_rfl,fun _=>by kernel_rfl,fun _=>by kernel_rfl,by kernel_rfl,fun _=>by kernel_rfl⟩,fun b B L ad v=>by kernel_rfl,fun b B L ad v w=>by kernel_rfl⟩
theorem SC:mP (7,3,true,[127],[123]) 64778=true:=lr (by kernel_rfl) (by kernel_rfl) (by kernel_rfl) (by kernel_rfl) (by kernel_rfl) (by kernel_rfl)
theorem SD:CI 64778 0 false [123]/\CO 64778 0 8/\GP 64778:=⟨⟨by kernel_rfl,fun _=>by kernel_rfl,by kernel_rfl,by kernel_rfl,fun _ _=>by kernel_rfl,fun _ _=>by kernel_rfl,fun _=>by kernel_rfl,fun _=>by kernel_rfl,fun _=>by kernel_rfl,by kernel_rfl,fun _=>by kernel_rfl⟩,fun b B L ad v=>by kernel_rfl,fun b B L ad v w=>by kernel_rfl⟩
end Go.Proofs.Vd

noncomputable section
namespace Go.Proofs.Vd
open Go.Ab Go.Ab.Lf
set_option maxRecDepth 100000
theorem SE:mP (8,2,true,[127,123],[]) 64858=true:=lr (by kernel_rfl) (by kernel_rfl) (by kernel_rfl) (by kernel_rfl) (by kernel_rfl) (by kernel_rfl)
theorem SF:Mv (fun k=>CI 64858 (k:Int) true []/\StP 64858 (k:Int) 4 (k*4) 4) 4:=by
 refine⟨⟨⟨⟨trivial,?_⟩,?_⟩,?_⟩,?_⟩
 all_goals exact⟨⟨by kernel_rfl,fun _=>by kernel_rfl,by kernel_rfl,by kernel_rfl,fun _ _=>by kernel_rfl,fun _ _=>by kernel_rfl,fun _=>by kernel_rfl,fun _=>by kernel_rfl,fun _=>by kernel_rfl,by kernel_rfl,fun _=>by kernel_rfl⟩,fun b B L ad v=>by kernel_rfl⟩
theorem SG:mP (8,3,true,[127,123],[]) 64859=true:=lr (by kernel_rfl) (by kernel_rfl) (by kernel_rfl) (by kernel_rfl) (by kernel_rfl) (by kernel_rfl)
theorem SH:Mv (fun k=>CI 64859 (k:Int) true []/\StP 64859 (k:Int) 8 (k*8) 8) 2:=by
 refine⟨⟨trivial,?_⟩,?_⟩
 all_goals exact⟨⟨by kernel_rfl,fun _=>by kernel_rfl,by kernel_rfl,by kernel_rfl,fun _ _=>by kernel_rfl,fun _ _=>by kernel_rfl,fun _=>by kernel_rfl,fun _=>by kernel_rfl,fun _=>by kernel_rfl,by kernel_rfl,fun _=>by kernel_rfl⟩,fun b B L ad v=>by kernel_rfl⟩
theorem SI:mP (7,3,true,[127],[123]) 64769=true:=lr (by kernel_rfl) (by kernel_rfl) (by kernel_rfl) (by kernel_rfl) (by kernel_rfl) (by kernel_rfl)
theorem SJ:CI 64769 0 false [123]/\CO 64769 0 8/\GP 64769:=⟨⟨by kernel_rfl,fun _=>by kernel_rfl,by kernel_rfl,by kernel_rfl,fun _ _=>by kernel_rfl,fun _ _=>by kernel_rfl,fun _=>by kernel_rfl,fun _=>by kernel_rfl,fun _=>by kernel_rfl,by kernel_rfl,fun _=>by kernel_rfl⟩,fun b B L ad v=>by kernel_rfl,fun b B L ad v w=>by kernel_rfl⟩
theorem SK:mP (7,3,true,[127],[123]) 64771=true:=lr (by kernel_rfl) (by kernel_rfl) (by kernel_rfl) (by kernel_rfl) (by kernel_rfl) (by kernel_rfl)
theorem SL:CI 64771 0 false [123]/\CO 64771 0 8/\GP 64771:=⟨⟨by kernel_rfl,fun _=>by kernel_rfl,by kernel_rfl,by kernel_rfl,fun _ _=>by kernel_rfl,fun _ _=>by kernel_rfl,fun _=>by kernel_rfl,fun _=>by kernel_rfl,fun _=>by kernel_rfl,by kernel_rfl,fun _=>by kernel_rfl⟩,fun b B L ad v=>by kernel_rfl,fun b B L ad v w=>by kernel_rfl⟩
theorem SM:mP (7,0,true,[127],[123]) 64775=true:=lr (by kernel_rfl) (by kernel_rfl) (by kernel_rfl) (by kernel_rfl) (by kernel_rfl) (by kernel_rfl)
theorem SN:CI 64775 0 false [123]/\CO 64775 0 1/\GP 64775:=⟨⟨by kernel_rfl,fun _=>by kernel_rfl,by kernel_rfl,by kernel_rfl,fun _ _=>by kernel_rfl,fun _ _=>by kernel_rfl,fun _=>by kernel_rfl,fun _=>by kernel_rfl,fun _=>by kernel_rfl,by kernel_rfl,fun _=>by kernel_rfl⟩,fun b B L ad v=>by kernel_rfl,fun b B L ad v w=>by kernel_rfl⟩
theorem SO:mP (7,4,true,[127,123],[]) 64779=true:=lr (by kernel_rfl) (by kernel_rfl) (by kernel_rfl) (by kernel_rfl) (by kernel_rfl) (by kernel_rfl)
theorem SP:CI 64779 0 true []/\StQ 64779:=⟨⟨by kernel_rfl,fun _=>by kernel_rfl,by kernel_rfl,by kernel_rfl,fun _ _=>by kernel_rfl,fun _ _=>by kernel_rfl,fun _=>by kernel_rfl,fun _=>by kernel_rfl,fun _=>by kernel_rfl,by kernel_rfl,fun _=>by kernel_rfl⟩,fun b B L ad v=>⟨hfN ((vLI v).drop 8) 0 0,hfN ((vLI v).take 8) 0 0,by kernel_rfl⟩⟩
end Go.Proofs.Vd

noncomputable section
namespace Go.Proofs.Vd
open Go.Ab Go.Ab.Lf
set_option maxRecDepth 100000
def aot(x:cb [i64]):Lf.T (List Pl):=kO (Ps [.n .i64]) [] (Ps [.n .i64]) (fun _=>none) Tryz.x14 9 (je [] 9) (cp [i64] x)
def TO(op:Int):Bool:=(decide (-9223372036854775808<=op)&&decide (op<9223372036854775808))&&(!(decide (64768<=op)&&decide (op<=64779))&& !(decide (64852<=op)&&decide (op<=64861)))
def aju:iK:=kf (Ps [.n .i64]) [] (Ps [.n .i64]) [i64] [i64] fun x=>.ck (TO x.1) (.ok (0,()))
def e4z:List (Nat×iK):=[(5,s5a),(14,aju)]
def t4z(x:cb (i64::Ej)):Lf.T (List Pl):=kO (Ps [X6,.n .u32,.ag Bj]) [] (Ps [.bo]) (fun _=>none) Tryz.x4 80 (je e4z 80) (cp (i64::Ej) x)
theorem aou(op:Int):(aot (op,())).val=let k:=il .i64 op 64768
 bif decide (k=0)then some (cp [i64] (16,()))else bif decide (k=11)then some (cp [i64] (16,()))else bif (bif decide (1<=k)then decide (k<=6)else false)then some (cp [i64] (8,()))else bif decide (k=93)then some (cp [i64] (8,()))else
 bif (bif decide (7<=k)then decide (k<=10)else false)then cz (decide (0<=il .i64 k 7)) (some (cp [i64] (BJ .i64 1 (il .i64 k 7),())))else bif (bif decide (84<=k)then decide (k<=91)else false)then cz (decide (0<=aaX .i64 k 4)) (some (cp [i64] (BJ .i64 1 (aaX .i64 k 4),())))else bif decide (k=92)then some (cp [i64] (4,()))else some (cp [i64] (0,())):=by kernel_rfl
theorem ajv(op:Int)(r0: -9223372036854775808<=op)(r1:op<9223372036854775808)(h2: ¬ 64768<=op∨ ¬ op<=64779)(h3: ¬ 64852<=op∨ ¬ op<=64861): ∃ k:Int,il .i64 op 64768=k/\(k<0∨94<=k∨(12<=k/\k<84)):=by
 by_cases q: -9223372036854775808<=op - 64768
 ·exact⟨op - 64768,wrap_i64 q (by omega),by omega⟩
 ·refine⟨op - 64768+18446744073709551616,?_,by omega⟩
  show(op - 64768+9223372036854775808) % 18446744073709551616 - 9223372036854775808=_
  omega
theorem Yp{V:ByteArray->Bool}{cf:cg}(W:WorldS V cf):aju.Ok 14 cf:=by
 refine iI (W.toWorld.in .nil 9) (W.toWorld.st 14 _ rfl) rfl (cu _) (m:=9) rfl ?_
 rintro⟨op,⟨⟩⟩ y h
 obtain⟨h1,h⟩:=Lf.T.cy h
 cases h
 have h1:TO op=true:=h1
 unfold TO at h1
 simp only[Bool.and_eq_true,decide_eq_true_eq,Bool.not_eq_true',Bool.and_eq_false_iff,decide_eq_false_iff_not]at h1
 obtain⟨⟨r0,r1⟩,h2,h3⟩:=h1
 have hk:=ajv op r0 r1 h2 h3
 obtain⟨k,e,hk⟩:=hk
 refine(aou op).trans ?_
 rw[e]
 dsimp only
 rw[df (show ¬ k=0 by omega),df (show ¬ k=11 by omega),df (show ¬ k=93 by omega),df (show ¬ k=92 by omega)]
 rw[show(bif decide (1<=k)then decide (k<=6)else false)=false by by_cases h:1<=k;(rw[dt h,df (show ¬ k<=6 by omega)];rfl);(rw[df h];rfl)]
 rw[show(bif decide (7<=k)then decide (k<=10)else false)=false by by_cases h:7<=k;(rw[dt h,df (show ¬ k<=10 by omega)];rfl);(rw[df h];rfl)]
 rw[show(bif decide (84<=k)then decide (k<=91)else false)=false by by_cases h:84<=k;(rw[dt h,df (show ¬ k<=91 by omega)];rfl);(rw[df h];rfl)]
 rfl
theorem aeR{V:ByteArray->Bool}{cf:cg}(W:WI V cf):jd cf e4z:=.cons W.aw (.cons (Yp W.toWorldS) .nil)
theorem aov(op A B Lo Hi:Int)(L:List Int)(ad:Int)(v:cb (t16 [])):(t4z (op,A,B,Lo,Hi,L,ad,v)).val=cz (TO op) (some (cp [.bool] (true,()))):=by kernel_rfl
def s4z:iK:=kf (Ps [X6,.n .u32,.ag Bj]) [] (Ps [.bo]) (i64::Ej) [.bool] fun x=>.ck (TO x.1) (.ok (true,()))
theorem aeS{V:ByteArray->Bool}{cf:cg}(W:WI V cf):s4z.Ok 4 cf:=by
 refine iI (W.toWorld.in (aeR W) 80) (W.toWorld.st 4 _ rfl) rfl (cu _) (m:=80) rfl ?_
 rintro⟨op,A,B,Lo,Hi,L,ad,v⟩ y h
 obtain⟨h1,h⟩:=Lf.T.cy h
 cases h
 have h1:TO op=true:=h1
 refine(aov op A B Lo Hi L ad v).trans ?_
 rw[h1]
 rfl
theorem aeT{B Lo:Int}(h:Bl B Lo none=false):0<=B/\B<4294967296:=by
 unfold Bl at h
 by_cases h0:B<0
 ·rw[dt h0]at h;cases h
 ·by_cases h1:4294967296<=B
  ·rw[df h0,dt h1]at h;cases h
  ·omega
theorem ajw{B Lo w:Int}(h:Bl B Lo (some w)=false)(hw:cE .u64 w=w):(0<=B/\B<4294967296)/\Lo<w:=by
 unfold Bl at h
 by_cases h0:B<0
 ·rw[dt h0]at h;cases h
 ·by_cases h1:4294967296<=B
  ·rw[df h0,dt h1]at h;cases h
  ·rw[df h0,df h1]at h
   have h:=of_decide_eq_false h
   rw[hw]at h
   omega
def xe(I:den nR)(op:Int):Prop:= ∀ (V:ByteArray->Bool) (Z:List Int),Z=List.replicate 65536 (0:Int)-> ∀ (A B Lo Hi:Int) (L:List Int) (ad:Int) (v:cb (t16 [])),0<=Lo->0<=ad->ad<4294967296->ByV v->(t4w V Z I op (A,B,Lo,Hi,L,ad,v)).val=yes
theorem aow{I:den nR}{op:Int}(hE:I0 I op none)(ho:mP I op=true)(hc:CI op 0 true []/\StQ op):xe I op:=by
 intro V Z hZ A B Lo Hi L ad v l0 a0 a1 hv
 rw[hE V Z A B Lo Hi L ad v]
 cases h:Bl B Lo none with
 |true=>rw[cond_true]
 |false=>
  obtain⟨b0,b1⟩:=aeT h
  rw[cond_false,Option.isSome_none,cond_false]
  exact ajt hZ ho hc.1 b0 b1 a0 a1 hv fun b hb=>hc.2.g hb b0 b1 ad v
theorem Yq{I:den nR}{op:Int}{w n m:Nat}(hE:I0 I op (some (w:Int)))(ho:mP I op=true)(hw:cE .u64 (w:Int)=(w:Int))(hn:(n:Int)=1∨(n:Int)=2∨(n:Int)=4∨(n:Int)=8)(hc:Mv (fun k=>CI op (k:Int) true []/\StP op (k:Int) (n:Int) (k*m) m) w):xe I op:=by
 intro V Z hZ A B Lo Hi L ad v l0 a0 a1 hv
 rw[hE V Z A B Lo Hi L ad v]
 cases h:Bl B Lo (some (w:Int))with
 |true=>rw[cond_true]
 |false=>
  obtain⟨⟨b0,b1⟩,l1⟩:=ajw h hw
  obtain⟨k,rfl⟩: ∃ k:Nat,Lo=k:=⟨Lo.toNat,by omega⟩
  obtain⟨C,G⟩:=hc.get k (by omega)
  rw[cond_false,Option.isSome_some,cond_true]
  exact ajt hZ ho C b0 b1 a0 a1 hv fun b hb=>G.g hn hb b0 b1 ad v
theorem aox{I:den nR}{op:Int}(hE:rQ I op none)(ho:mP I op=true)(hc:CI op 0 false [123]/\LdQ op/\GP op):xe I op:=by
 intro V Z hZ A B Lo Hi L ad v l0 a0 a1 hv
 rw[hE V Z A B Lo Hi L ad v]
 cases h:Bl B Lo none with
 |true=>rw[cond_true]
 |false=>
  obtain⟨b0,b1⟩:=aeT h
  rw[cond_false,Option.isSome_none,cond_false]
  exact aeQ (w:=none) hZ ho hc.1 b0 b1 a0 a1 hv (fun b hb v=>hc.2.1.g hb b0 b1 ad v) fun _ b v'=>hc.2.2.m b B ad v v'
theorem yV{I:den nR}{op n:Int}(hE:rQ I op none)(ho:mP I op=true)(hn:n=1∨n=2∨n=4∨n=8)(hc:CI op 0 false [123]/\CO op 0 n/\GP op):xe I op:=by
 intro V Z hZ A B Lo Hi L ad v l0 a0 a1 hv
 rw[hE V Z A B Lo Hi L ad v]
 cases h:Bl B Lo none with
 |true=>rw[cond_true]
 |false=>
  obtain⟨b0,b1⟩:=aeT h
  rw[cond_false,Option.isSome_none,cond_false]
  exact aeQ (w:=none) hZ ho hc.1 b0 b1 a0 a1 hv (fun b hb v=>hc.2.1.g hn hb b0 b1 ad v) fun _ b v'=>hc.2.2.m b B ad v v'
theorem Yr{I:den nR}{op:Int}{w n:Nat}(hE:rQ I op (some (w:Int)))(ho:mP I op=true)(hw:cE .u64 (w:Int)=(w:Int))(hn:(n:Int)=1∨(n:Int)=2∨(n:Int)=4∨(n:Int)=8)(hc:Mv (fun k=>CI op (k:Int) true [123]/\CO op (k:Int) (n:Int)) w):xe I op:=by
 intro V Z hZ A B Lo Hi L ad v l0 a0 a1 hv
 rw[hE V Z A B Lo Hi L ad v]
 cases h:Bl B Lo (some (w:Int))with
 |true=>rw[cond_true]
 |false=>
  obtain⟨⟨b0,b1⟩,l1⟩:=ajw h hw
  obtain⟨k,rfl⟩: ∃ k:Nat,Lo=k:=⟨Lo.toNat,by omega⟩
  obtain⟨C,G⟩:=hc.get k (by omega)
  rw[cond_false,Option.isSome_some,cond_true]
  exact aeQ (w:=some (w:Int)) hZ ho C b0 b1 a0 a1 hv (fun b hb v=>G.g hn hb b0 b1 ad v) fun h=>nomatch h
theorem SQ:xe (7,4,true,[127],[123]) 64768:=aox Mw Sw Sx
theorem SS:xe (7,3,true,[127],[123]) 64769:=yV (n:=8) MD SI (.inr (.inr (.inr rfl))) SJ
theorem SU:xe (7,3,true,[127],[123]) 64770:=yV (n:=8) MJ Sy (.inr (.inr (.inr rfl))) Sz
theorem SW:xe (7,3,true,[127],[123]) 64771:=yV (n:=8) MO SK (.inr (.inr (.inr rfl))) SL
theorem SX:xe (7,3,true,[127],[123]) 64772:=yV (n:=8) Mx Sc (.inr (.inr (.inr rfl))) Sd
theorem SY:xe (7,3,true,[127],[123]) 64773:=yV (n:=8) ME Sk (.inr (.inr (.inr rfl))) Sl
theorem SZ:xe (7,3,true,[127],[123]) 64774:=yV (n:=8) MK SA (.inr (.inr (.inr rfl))) SB
theorem S4:xe (7,0,true,[127],[123]) 64775:=yV (n:=1) MP SM (.inl rfl) SN
theorem S5:xe (7,1,true,[127],[123]) 64776:=yV (n:=2) My Se (.inr (.inl rfl)) Sf
theorem S6:xe (7,2,true,[127],[123]) 64777:=yV (n:=4) MF Sm (.inr (.inr (.inl rfl))) Sn
theorem S7:xe (7,3,true,[127],[123]) 64778:=yV (n:=8) ML SC (.inr (.inr (.inr rfl))) SD
theorem S8:xe (7,4,true,[127,123],[]) 64779:=aow MQ SO SP
theorem S9:xe (8,0,true,[127,123],[123]) 64852:=Yr (w:=16) (n:=1) Mz R6 rfl (.inl rfl) R7
theorem Ta:xe (8,1,true,[127,123],[123]) 64853:=Yr (w:=8) (n:=2) MG Sa rfl (.inr (.inl rfl)) Sb
theorem Tb:xe (8,2,true,[127,123],[123]) 64854:=Yr (w:=4) (n:=4) MM Sq rfl (.inr (.inr (.inl rfl))) Sr
theorem Tc:xe (8,3,true,[127,123],[123]) 64855:=Yr (w:=2) (n:=8) MR Ss rfl (.inr (.inr (.inr rfl))) Su
theorem Td:xe (8,0,true,[127,123],[]) 64856:=Yq (w:=16) (n:=1) MA R8 rfl (.inl rfl) R9
theorem Te:xe (8,1,true,[127,123],[]) 64857:=Yq (w:=8) (n:=2) MH Si rfl (.inr (.inl rfl)) Sj
theorem Tf:xe (8,2,true,[127,123],[]) 64858:=Yq (w:=4) (n:=4) MN SE rfl (.inr (.inr (.inl rfl))) SF
theorem Tg:xe (8,3,true,[127,123],[]) 64859:=Yq (w:=2) (n:=8) MS SG rfl (.inr (.inr (.inr rfl))) SH
theorem Th:xe (7,2,true,[127],[123]) 64860:=yV (n:=4) MC Sg (.inr (.inr (.inl rfl))) Sh
theorem Ti:xe (7,3,true,[127],[123]) 64861:=yV (n:=8) MI So (.inr (.inr (.inr rfl))) Sp
end Go.Proofs.Vd
